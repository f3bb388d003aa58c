-- WRITTEN BY wip/xprint.py of this repo, over the kit's print; functions the print does not take are by hand
import Derived.Test.YtblmcdpfhdamjaaPPaintWindowx0
import Derived.Test.YtblmcdpfhdamjaaPPaintWindowx3
namespace Go.Proofs.Ytblmcdpfhdamjaa.PPaintWindow
open Go.RowKit Go.Proofs.YtblmcdpfhdamjaaW.PrintWords Go.Proofs.YtblmcdpfhdamjaaW.PrintLast Go.Proofs.YtblmcdpfhdamjaaW.PrintMore
attribute [local go_sem] max2_int min2_int max_two min_two max_three min_three max_four min_four   -- for this text's walks alone
set_option linter.unusedVariables false
set_option linter.unusedSimpArgs false
/-! ### regletref04_Style: function 69 -/
mutual
def regletref04_Style.l0 : Nat → List Int → Int → Int → Int → Int → Int → Int → Int → List (S134) → Bool → Option (Int)
  | 0, _, _, _, _, _, _, _, _, _, _ => none
  | k + 1, x3, x4, x102000, x102001, x102002, x102003, x102004, x102005, x102006, x102007 => if x4 < (x3.length : Int) then (if 0 ≤ x4 then ((regletref04_fits.f (rd x3 x4) 0).bind fun t106 => (if t106 = true then (regletref04_Style.l0 k x3 (wrap64 (x4 + 1)) x102000 x102001 x102002 x102003 x102004 x102005 x102006 x102007) else (some 41))) else (none)) else ((regletref04_fits.f x102000 1).bind fun t107 => (if t107 = true then (regletref04_Style.j1 k (decide (x102003 > x102001)) x102000 x102001 x102002 x102003 x102004 x102005 x102006 x102007) else (regletref04_Style.j1 k true x102000 x102001 x102002 x102003 x102004 x102005 x102006 x102007)))
def regletref04_Style.j1 : Nat → Bool → Int → Int → Int → Int → Int → Int → List (S134) → Bool → Option (Int)
  | 0, _, _, _, _, _, _, _, _, _ => none
  | k + 1, x40, x102000, x102001, x102002, x102003, x102004, x102005, x102006, x102007 => if x40 = true then (some 41) else (if (x102006.length : Int) > 64 then (some 42) else (regletref04_Style.l1 k 0 x102000 x102001 x102002 x102003 x102004 x102005 x102006 x102007))
def regletref04_Style.l1 : Nat → Int → Int → Int → Int → Int → Int → Int → List (S134) → Bool → Option (Int)
  | 0, _, _, _, _, _, _, _, _, _ => none
  | k + 1, x5, x102000, x102001, x102002, x102003, x102004, x102005, x102006, x102007 => if x5 < (x102006.length : Int) then (if 0 ≤ x5 then (if x5 = 0 then (if ((rd_T134 x102006 x5).f0) < 0 then (regletref04_Style.j3 k x5 true x102000 x102001 x102002 x102003 x102004 x102005 x102006 x102007 ((rd_T134 x102006 x5).f0) ((rd_T134 x102006 x5).f1) ((rd_T134 x102006 x5).f2)) else (if x5 > 0 then (if 0 ≤ (wrap64 (x5 - 1)) then (if (wrap64 (x5 - 1)) < (x102006.length : Int) then (if ((rd_T134 x102006 x5).f0) ≤ ((rd_T134 x102006 (wrap64 (x5 - 1))).f1) then (regletref04_Style.j3 k x5 true x102000 x102001 x102002 x102003 x102004 x102005 x102006 x102007 ((rd_T134 x102006 x5).f0) ((rd_T134 x102006 x5).f1) ((rd_T134 x102006 x5).f2)) else (if ((rd_T134 x102006 x5).f1) < ((rd_T134 x102006 x5).f0) then (regletref04_Style.j3 k x5 true x102000 x102001 x102002 x102003 x102004 x102005 x102006 x102007 ((rd_T134 x102006 x5).f0) ((rd_T134 x102006 x5).f1) ((rd_T134 x102006 x5).f2)) else (regletref04_Style.j3 k x5 (decide (((rd_T134 x102006 x5).f1) > 1114111)) x102000 x102001 x102002 x102003 x102004 x102005 x102006 x102007 ((rd_T134 x102006 x5).f0) ((rd_T134 x102006 x5).f1) ((rd_T134 x102006 x5).f2)))) else (none)) else (none)) else (if ((rd_T134 x102006 x5).f1) < ((rd_T134 x102006 x5).f0) then (regletref04_Style.j3 k x5 true x102000 x102001 x102002 x102003 x102004 x102005 x102006 x102007 ((rd_T134 x102006 x5).f0) ((rd_T134 x102006 x5).f1) ((rd_T134 x102006 x5).f2)) else (regletref04_Style.j3 k x5 (decide (((rd_T134 x102006 x5).f1) > 1114111)) x102000 x102001 x102002 x102003 x102004 x102005 x102006 x102007 ((rd_T134 x102006 x5).f0) ((rd_T134 x102006 x5).f1) ((rd_T134 x102006 x5).f2))))) else (if x5 > 0 then (if 0 ≤ (wrap64 (x5 - 1)) then (if (wrap64 (x5 - 1)) < (x102006.length : Int) then (if ((rd_T134 x102006 x5).f0) ≤ ((rd_T134 x102006 (wrap64 (x5 - 1))).f1) then (regletref04_Style.j3 k x5 true x102000 x102001 x102002 x102003 x102004 x102005 x102006 x102007 ((rd_T134 x102006 x5).f0) ((rd_T134 x102006 x5).f1) ((rd_T134 x102006 x5).f2)) else (if ((rd_T134 x102006 x5).f1) < ((rd_T134 x102006 x5).f0) then (regletref04_Style.j3 k x5 true x102000 x102001 x102002 x102003 x102004 x102005 x102006 x102007 ((rd_T134 x102006 x5).f0) ((rd_T134 x102006 x5).f1) ((rd_T134 x102006 x5).f2)) else (regletref04_Style.j3 k x5 (decide (((rd_T134 x102006 x5).f1) > 1114111)) x102000 x102001 x102002 x102003 x102004 x102005 x102006 x102007 ((rd_T134 x102006 x5).f0) ((rd_T134 x102006 x5).f1) ((rd_T134 x102006 x5).f2)))) else (none)) else (none)) else (if ((rd_T134 x102006 x5).f1) < ((rd_T134 x102006 x5).f0) then (regletref04_Style.j3 k x5 true x102000 x102001 x102002 x102003 x102004 x102005 x102006 x102007 ((rd_T134 x102006 x5).f0) ((rd_T134 x102006 x5).f1) ((rd_T134 x102006 x5).f2)) else (regletref04_Style.j3 k x5 (decide (((rd_T134 x102006 x5).f1) > 1114111)) x102000 x102001 x102002 x102003 x102004 x102005 x102006 x102007 ((rd_T134 x102006 x5).f0) ((rd_T134 x102006 x5).f1) ((rd_T134 x102006 x5).f2))))) else (none)) else (some 0)
def regletref04_Style.j3 : Nat → Int → Bool → Int → Int → Int → Int → Int → Int → List (S134) → Bool → Int → Int → Int → Option (Int)
  | 0, _, _, _, _, _, _, _, _, _, _, _, _, _ => none
  | k + 1, x5, x91, x102000, x102001, x102002, x102003, x102004, x102005, x102006, x102007, x110000, x110001, x110002 => if x91 = true then (some 42) else ((regletref04_fits.f x110002 0).bind fun t112 => (if t112 = true then (regletref04_Style.l1 k (wrap64 (x5 + 1)) x102000 x102001 x102002 x102003 x102004 x102005 x102006 x102007) else (some 41)))
end
def regletref04_Style.f (k : Nat) (a0_0 : Int) (a0_1 : Int) (a0_2 : Int) (a0_3 : Int) (a0_4 : Int) (a0_5 : Int) (l0_6 : List (S134)) (a0_7 : Bool) : Option (Int) := regletref04_Style.l0 k (([a0_1, a0_2, a0_3, a0_4, a0_5] : List Int)) 0 a0_0 a0_1 a0_2 a0_3 a0_4 a0_5 l0_6 a0_7
theorem regletref04_Style.mono_l : ∀ k, (∀ y0 y1 y2 y3 y4 y5 y6 y7 y8 y9, LeO (regletref04_Style.l0 k y0 y1 y2 y3 y4 y5 y6 y7 y8 y9) (regletref04_Style.l0 (k + 1) y0 y1 y2 y3 y4 y5 y6 y7 y8 y9)) ∧ (∀ y0 y1 y2 y3 y4 y5 y6 y7 y8, LeO (regletref04_Style.j1 k y0 y1 y2 y3 y4 y5 y6 y7 y8) (regletref04_Style.j1 (k + 1) y0 y1 y2 y3 y4 y5 y6 y7 y8)) ∧ (∀ y0 y1 y2 y3 y4 y5 y6 y7 y8, LeO (regletref04_Style.l1 k y0 y1 y2 y3 y4 y5 y6 y7 y8) (regletref04_Style.l1 (k + 1) y0 y1 y2 y3 y4 y5 y6 y7 y8)) ∧ (∀ y0 y1 y2 y3 y4 y5 y6 y7 y8 y9 y10 y11 y12, LeO (regletref04_Style.j3 k y0 y1 y2 y3 y4 y5 y6 y7 y8 y9 y10 y11 y12) (regletref04_Style.j3 (k + 1) y0 y1 y2 y3 y4 y5 y6 y7 y8 y9 y10 y11 y12))
  | 0 => ⟨fun _ _ _ _ _ _ _ _ _ _ r h => by simp [regletref04_Style.l0] at h, fun _ _ _ _ _ _ _ _ _ r h => by simp [regletref04_Style.j1] at h, fun _ _ _ _ _ _ _ _ _ r h => by simp [regletref04_Style.l1] at h, fun _ _ _ _ _ _ _ _ _ _ _ _ _ r h => by simp [regletref04_Style.j3] at h⟩
  | k + 1 => by
    obtain ⟨ih0, ih1, ih2, ih3⟩ := regletref04_Style.mono_l k
    refine ⟨?_, ?_, ?_, ?_⟩
    · intro y0 y1 y2 y3 y4 y5 y6 y7 y8 y9
      unfold regletref04_Style.l0
      repeat' first | (with_reducible first | exact ih0 _ _ _ _ _ _ _ _ _ _ | exact ih1 _ _ _ _ _ _ _ _ _ | exact ih2 _ _ _ _ _ _ _ _ _ | exact ih3 _ _ _ _ _ _ _ _ _ _ _ _ _ | exact LeO.refl _ | exact LeO.none _ | refine LeO.ite ?_ ?_ | refine LeO.bind ?_ (fun _ => ?_)) | exact ih0 _ _ _ _ _ _ _ _ _ _ | exact ih1 _ _ _ _ _ _ _ _ _ | exact ih2 _ _ _ _ _ _ _ _ _ | exact ih3 _ _ _ _ _ _ _ _ _ _ _ _ _ | exact LeO.none _ | refine LeO.ite ?_ ?_ | refine LeO.bind ?_ (fun _ => ?_)
    · intro y0 y1 y2 y3 y4 y5 y6 y7 y8
      unfold regletref04_Style.j1
      repeat' first | (with_reducible first | exact ih0 _ _ _ _ _ _ _ _ _ _ | exact ih1 _ _ _ _ _ _ _ _ _ | exact ih2 _ _ _ _ _ _ _ _ _ | exact ih3 _ _ _ _ _ _ _ _ _ _ _ _ _ | exact LeO.refl _ | exact LeO.none _ | refine LeO.ite ?_ ?_ | refine LeO.bind ?_ (fun _ => ?_)) | exact ih0 _ _ _ _ _ _ _ _ _ _ | exact ih1 _ _ _ _ _ _ _ _ _ | exact ih2 _ _ _ _ _ _ _ _ _ | exact ih3 _ _ _ _ _ _ _ _ _ _ _ _ _ | exact LeO.none _ | refine LeO.ite ?_ ?_ | refine LeO.bind ?_ (fun _ => ?_)
    · intro y0 y1 y2 y3 y4 y5 y6 y7 y8
      unfold regletref04_Style.l1
      repeat' first | (with_reducible first | exact ih0 _ _ _ _ _ _ _ _ _ _ | exact ih1 _ _ _ _ _ _ _ _ _ | exact ih2 _ _ _ _ _ _ _ _ _ | exact ih3 _ _ _ _ _ _ _ _ _ _ _ _ _ | exact LeO.refl _ | exact LeO.none _ | refine LeO.ite ?_ ?_ | refine LeO.bind ?_ (fun _ => ?_)) | exact ih0 _ _ _ _ _ _ _ _ _ _ | exact ih1 _ _ _ _ _ _ _ _ _ | exact ih2 _ _ _ _ _ _ _ _ _ | exact ih3 _ _ _ _ _ _ _ _ _ _ _ _ _ | exact LeO.none _ | refine LeO.ite ?_ ?_ | refine LeO.bind ?_ (fun _ => ?_)
    · intro y0 y1 y2 y3 y4 y5 y6 y7 y8 y9 y10 y11 y12
      unfold regletref04_Style.j3
      repeat' first | (with_reducible first | exact ih0 _ _ _ _ _ _ _ _ _ _ | exact ih1 _ _ _ _ _ _ _ _ _ | exact ih2 _ _ _ _ _ _ _ _ _ | exact ih3 _ _ _ _ _ _ _ _ _ _ _ _ _ | exact LeO.refl _ | exact LeO.none _ | refine LeO.ite ?_ ?_ | refine LeO.bind ?_ (fun _ => ?_)) | exact ih0 _ _ _ _ _ _ _ _ _ _ | exact ih1 _ _ _ _ _ _ _ _ _ | exact ih2 _ _ _ _ _ _ _ _ _ | exact ih3 _ _ _ _ _ _ _ _ _ _ _ _ _ | exact LeO.none _ | refine LeO.ite ?_ ?_ | refine LeO.bind ?_ (fun _ => ?_)
theorem regletref04_Style.mono : ∀ a0 a1 a2 a3 a4 a5 a6 a7 k, LeO (regletref04_Style.f k a0 a1 a2 a3 a4 a5 a6 a7) (regletref04_Style.f (k + 1) a0 a1 a2 a3 a4 a5 a6 a7) := by
  intro a0 a1 a2 a3 a4 a5 a6 a7 k
  obtain ⟨ih0, ih1, ih2, ih3⟩ := regletref04_Style.mono_l k
  unfold regletref04_Style.f
  repeat' first | (with_reducible first | exact ih0 _ _ _ _ _ _ _ _ _ _ | exact ih1 _ _ _ _ _ _ _ _ _ | exact ih2 _ _ _ _ _ _ _ _ _ | exact ih3 _ _ _ _ _ _ _ _ _ _ _ _ _ | exact LeO.refl _ | exact LeO.none _ | refine LeO.ite ?_ ?_ | refine LeO.bind ?_ (fun _ => ?_)) | exact ih0 _ _ _ _ _ _ _ _ _ _ | exact ih1 _ _ _ _ _ _ _ _ _ | exact ih2 _ _ _ _ _ _ _ _ _ | exact ih3 _ _ _ _ _ _ _ _ _ _ _ _ _ | exact LeO.none _ | refine LeO.ite ?_ ?_ | refine LeO.bind ?_ (fun _ => ?_)
set_option maxHeartbeats 8000000 in
set_option maxRecDepth 100000 in
theorem regletref04_Style.calls (k : Nat) (a0_0 : Int) (a0_1 : Int) (a0_2 : Int) (a0_3 : Int) (a0_4 : Int) (a0_5 : Int) (A0_6 : Option Addr) (c0_6 : Nat) (l0_6 : List (S134)) (a0_7 : Bool) (r : Int) (w : World) (hr0_6 : Kd.C k134 w A0_6 l0_6.length l0_6) (hc0_6 : l0_6.length ≤ c0_6) (h : regletref04_Style.f k a0_0 a0_1 a0_2 a0_3 a0_4 a0_5 l0_6 a0_7 = some r) :
    Calls Try.prog 69 #[.agg #[.int .i64 a0_0, .int .i64 a0_1, .int .i64 a0_2, .int .i64 a0_3, .int .i64 a0_4, .int .i64 a0_5, .slice A0_6 l0_6.length c0_6, .bool a0_7]] w fun e w' => e = .returned (.int .i64 r) ∧ Below w.heap.size w w' := by
  have hu87 := Try.underlying87
  have hu134 := Try.underlying134
  have HR0_6 := Aside0.mk hr0_6
  have HC0_6 := Aside0.mk hc0_6
  clear hr0_6 hc0_6
  have HB := Aside0.mk (Below.refl w.heap.size w)
  have H : (regletref04_Style.l0 k (([a0_1, a0_2, a0_3, a0_4, a0_5] : List Int)) 0 a0_0 a0_1 a0_2 a0_3 a0_4 a0_5 l0_6 a0_7) = some r := h
  clear h
  obtain ⟨y102, hy102⟩ : ∃ y_ : List Int, y_ = (([a0_1, a0_2, a0_3, a0_4, a0_5] : List Int)) := ⟨_, rfl⟩
  replace H : (regletref04_Style.l0 k y102 0 a0_0 a0_1 a0_2 a0_3 a0_4 a0_5 l0_6 a0_7) = some r := by first | (rw [hy102]; with_reducible exact H) | (have H2_ := (Option.bind_some _ _).symm.trans H; rw [hy102]; with_reducible exact H2_) | (have H2_ := (Option.bind_some _ _).symm.trans H; with_reducible exact H2_) | with_reducible exact H | (rw [hy102]; exact H) | exact H
  have Ny102 := Aside0.mk hy102
  clear hy102
  have H' := Aside0.mk H
  clear H
  go_enter Try.func69, Try.ntmps69
  go_wp2_with (first | ((with_reducible refine gate_dst (N := 1) rfl ?_); refine box_event ?hg (N := 1) ?hd (cs := #[.int .i64 a0_0, .int .i64 a0_1, .int .i64 a0_2, .int .i64 a0_3, .int .i64 a0_4, .int .i64 a0_5, .slice A0_6 l0_6.length c0_6, .bool a0_7]) (t := 87) ?hr ?_; (case hd => rfl); (case hg => rfl); (case hr => exact z209_); intro gb101 hg w2 hbox hb; have BK101 := Aside0.mk (hbox); have GW101 := Aside0.mk ((z85_ : w.heap.size ≤ gb101)); have GE101 := Aside0.mk ((z85_ : w.heap.size ≤ gb101)); replace HB := Aside0.mk (below_step z117_ hb); clear hb hbox hg; have hcz3_0 : w2.cell? ⟨gb101, 0, none⟩ = some (.int .i64 a0_0) := (blk_cell BK101.out 0).trans rfl; have hcz3_1 : w2.cell? ⟨gb101, 1, none⟩ = some (.int .i64 a0_1) := (blk_cell BK101.out 1).trans rfl; have hcz3_2 : w2.cell? ⟨gb101, 2, none⟩ = some (.int .i64 a0_2) := (blk_cell BK101.out 2).trans rfl; have hcz3_3 : w2.cell? ⟨gb101, 3, none⟩ = some (.int .i64 a0_3) := (blk_cell BK101.out 3).trans rfl; have hcz3_4 : w2.cell? ⟨gb101, 4, none⟩ = some (.int .i64 a0_4) := (blk_cell BK101.out 4).trans rfl; have hcz3_5 : w2.cell? ⟨gb101, 5, none⟩ = some (.int .i64 a0_5) := (blk_cell BK101.out 5).trans rfl; have hcz3_6 : w2.cell? ⟨gb101, 6, none⟩ = some (.slice A0_6 l0_6.length c0_6) := (blk_cell BK101.out 6).trans rfl; have hcz3_7 : w2.cell? ⟨gb101, 7, none⟩ = some (.bool a0_7) := (blk_cell BK101.out 7).trans rfl; have hfz3_0 := blk_frozen BK101.out 0; have hfz3_1 := blk_frozen BK101.out 1; have hfz3_2 := blk_frozen BK101.out 2; have hfz3_3 := blk_frozen BK101.out 3; have hfz3_4 := blk_frozen BK101.out 4; have hfz3_5 := blk_frozen BK101.out 5; have hfz3_6 := blk_frozen BK101.out 6; have hfz3_7 := blk_frozen BK101.out 7) | ((with_reducible refine gate_dst (N := 17) rfl ?_); refine Kd.R_lit (Kd.int .i64) _ 3 ?hg (N := 17) ?hd (xs := ([a0_1, a0_2, a0_3, a0_4, a0_5] : List Int)) (inner := [.int .i64 a0_1, .int .i64 a0_2, .int .i64 a0_3, .int .i64 a0_4, .int .i64 a0_5]) (ok := fun _ => True) (okp := fun _ => True) ?hr ?hp (fun _ hk => hk) trivial (Below.refl _ _) (Nat.le_refl _) (by simp) ?_; (case hd => rfl); (case hg => rfl); (case hr => exact z209_); (case hp => exact z16_); intro v103 w4 ho5 hb hg_ hnew_; clear hg_ hnew_; (first | rw [← Ny102.out] at ho5 | (simp only [Int.reduceToNat] at ho5; rw [← Ny102.out] at ho5)); have HO104 := Aside0.mk (Kd.R_lower ho5 (below_size z86_)); replace BK101 := Aside0.mk (blk_below (g := gb101) (o := .cells #[.int .i64 a0_0, .int .i64 a0_1, .int .i64 a0_2, .int .i64 a0_3, .int .i64 a0_4, .int .i64 a0_5, .slice A0_6 l0_6.length c0_6, .bool a0_7] 87 (0, 0)) z132_ hb); replace HB := Aside0.mk (below_step z86_ hb); clear hb ho5))
  repeat (go_quiet (first | ((with_reducible refine gate_dst (N := 1) rfl ?_); refine box_event ?hg (N := 1) ?hd (cs := #[.int .i64 a0_0, .int .i64 a0_1, .int .i64 a0_2, .int .i64 a0_3, .int .i64 a0_4, .int .i64 a0_5, .slice A0_6 l0_6.length c0_6, .bool a0_7]) (t := 87) ?hr ?_; (case hd => rfl); (case hg => rfl); (case hr => exact z209_); intro gb101 hg w2 hbox hb; have BK101 := Aside0.mk (hbox); have GW101 := Aside0.mk ((z85_ : w.heap.size ≤ gb101)); have GE101 := Aside0.mk ((z85_ : w.heap.size ≤ gb101)); replace HB := Aside0.mk (below_step z117_ hb); clear hb hbox hg; have hcz3_0 : w2.cell? ⟨gb101, 0, none⟩ = some (.int .i64 a0_0) := (blk_cell BK101.out 0).trans rfl; have hcz3_1 : w2.cell? ⟨gb101, 1, none⟩ = some (.int .i64 a0_1) := (blk_cell BK101.out 1).trans rfl; have hcz3_2 : w2.cell? ⟨gb101, 2, none⟩ = some (.int .i64 a0_2) := (blk_cell BK101.out 2).trans rfl; have hcz3_3 : w2.cell? ⟨gb101, 3, none⟩ = some (.int .i64 a0_3) := (blk_cell BK101.out 3).trans rfl; have hcz3_4 : w2.cell? ⟨gb101, 4, none⟩ = some (.int .i64 a0_4) := (blk_cell BK101.out 4).trans rfl; have hcz3_5 : w2.cell? ⟨gb101, 5, none⟩ = some (.int .i64 a0_5) := (blk_cell BK101.out 5).trans rfl; have hcz3_6 : w2.cell? ⟨gb101, 6, none⟩ = some (.slice A0_6 l0_6.length c0_6) := (blk_cell BK101.out 6).trans rfl; have hcz3_7 : w2.cell? ⟨gb101, 7, none⟩ = some (.bool a0_7) := (blk_cell BK101.out 7).trans rfl; have hfz3_0 := blk_frozen BK101.out 0; have hfz3_1 := blk_frozen BK101.out 1; have hfz3_2 := blk_frozen BK101.out 2; have hfz3_3 := blk_frozen BK101.out 3; have hfz3_4 := blk_frozen BK101.out 4; have hfz3_5 := blk_frozen BK101.out 5; have hfz3_6 := blk_frozen BK101.out 6; have hfz3_7 := blk_frozen BK101.out 7) | ((with_reducible refine gate_dst (N := 17) rfl ?_); refine Kd.R_lit (Kd.int .i64) _ 3 ?hg (N := 17) ?hd (xs := ([a0_1, a0_2, a0_3, a0_4, a0_5] : List Int)) (inner := [.int .i64 a0_1, .int .i64 a0_2, .int .i64 a0_3, .int .i64 a0_4, .int .i64 a0_5]) (ok := fun _ => True) (okp := fun _ => True) ?hr ?hp (fun _ hk => hk) trivial (Below.refl _ _) (Nat.le_refl _) (by simp) ?_; (case hd => rfl); (case hg => rfl); (case hr => exact z209_); (case hp => exact z16_); intro v103 w4 ho5 hb hg_ hnew_; clear hg_ hnew_; (first | rw [← Ny102.out] at ho5 | (simp only [Int.reduceToNat] at ho5; rw [← Ny102.out] at ho5)); have HO104 := Aside0.mk (Kd.R_lower ho5 (below_size z86_)); replace BK101 := Aside0.mk (blk_below (g := gb101) (o := .cells #[.int .i64 a0_0, .int .i64 a0_1, .int .i64 a0_2, .int .i64 a0_3, .int .i64 a0_4, .int .i64 a0_5, .slice A0_6 l0_6.length c0_6, .bool a0_7] 87 (0, 0)) z132_ hb); replace HB := Aside0.mk (below_step z86_ hb); clear hb ho5)); try go_wp2_with (first | ((with_reducible refine gate_dst (N := 1) rfl ?_); refine box_event ?hg (N := 1) ?hd (cs := #[.int .i64 a0_0, .int .i64 a0_1, .int .i64 a0_2, .int .i64 a0_3, .int .i64 a0_4, .int .i64 a0_5, .slice A0_6 l0_6.length c0_6, .bool a0_7]) (t := 87) ?hr ?_; (case hd => rfl); (case hg => rfl); (case hr => exact z209_); intro gb101 hg w2 hbox hb; have BK101 := Aside0.mk (hbox); have GW101 := Aside0.mk ((z85_ : w.heap.size ≤ gb101)); have GE101 := Aside0.mk ((z85_ : w.heap.size ≤ gb101)); replace HB := Aside0.mk (below_step z117_ hb); clear hb hbox hg; have hcz3_0 : w2.cell? ⟨gb101, 0, none⟩ = some (.int .i64 a0_0) := (blk_cell BK101.out 0).trans rfl; have hcz3_1 : w2.cell? ⟨gb101, 1, none⟩ = some (.int .i64 a0_1) := (blk_cell BK101.out 1).trans rfl; have hcz3_2 : w2.cell? ⟨gb101, 2, none⟩ = some (.int .i64 a0_2) := (blk_cell BK101.out 2).trans rfl; have hcz3_3 : w2.cell? ⟨gb101, 3, none⟩ = some (.int .i64 a0_3) := (blk_cell BK101.out 3).trans rfl; have hcz3_4 : w2.cell? ⟨gb101, 4, none⟩ = some (.int .i64 a0_4) := (blk_cell BK101.out 4).trans rfl; have hcz3_5 : w2.cell? ⟨gb101, 5, none⟩ = some (.int .i64 a0_5) := (blk_cell BK101.out 5).trans rfl; have hcz3_6 : w2.cell? ⟨gb101, 6, none⟩ = some (.slice A0_6 l0_6.length c0_6) := (blk_cell BK101.out 6).trans rfl; have hcz3_7 : w2.cell? ⟨gb101, 7, none⟩ = some (.bool a0_7) := (blk_cell BK101.out 7).trans rfl; have hfz3_0 := blk_frozen BK101.out 0; have hfz3_1 := blk_frozen BK101.out 1; have hfz3_2 := blk_frozen BK101.out 2; have hfz3_3 := blk_frozen BK101.out 3; have hfz3_4 := blk_frozen BK101.out 4; have hfz3_5 := blk_frozen BK101.out 5; have hfz3_6 := blk_frozen BK101.out 6; have hfz3_7 := blk_frozen BK101.out 7) | ((with_reducible refine gate_dst (N := 17) rfl ?_); refine Kd.R_lit (Kd.int .i64) _ 3 ?hg (N := 17) ?hd (xs := ([a0_1, a0_2, a0_3, a0_4, a0_5] : List Int)) (inner := [.int .i64 a0_1, .int .i64 a0_2, .int .i64 a0_3, .int .i64 a0_4, .int .i64 a0_5]) (ok := fun _ => True) (okp := fun _ => True) ?hr ?hp (fun _ hk => hk) trivial (Below.refl _ _) (Nat.le_refl _) (by simp) ?_; (case hd => rfl); (case hg => rfl); (case hr => exact z209_); (case hp => exact z16_); intro v103 w4 ho5 hb hg_ hnew_; clear hg_ hnew_; (first | rw [← Ny102.out] at ho5 | (simp only [Int.reduceToNat] at ho5; rw [← Ny102.out] at ho5)); have HO104 := Aside0.mk (Kd.R_lower ho5 (below_size z86_)); replace BK101 := Aside0.mk (blk_below (g := gb101) (o := .cells #[.int .i64 a0_0, .int .i64 a0_1, .int .i64 a0_2, .int .i64 a0_3, .int .i64 a0_4, .int .i64 a0_5, .slice A0_6 l0_6.length c0_6, .bool a0_7] 87 (0, 0)) z132_ hb); replace HB := Aside0.mk (below_step z86_ hb); clear hb ho5)))
  go_loopg [4] k (fun kq v4 w' => ∃ (x4_1 : Int), v4 = .int .i64 x4_1 ∧ Aside0 (regletref04_Style.l0 kq y102 x4_1 a0_0 a0_1 a0_2 a0_3 a0_4 a0_5 l0_6 a0_7 = some r) ∧ Aside0 (kq ≤ k) ∧ Aside0 (Kd.R (Kd.int .i64) 3 w' w.heap.size (fun _ => True) v103 y102) ∧ Aside0 (w'.heap[gb101]? = some (.cells #[.int .i64 a0_0, .int .i64 a0_1, .int .i64 a0_2, .int .i64 a0_3, .int .i64 a0_4, .int .i64 a0_5, (.slice A0_6 l0_6.length c0_6), .bool a0_7] 87 (0, 0))) ∧ Aside0 (Below w.heap.size w w'))
  case atStart => exact ⟨(0), z208_, H', ⟨Nat.le_refl _⟩, ⟨y185_ HO104.out⟩, ⟨z132_⟩, ⟨z86_⟩⟩
  case round =>
    clear H'
    try clear p2
    try clear hcz3_0
    try clear hcz3_1
    try clear hcz3_2
    try clear hcz3_3
    try clear hcz3_4
    try clear hcz3_5
    try clear hcz3_6
    try clear hcz3_7
    try clear hfz3_0
    try clear hfz3_1
    try clear hfz3_2
    try clear hfz3_3
    try clear hfz3_4
    try clear hfz3_5
    try clear hfz3_6
    try clear hfz3_7
    obtain ⟨x4_1, rfl, HA, HK1, HO_3, BK101, HB⟩ := hrel
    cases gk with
    | zero => exact absurd HA.out (by simp [regletref04_Style.l0])
    | succ k1 =>
      have H := HA.out
      clear HA
      simp only [regletref04_Style.l0] at H
      by_cases c6 : x4_1 < (y102.length : Int)
      · rw [if_pos c6] at H
        have c6b0 : decide (x4_1 < (y102.length : Int)) = true := decide_eq_true c6
        clear c6
        by_cases c7 : 0 ≤ x4_1
        rotate_left
        · rw [if_neg c7] at H
          exact absurd H (by simp)
        rw [if_pos c7] at H
        have c7b0 : decide (0 ≤ x4_1) = true := decide_eq_true c7
        clear c7
        replace H := Option.bind_eq_some_iff.mp H
        obtain ⟨t106, A80, H⟩ := H
        replace H : (if t106 = true then (regletref04_Style.l0 k1 y102 (wrap64 (x4_1 + 1)) a0_0 a0_1 a0_2 a0_3 a0_4 a0_5 l0_6 a0_7) else (some 41)) = some r := H
        have A8 := Aside0.mk A80
        clear A80
        by_cases c9 : t106 = true
        rotate_left
        · replace c9 := Bool.eq_false_iff.mpr c9
          subst c9
          have H1 : (some 41) = some r := by rw [if_neg (show ¬ (false = true) by decide)] at H; exact H
          clear H
          have H := H1
          clear H1
          obtain rfl := Option.some.inj H
          obtain ⟨Ao11, co11, eo11⟩ := Kd.R_slice HO_3.out
          subst eo11
          have p105 : 0 ≤ (x4_1 : Int) := of_decide_eq_true z204_
          have q105 : x4_1 < (y102.length : Int) := of_decide_eq_true z204_
          obtain ⟨ad105, e105, hx105_0⟩ := Kd.at_int (Kd.R_reads' HO_3.out).2.2 x4_1 p105 q105
          cases e105
          replace p105 := eq_true p105
          replace q105 := eq_true q105
          go_wp2_with (first | (go_at_call 87; (with_reducible refine (regletref04_fits.calls (rd y102 x4_1) 0 false _ A8.out).mono ?_); rintro e w' ⟨rfl, ⟨nd, rfl⟩⟩; (try first | exact ⟨rfl, _, World.drewN_drewN _ _ _⟩ | exact ⟨rfl, _, Eq.trans (World.drewN_drewN _ _ _) (congrArg (World.drewN _) (Nat.add_assoc _ _ _))⟩)))
          repeat (go_quiet (first | (go_at_call 87; (with_reducible refine (regletref04_fits.calls (rd y102 x4_1) 0 false _ A8.out).mono ?_); rintro e w' ⟨rfl, ⟨nd, rfl⟩⟩; (try first | exact ⟨rfl, _, World.drewN_drewN _ _ _⟩ | exact ⟨rfl, _, Eq.trans (World.drewN_drewN _ _ _) (congrArg (World.drewN _) (Nat.add_assoc _ _ _))⟩))); try go_wp2_with (first | (go_at_call 87; (with_reducible refine (regletref04_fits.calls (rd y102 x4_1) 0 false _ A8.out).mono ?_); rintro e w' ⟨rfl, ⟨nd, rfl⟩⟩; (try first | exact ⟨rfl, _, World.drewN_drewN _ _ _⟩ | exact ⟨rfl, _, Eq.trans (World.drewN_drewN _ _ _) (congrArg (World.drewN _) (Nat.add_assoc _ _ _))⟩))))
          go_ret
          exact ⟨z178_, z86_⟩
        subst c9
        have H1 : (regletref04_Style.l0 k1 y102 (wrap64 (x4_1 + 1)) a0_0 a0_1 a0_2 a0_3 a0_4 a0_5 l0_6 a0_7) = some r := by rw [if_pos rfl] at H; exact H
        clear H
        have H := H1
        clear H1
        have H' := Aside0.mk H
        clear H
        obtain ⟨Ao10, co10, eo10⟩ := Kd.R_slice HO_3.out
        subst eo10
        have p105 : 0 ≤ (x4_1 : Int) := of_decide_eq_true z204_
        have q105 : x4_1 < (y102.length : Int) := of_decide_eq_true z204_
        obtain ⟨ad105, e105, hx105_0⟩ := Kd.at_int (Kd.R_reads' HO_3.out).2.2 x4_1 p105 q105
        cases e105
        replace p105 := eq_true p105
        replace q105 := eq_true q105
        go_wp2_with (first | (go_at_call 87; (with_reducible refine (regletref04_fits.calls (rd y102 x4_1) 0 true _ A8.out).mono ?_); rintro e w' ⟨rfl, ⟨nd, rfl⟩⟩; (try first | exact ⟨rfl, _, World.drewN_drewN _ _ _⟩ | exact ⟨rfl, _, Eq.trans (World.drewN_drewN _ _ _) (congrArg (World.drewN _) (Nat.add_assoc _ _ _))⟩)))
        repeat (go_quiet (first | (go_at_call 87; (with_reducible refine (regletref04_fits.calls (rd y102 x4_1) 0 true _ A8.out).mono ?_); rintro e w' ⟨rfl, ⟨nd, rfl⟩⟩; (try first | exact ⟨rfl, _, World.drewN_drewN _ _ _⟩ | exact ⟨rfl, _, Eq.trans (World.drewN_drewN _ _ _) (congrArg (World.drewN _) (Nat.add_assoc _ _ _))⟩))); try go_wp2_with (first | (go_at_call 87; (with_reducible refine (regletref04_fits.calls (rd y102 x4_1) 0 true _ A8.out).mono ?_); rintro e w' ⟨rfl, ⟨nd, rfl⟩⟩; (try first | exact ⟨rfl, _, World.drewN_drewN _ _ _⟩ | exact ⟨rfl, _, Eq.trans (World.drewN_drewN _ _ _) (congrArg (World.drewN _) (Nat.add_assoc _ _ _))⟩))))
        go_roundg k1
        case measure => have := HK1.out; omega
        case rel => exact ⟨(wrap64 (x4_1 + 1)), z208_, H', ⟨z218_⟩, ⟨z169_⟩, ⟨z132_⟩, ⟨z86_⟩⟩
      rw [if_neg c6] at H
      have c6b0 : decide (x4_1 < (y102.length : Int)) = false := decide_eq_false c6
      clear c6
      have HC12 := Aside0.mk H
      clear H
      obtain ⟨Ao13, co13, eo13⟩ := Kd.R_slice HO_3.out
      subst eo13
      go_upto_region 7 with (fail)
      repeat (go_quiet (fail); go_upto_region 7 with (fail))
      go_cut [40] (fun v40 wc => ∃ (kq : Nat) (x40_11 : Bool), v40 = .bool x40_11 ∧ Aside0 (regletref04_Style.j1 kq x40_11 a0_0 a0_1 a0_2 a0_3 a0_4 a0_5 l0_6 a0_7 = some r) ∧ Aside0 (kq ≤ k1) ∧ Aside0 (wc.heap[gb101]? = some (.cells #[.int .i64 a0_0, .int .i64 a0_1, .int .i64 a0_2, .int .i64 a0_3, .int .i64 a0_4, .int .i64 a0_5, (.slice A0_6 l0_6.length c0_6), .bool a0_7] 87 (0, 0))) ∧ Aside0 (Below w.heap.size w wc))
      case first =>
        have H := HC12.out
        clear HC12
        replace H := Option.bind_eq_some_iff.mp H
        obtain ⟨t107, A140, H⟩ := H
        replace H : (if t107 = true then (regletref04_Style.j1 k1 (decide (a0_3 > a0_1)) a0_0 a0_1 a0_2 a0_3 a0_4 a0_5 l0_6 a0_7) else (regletref04_Style.j1 k1 true a0_0 a0_1 a0_2 a0_3 a0_4 a0_5 l0_6 a0_7)) = some r := H
        have A14 := Aside0.mk A140
        clear A140
        by_cases c15 : t107 = true
        · subst c15
          have H1 : (regletref04_Style.j1 k1 (decide (a0_3 > a0_1)) a0_0 a0_1 a0_2 a0_3 a0_4 a0_5 l0_6 a0_7) = some r := by rw [if_pos rfl] at H; exact H
          clear H
          have H := H1
          clear H1
          have H' := Aside0.mk H
          clear H
          have hcz16_0 : wr.cell? ⟨gb101, 0, none⟩ = some (.int .i64 a0_0) := (blk_cell BK101.out 0).trans rfl
          have hcz16_1 : wr.cell? ⟨gb101, 1, none⟩ = some (.int .i64 a0_1) := (blk_cell BK101.out 1).trans rfl
          have hcz16_2 : wr.cell? ⟨gb101, 2, none⟩ = some (.int .i64 a0_2) := (blk_cell BK101.out 2).trans rfl
          have hcz16_3 : wr.cell? ⟨gb101, 3, none⟩ = some (.int .i64 a0_3) := (blk_cell BK101.out 3).trans rfl
          have hcz16_4 : wr.cell? ⟨gb101, 4, none⟩ = some (.int .i64 a0_4) := (blk_cell BK101.out 4).trans rfl
          have hcz16_5 : wr.cell? ⟨gb101, 5, none⟩ = some (.int .i64 a0_5) := (blk_cell BK101.out 5).trans rfl
          have hcz16_6 : wr.cell? ⟨gb101, 6, none⟩ = some (.slice A0_6 l0_6.length c0_6) := (blk_cell BK101.out 6).trans rfl
          have hcz16_7 : wr.cell? ⟨gb101, 7, none⟩ = some (.bool a0_7) := (blk_cell BK101.out 7).trans rfl
          have hfz16_0 := blk_frozen BK101.out 0
          have hfz16_1 := blk_frozen BK101.out 1
          have hfz16_2 := blk_frozen BK101.out 2
          have hfz16_3 := blk_frozen BK101.out 3
          have hfz16_4 := blk_frozen BK101.out 4
          have hfz16_5 := blk_frozen BK101.out 5
          have hfz16_6 := blk_frozen BK101.out 6
          have hfz16_7 := blk_frozen BK101.out 7
          go_wp2_with (first | (go_at_call 87; (with_reducible refine (regletref04_fits.calls a0_0 1 true _ A14.out).mono ?_); rintro e w' ⟨rfl, ⟨nd, rfl⟩⟩; (try first | exact ⟨rfl, _, World.drewN_drewN _ _ _⟩ | exact ⟨rfl, _, Eq.trans (World.drewN_drewN _ _ _) (congrArg (World.drewN _) (Nat.add_assoc _ _ _))⟩)))
          repeat (go_quiet (first | (go_at_call 87; (with_reducible refine (regletref04_fits.calls a0_0 1 true _ A14.out).mono ?_); rintro e w' ⟨rfl, ⟨nd, rfl⟩⟩; (try first | exact ⟨rfl, _, World.drewN_drewN _ _ _⟩ | exact ⟨rfl, _, Eq.trans (World.drewN_drewN _ _ _) (congrArg (World.drewN _) (Nat.add_assoc _ _ _))⟩))); try go_wp2_with (first | (go_at_call 87; (with_reducible refine (regletref04_fits.calls a0_0 1 true _ A14.out).mono ?_); rintro e w' ⟨rfl, ⟨nd, rfl⟩⟩; (try first | exact ⟨rfl, _, World.drewN_drewN _ _ _⟩ | exact ⟨rfl, _, Eq.trans (World.drewN_drewN _ _ _) (congrArg (World.drewN _) (Nat.add_assoc _ _ _))⟩))))
          go_meet
          case rel => exact ⟨_, (decide (a0_3 > a0_1)), z208_, H', ⟨z200_⟩, ⟨z132_⟩, ⟨z86_⟩⟩
        replace c15 := Bool.eq_false_iff.mpr c15
        subst c15
        have H1 : (regletref04_Style.j1 k1 true a0_0 a0_1 a0_2 a0_3 a0_4 a0_5 l0_6 a0_7) = some r := by rw [if_neg (show ¬ (false = true) by decide)] at H; exact H
        clear H
        have H := H1
        clear H1
        have H' := Aside0.mk H
        clear H
        have hcz17_0 : wr.cell? ⟨gb101, 0, none⟩ = some (.int .i64 a0_0) := (blk_cell BK101.out 0).trans rfl
        have hcz17_1 : wr.cell? ⟨gb101, 1, none⟩ = some (.int .i64 a0_1) := (blk_cell BK101.out 1).trans rfl
        have hcz17_2 : wr.cell? ⟨gb101, 2, none⟩ = some (.int .i64 a0_2) := (blk_cell BK101.out 2).trans rfl
        have hcz17_3 : wr.cell? ⟨gb101, 3, none⟩ = some (.int .i64 a0_3) := (blk_cell BK101.out 3).trans rfl
        have hcz17_4 : wr.cell? ⟨gb101, 4, none⟩ = some (.int .i64 a0_4) := (blk_cell BK101.out 4).trans rfl
        have hcz17_5 : wr.cell? ⟨gb101, 5, none⟩ = some (.int .i64 a0_5) := (blk_cell BK101.out 5).trans rfl
        have hcz17_6 : wr.cell? ⟨gb101, 6, none⟩ = some (.slice A0_6 l0_6.length c0_6) := (blk_cell BK101.out 6).trans rfl
        have hcz17_7 : wr.cell? ⟨gb101, 7, none⟩ = some (.bool a0_7) := (blk_cell BK101.out 7).trans rfl
        have hfz17_0 := blk_frozen BK101.out 0
        have hfz17_1 := blk_frozen BK101.out 1
        have hfz17_2 := blk_frozen BK101.out 2
        have hfz17_3 := blk_frozen BK101.out 3
        have hfz17_4 := blk_frozen BK101.out 4
        have hfz17_5 := blk_frozen BK101.out 5
        have hfz17_6 := blk_frozen BK101.out 6
        have hfz17_7 := blk_frozen BK101.out 7
        go_wp2_with (first | (go_at_call 87; (with_reducible refine (regletref04_fits.calls a0_0 1 false _ A14.out).mono ?_); rintro e w' ⟨rfl, ⟨nd, rfl⟩⟩; (try first | exact ⟨rfl, _, World.drewN_drewN _ _ _⟩ | exact ⟨rfl, _, Eq.trans (World.drewN_drewN _ _ _) (congrArg (World.drewN _) (Nat.add_assoc _ _ _))⟩)))
        repeat (go_quiet (first | (go_at_call 87; (with_reducible refine (regletref04_fits.calls a0_0 1 false _ A14.out).mono ?_); rintro e w' ⟨rfl, ⟨nd, rfl⟩⟩; (try first | exact ⟨rfl, _, World.drewN_drewN _ _ _⟩ | exact ⟨rfl, _, Eq.trans (World.drewN_drewN _ _ _) (congrArg (World.drewN _) (Nat.add_assoc _ _ _))⟩))); try go_wp2_with (first | (go_at_call 87; (with_reducible refine (regletref04_fits.calls a0_0 1 false _ A14.out).mono ?_); rintro e w' ⟨rfl, ⟨nd, rfl⟩⟩; (try first | exact ⟨rfl, _, World.drewN_drewN _ _ _⟩ | exact ⟨rfl, _, Eq.trans (World.drewN_drewN _ _ _) (congrArg (World.drewN _) (Nat.add_assoc _ _ _))⟩))))
        go_meet
        case rel => exact ⟨_, (true), z208_, H', ⟨z200_⟩, ⟨z132_⟩, ⟨z86_⟩⟩
      case rest =>
        clear HC12
        try clear c1
        try clear p1
        try clear q1
        try clear hx1
        try clear p2
        try clear c6
        try clear c6b0
        try clear p6
        try clear c7
        try clear c7b0
        try clear c9
        try clear p10
        try clear q10
        try clear hx10
        try clear c15
        try clear hcz16_0
        try clear hcz16_1
        try clear hcz16_2
        try clear hcz16_3
        try clear hcz16_4
        try clear hcz16_5
        try clear hcz16_6
        try clear hcz16_7
        try clear hcz17_0
        try clear hcz17_1
        try clear hcz17_2
        try clear hcz17_3
        try clear hcz17_4
        try clear hcz17_5
        try clear hcz17_6
        try clear hcz17_7
        try clear hcz3_0
        try clear hcz3_1
        try clear hcz3_2
        try clear hcz3_3
        try clear hcz3_4
        try clear hcz3_5
        try clear hcz3_6
        try clear hcz3_7
        try clear hfz16_0
        try clear hfz16_1
        try clear hfz16_2
        try clear hfz16_3
        try clear hfz16_4
        try clear hfz16_5
        try clear hfz16_6
        try clear hfz16_7
        try clear hfz17_0
        try clear hfz17_1
        try clear hfz17_2
        try clear hfz17_3
        try clear hfz17_4
        try clear hfz17_5
        try clear hfz17_6
        try clear hfz17_7
        try clear hfz3_0
        try clear hfz3_1
        try clear hfz3_2
        try clear hfz3_3
        try clear hfz3_4
        try clear hfz3_5
        try clear hfz3_6
        try clear hfz3_7
        try clear hx105_0
        try clear p105
        try clear p2
        try clear q105
        obtain ⟨kq, x40_11, rfl, HA, HJ11, BK101, HB⟩ := hcut
        cases kq with
        | zero => exact absurd HA.out (by simp [regletref04_Style.j1])
        | succ kj11 =>
          have H := HA.out
          clear HA
          simp only [regletref04_Style.j1] at H
          by_cases c18 : x40_11 = true
          · subst c18
            have H1 : (some 41) = some r := by rw [if_pos rfl] at H; exact H
            clear H
            have H := H1
            clear H1
            obtain rfl := Option.some.inj H
            go_wp2
            repeat (go_quiet (fail); try go_wp2)
            go_ret
            exact ⟨z178_, z86_⟩
          replace c18 := Bool.eq_false_iff.mpr c18
          subst c18
          have H1 : (if (l0_6.length : Int) > 64 then (some 42) else (regletref04_Style.l1 kj11 0 a0_0 a0_1 a0_2 a0_3 a0_4 a0_5 l0_6 a0_7)) = some r := by rw [if_neg (show ¬ (false = true) by decide)] at H; exact H
          clear H
          have H := H1
          clear H1
          by_cases c19 : (l0_6.length : Int) > 64
          · rw [if_pos c19] at H
            have c19b0 : decide (64 < (l0_6.length : Int)) = true := decide_eq_true c19
            have c19b1 : decide (64 < l0_6.length) = true := decide_eq_true (by omega)
            clear c19
            obtain rfl := Option.some.inj H
            have hcz20_0 : wc.cell? ⟨gb101, 0, none⟩ = some (.int .i64 a0_0) := (blk_cell BK101.out 0).trans rfl
            have hcz20_1 : wc.cell? ⟨gb101, 1, none⟩ = some (.int .i64 a0_1) := (blk_cell BK101.out 1).trans rfl
            have hcz20_2 : wc.cell? ⟨gb101, 2, none⟩ = some (.int .i64 a0_2) := (blk_cell BK101.out 2).trans rfl
            have hcz20_3 : wc.cell? ⟨gb101, 3, none⟩ = some (.int .i64 a0_3) := (blk_cell BK101.out 3).trans rfl
            have hcz20_4 : wc.cell? ⟨gb101, 4, none⟩ = some (.int .i64 a0_4) := (blk_cell BK101.out 4).trans rfl
            have hcz20_5 : wc.cell? ⟨gb101, 5, none⟩ = some (.int .i64 a0_5) := (blk_cell BK101.out 5).trans rfl
            have hcz20_6 : wc.cell? ⟨gb101, 6, none⟩ = some (.slice A0_6 l0_6.length c0_6) := (blk_cell BK101.out 6).trans rfl
            have hcz20_7 : wc.cell? ⟨gb101, 7, none⟩ = some (.bool a0_7) := (blk_cell BK101.out 7).trans rfl
            have hfz20_0 := blk_frozen BK101.out 0
            have hfz20_1 := blk_frozen BK101.out 1
            have hfz20_2 := blk_frozen BK101.out 2
            have hfz20_3 := blk_frozen BK101.out 3
            have hfz20_4 := blk_frozen BK101.out 4
            have hfz20_5 := blk_frozen BK101.out 5
            have hfz20_6 := blk_frozen BK101.out 6
            have hfz20_7 := blk_frozen BK101.out 7
            go_wp2
            repeat (go_quiet (fail); try go_wp2)
            go_ret
            exact ⟨z178_, z86_⟩
          rw [if_neg c19] at H
          have c19b0 : decide (64 < (l0_6.length : Int)) = false := decide_eq_false c19
          have c19b1 : decide (64 < l0_6.length) = false := decide_eq_false (by omega)
          clear c19
          have H' := Aside0.mk H
          clear H
          have hcz21_0 : wc.cell? ⟨gb101, 0, none⟩ = some (.int .i64 a0_0) := (blk_cell BK101.out 0).trans rfl
          have hcz21_1 : wc.cell? ⟨gb101, 1, none⟩ = some (.int .i64 a0_1) := (blk_cell BK101.out 1).trans rfl
          have hcz21_2 : wc.cell? ⟨gb101, 2, none⟩ = some (.int .i64 a0_2) := (blk_cell BK101.out 2).trans rfl
          have hcz21_3 : wc.cell? ⟨gb101, 3, none⟩ = some (.int .i64 a0_3) := (blk_cell BK101.out 3).trans rfl
          have hcz21_4 : wc.cell? ⟨gb101, 4, none⟩ = some (.int .i64 a0_4) := (blk_cell BK101.out 4).trans rfl
          have hcz21_5 : wc.cell? ⟨gb101, 5, none⟩ = some (.int .i64 a0_5) := (blk_cell BK101.out 5).trans rfl
          have hcz21_6 : wc.cell? ⟨gb101, 6, none⟩ = some (.slice A0_6 l0_6.length c0_6) := (blk_cell BK101.out 6).trans rfl
          have hcz21_7 : wc.cell? ⟨gb101, 7, none⟩ = some (.bool a0_7) := (blk_cell BK101.out 7).trans rfl
          have hfz21_0 := blk_frozen BK101.out 0
          have hfz21_1 := blk_frozen BK101.out 1
          have hfz21_2 := blk_frozen BK101.out 2
          have hfz21_3 := blk_frozen BK101.out 3
          have hfz21_4 := blk_frozen BK101.out 4
          have hfz21_5 := blk_frozen BK101.out 5
          have hfz21_6 := blk_frozen BK101.out 6
          have hfz21_7 := blk_frozen BK101.out 7
          go_wp2
          repeat (go_quiet (fail); try go_wp2)
          go_loopg [5] kj11 (fun kq v5 w' => ∃ (x5_3 : Int), v5 = .int .i64 x5_3 ∧ Aside0 (regletref04_Style.l1 kq x5_3 a0_0 a0_1 a0_2 a0_3 a0_4 a0_5 l0_6 a0_7 = some r) ∧ Aside0 (kq ≤ kj11) ∧ Aside0 (w'.heap[gb101]? = some (.cells #[.int .i64 a0_0, .int .i64 a0_1, .int .i64 a0_2, .int .i64 a0_3, .int .i64 a0_4, .int .i64 a0_5, (.slice A0_6 l0_6.length c0_6), .bool a0_7] 87 (0, 0))) ∧ Aside0 (Below w.heap.size w w'))
          case atStart => exact ⟨(0), z208_, H', ⟨Nat.le_refl _⟩, ⟨z132_⟩, ⟨z86_⟩⟩
          case round =>
            clear H'
            try clear c1
            try clear p1
            try clear q1
            try clear hx1
            try clear p2
            try clear c6
            try clear c6b0
            try clear p6
            try clear c7
            try clear c7b0
            try clear c9
            try clear p10
            try clear q10
            try clear hx10
            try clear c15
            try clear c18
            try clear c19
            try clear c19b0
            try clear c19b1
            try clear hcz16_0
            try clear hcz16_1
            try clear hcz16_2
            try clear hcz16_3
            try clear hcz16_4
            try clear hcz16_5
            try clear hcz16_6
            try clear hcz16_7
            try clear hcz17_0
            try clear hcz17_1
            try clear hcz17_2
            try clear hcz17_3
            try clear hcz17_4
            try clear hcz17_5
            try clear hcz17_6
            try clear hcz17_7
            try clear hcz20_0
            try clear hcz20_1
            try clear hcz20_2
            try clear hcz20_3
            try clear hcz20_4
            try clear hcz20_5
            try clear hcz20_6
            try clear hcz20_7
            try clear hcz21_0
            try clear hcz21_1
            try clear hcz21_2
            try clear hcz21_3
            try clear hcz21_4
            try clear hcz21_5
            try clear hcz21_6
            try clear hcz21_7
            try clear hcz3_0
            try clear hcz3_1
            try clear hcz3_2
            try clear hcz3_3
            try clear hcz3_4
            try clear hcz3_5
            try clear hcz3_6
            try clear hcz3_7
            try clear hfz16_0
            try clear hfz16_1
            try clear hfz16_2
            try clear hfz16_3
            try clear hfz16_4
            try clear hfz16_5
            try clear hfz16_6
            try clear hfz16_7
            try clear hfz17_0
            try clear hfz17_1
            try clear hfz17_2
            try clear hfz17_3
            try clear hfz17_4
            try clear hfz17_5
            try clear hfz17_6
            try clear hfz17_7
            try clear hfz20_0
            try clear hfz20_1
            try clear hfz20_2
            try clear hfz20_3
            try clear hfz20_4
            try clear hfz20_5
            try clear hfz20_6
            try clear hfz20_7
            try clear hfz21_0
            try clear hfz21_1
            try clear hfz21_2
            try clear hfz21_3
            try clear hfz21_4
            try clear hfz21_5
            try clear hfz21_6
            try clear hfz21_7
            try clear hfz3_0
            try clear hfz3_1
            try clear hfz3_2
            try clear hfz3_3
            try clear hfz3_4
            try clear hfz3_5
            try clear hfz3_6
            try clear hfz3_7
            try clear hx105_0
            try clear p1
            try clear p10
            try clear p105
            try clear p2
            try clear p6
            try clear q1
            try clear q10
            try clear q105
            obtain ⟨x5_3, rfl, HA, HK3, BK101, HB⟩ := hrel
            cases gk with
            | zero => exact absurd HA.out (by simp [regletref04_Style.l1])
            | succ k3 =>
              have H := HA.out
              clear HA
              simp only [regletref04_Style.l1] at H
              by_cases c22 : x5_3 < (l0_6.length : Int)
              rotate_left
              · rw [if_neg c22] at H
                have c22b0 : decide (x5_3 < (l0_6.length : Int)) = false := decide_eq_false c22
                clear c22
                obtain rfl := Option.some.inj H
                have hcz80_0 : wr.cell? ⟨gb101, 0, none⟩ = some (.int .i64 a0_0) := (blk_cell BK101.out 0).trans rfl
                have hcz80_1 : wr.cell? ⟨gb101, 1, none⟩ = some (.int .i64 a0_1) := (blk_cell BK101.out 1).trans rfl
                have hcz80_2 : wr.cell? ⟨gb101, 2, none⟩ = some (.int .i64 a0_2) := (blk_cell BK101.out 2).trans rfl
                have hcz80_3 : wr.cell? ⟨gb101, 3, none⟩ = some (.int .i64 a0_3) := (blk_cell BK101.out 3).trans rfl
                have hcz80_4 : wr.cell? ⟨gb101, 4, none⟩ = some (.int .i64 a0_4) := (blk_cell BK101.out 4).trans rfl
                have hcz80_5 : wr.cell? ⟨gb101, 5, none⟩ = some (.int .i64 a0_5) := (blk_cell BK101.out 5).trans rfl
                have hcz80_6 : wr.cell? ⟨gb101, 6, none⟩ = some (.slice A0_6 l0_6.length c0_6) := (blk_cell BK101.out 6).trans rfl
                have hcz80_7 : wr.cell? ⟨gb101, 7, none⟩ = some (.bool a0_7) := (blk_cell BK101.out 7).trans rfl
                have hfz80_0 := blk_frozen BK101.out 0
                have hfz80_1 := blk_frozen BK101.out 1
                have hfz80_2 := blk_frozen BK101.out 2
                have hfz80_3 := blk_frozen BK101.out 3
                have hfz80_4 := blk_frozen BK101.out 4
                have hfz80_5 := blk_frozen BK101.out 5
                have hfz80_6 := blk_frozen BK101.out 6
                have hfz80_7 := blk_frozen BK101.out 7
                go_wp2
                repeat (go_quiet (fail); try go_wp2)
                go_ret
                exact ⟨z178_, z86_⟩
              rw [if_pos c22] at H
              have c22b0 : decide (x5_3 < (l0_6.length : Int)) = true := decide_eq_true c22
              clear c22
              by_cases c23 : 0 ≤ x5_3
              rotate_left
              · rw [if_neg c23] at H
                exact absurd H (by simp)
              rw [if_pos c23] at H
              have c23b0 : decide (0 ≤ x5_3) = true := decide_eq_true c23
              clear c23
              have HC24 := Aside0.mk H
              clear H
              have hcz25_0 : wr.cell? ⟨gb101, 0, none⟩ = some (.int .i64 a0_0) := (blk_cell BK101.out 0).trans rfl
              have hcz25_1 : wr.cell? ⟨gb101, 1, none⟩ = some (.int .i64 a0_1) := (blk_cell BK101.out 1).trans rfl
              have hcz25_2 : wr.cell? ⟨gb101, 2, none⟩ = some (.int .i64 a0_2) := (blk_cell BK101.out 2).trans rfl
              have hcz25_3 : wr.cell? ⟨gb101, 3, none⟩ = some (.int .i64 a0_3) := (blk_cell BK101.out 3).trans rfl
              have hcz25_4 : wr.cell? ⟨gb101, 4, none⟩ = some (.int .i64 a0_4) := (blk_cell BK101.out 4).trans rfl
              have hcz25_5 : wr.cell? ⟨gb101, 5, none⟩ = some (.int .i64 a0_5) := (blk_cell BK101.out 5).trans rfl
              have hcz25_6 : wr.cell? ⟨gb101, 6, none⟩ = some (.slice A0_6 l0_6.length c0_6) := (blk_cell BK101.out 6).trans rfl
              have hcz25_7 : wr.cell? ⟨gb101, 7, none⟩ = some (.bool a0_7) := (blk_cell BK101.out 7).trans rfl
              have hfz25_0 := blk_frozen BK101.out 0
              have hfz25_1 := blk_frozen BK101.out 1
              have hfz25_2 := blk_frozen BK101.out 2
              have hfz25_3 := blk_frozen BK101.out 3
              have hfz25_4 := blk_frozen BK101.out 4
              have hfz25_5 := blk_frozen BK101.out 5
              have hfz25_6 := blk_frozen BK101.out 6
              have hfz25_7 := blk_frozen BK101.out 7
              have p108 : 0 ≤ (x5_3 : Int) := of_decide_eq_true z204_
              have q108 : x5_3 < (l0_6.length : Int) := of_decide_eq_true z204_
              obtain ⟨ad108, e108, hx108_0, hx108_1, hx108_2⟩ := at_T134 HR0_6.out x5_3 p108 q108
              cases e108
              replace hx108_0 := (HB.out.cell (World.block_lt_of_cell? w _ hx108_0)).trans hx108_0
              replace hx108_1 := (HB.out.cell (World.block_lt_of_cell? w _ hx108_1)).trans hx108_1
              replace hx108_2 := (HB.out.cell (World.block_lt_of_cell? w _ hx108_2)).trans hx108_2
              replace p108 := eq_true p108
              replace q108 := eq_true q108
              go_upto_region 15 with (first | ((with_reducible refine gate_dst (N := 6) rfl ?_); refine box_event ?hg (N := 6) ?hd (cs := #[.int .i64 0, .int .i64 0, .int .i64 0]) (t := 134) ?hr ?_; (case hd => rfl); (case hg => rfl); (case hr => exact z209_); intro gb109 hg w26 hbox hb; have BK109 := Aside0.mk (hbox); have GW109 := Aside0.mk ((z57_ : w.heap.size ≤ gb109)); have GE109 := Aside0.mk ((z57_ : w.heap.size ≤ gb109)); replace HB := Aside0.mk (below_step z86_ hb); have NB101_109 := Aside0.mk ((z24_ : gb101 ≠ gb109)); have NB109_101 := Aside0.mk ((z23_ : gb109 ≠ gb101)); replace BK101 := Aside0.mk (blk_below (g := gb101) (o := .cells #[.int .i64 a0_0, .int .i64 a0_1, .int .i64 a0_2, .int .i64 a0_3, .int .i64 a0_4, .int .i64 a0_5, .slice (some ad108) l0_6.length c0_6, .bool a0_7] 87 (0, 0)) z132_ hb); clear hb hbox hg; have hnb27 := NB109_101.out; have hnc27 := NB101_109.out; have hcz28_0 : w26.cell? ⟨gb109, 0, none⟩ = some (.int .i64 0) := (blk_cell BK109.out 0).trans rfl; have hcz28_1 : w26.cell? ⟨gb109, 1, none⟩ = some (.int .i64 0) := (blk_cell BK109.out 1).trans rfl; have hcz28_2 : w26.cell? ⟨gb109, 2, none⟩ = some (.int .i64 0) := (blk_cell BK109.out 2).trans rfl; have hfz28_0 := blk_frozen BK109.out 0; have hfz28_1 := blk_frozen BK109.out 1; have hfz28_2 := blk_frozen BK109.out 2))
              repeat (go_quiet (first | ((with_reducible refine gate_dst (N := 6) rfl ?_); refine box_event ?hg (N := 6) ?hd (cs := #[.int .i64 0, .int .i64 0, .int .i64 0]) (t := 134) ?hr ?_; (case hd => rfl); (case hg => rfl); (case hr => exact z209_); intro gb109 hg w26 hbox hb; have BK109 := Aside0.mk (hbox); have GW109 := Aside0.mk ((z57_ : w.heap.size ≤ gb109)); have GE109 := Aside0.mk ((z57_ : w.heap.size ≤ gb109)); replace HB := Aside0.mk (below_step z86_ hb); have NB101_109 := Aside0.mk ((z24_ : gb101 ≠ gb109)); have NB109_101 := Aside0.mk ((z23_ : gb109 ≠ gb101)); replace BK101 := Aside0.mk (blk_below (g := gb101) (o := .cells #[.int .i64 a0_0, .int .i64 a0_1, .int .i64 a0_2, .int .i64 a0_3, .int .i64 a0_4, .int .i64 a0_5, .slice (some ad108) l0_6.length c0_6, .bool a0_7] 87 (0, 0)) z132_ hb); clear hb hbox hg; have hnb27 := NB109_101.out; have hnc27 := NB101_109.out; have hcz28_0 : w26.cell? ⟨gb109, 0, none⟩ = some (.int .i64 0) := (blk_cell BK109.out 0).trans rfl; have hcz28_1 : w26.cell? ⟨gb109, 1, none⟩ = some (.int .i64 0) := (blk_cell BK109.out 1).trans rfl; have hcz28_2 : w26.cell? ⟨gb109, 2, none⟩ = some (.int .i64 0) := (blk_cell BK109.out 2).trans rfl; have hfz28_0 := blk_frozen BK109.out 0; have hfz28_1 := blk_frozen BK109.out 1; have hfz28_2 := blk_frozen BK109.out 2)); go_upto_region 15 with (first | ((with_reducible refine gate_dst (N := 6) rfl ?_); refine box_event ?hg (N := 6) ?hd (cs := #[.int .i64 0, .int .i64 0, .int .i64 0]) (t := 134) ?hr ?_; (case hd => rfl); (case hg => rfl); (case hr => exact z209_); intro gb109 hg w26 hbox hb; have BK109 := Aside0.mk (hbox); have GW109 := Aside0.mk ((z57_ : w.heap.size ≤ gb109)); have GE109 := Aside0.mk ((z57_ : w.heap.size ≤ gb109)); replace HB := Aside0.mk (below_step z86_ hb); have NB101_109 := Aside0.mk ((z24_ : gb101 ≠ gb109)); have NB109_101 := Aside0.mk ((z23_ : gb109 ≠ gb101)); replace BK101 := Aside0.mk (blk_below (g := gb101) (o := .cells #[.int .i64 a0_0, .int .i64 a0_1, .int .i64 a0_2, .int .i64 a0_3, .int .i64 a0_4, .int .i64 a0_5, .slice (some ad108) l0_6.length c0_6, .bool a0_7] 87 (0, 0)) z132_ hb); clear hb hbox hg; have hnb27 := NB109_101.out; have hnc27 := NB101_109.out; have hcz28_0 : w26.cell? ⟨gb109, 0, none⟩ = some (.int .i64 0) := (blk_cell BK109.out 0).trans rfl; have hcz28_1 : w26.cell? ⟨gb109, 1, none⟩ = some (.int .i64 0) := (blk_cell BK109.out 1).trans rfl; have hcz28_2 : w26.cell? ⟨gb109, 2, none⟩ = some (.int .i64 0) := (blk_cell BK109.out 2).trans rfl; have hfz28_0 := blk_frozen BK109.out 0; have hfz28_1 := blk_frozen BK109.out 1; have hfz28_2 := blk_frozen BK109.out 2)))
              (try simp only [Act.put, List.setIfInBounds_toArray, List.set_cons_zero, List.set_cons_succ])
              go_cut [91] (fun v91 wc => ∃ (kq : Nat) (x91_23 : Bool), v91 = .bool x91_23 ∧ Aside0 (regletref04_Style.j3 kq x5_3 x91_23 a0_0 a0_1 a0_2 a0_3 a0_4 a0_5 l0_6 a0_7 ((rd_T134 l0_6 x5_3).f0) ((rd_T134 l0_6 x5_3).f1) ((rd_T134 l0_6 x5_3).f2) = some r) ∧ Aside0 (kq ≤ k3) ∧ Aside0 (wc.heap[gb101]? = some (.cells #[.int .i64 a0_0, .int .i64 a0_1, .int .i64 a0_2, .int .i64 a0_3, .int .i64 a0_4, .int .i64 a0_5, (.slice (some ad108) l0_6.length c0_6), .bool a0_7] 87 (0, 0))) ∧ Aside0 (wc.heap[gb109]? = some (.cells #[.int .i64 ((rd_T134 l0_6 x5_3).f0), .int .i64 ((rd_T134 l0_6 x5_3).f1), .int .i64 ((rd_T134 l0_6 x5_3).f2)] 134 (0, 0))) ∧ Aside0 (Below w.heap.size w wc))
              case first =>
                have H := HC24.out
                clear HC24
                by_cases c29 : x5_3 = 0
                rotate_left
                · rw [if_neg c29] at H
                  have c29b0 : (x5_3 == 0) = false := beq_eq_false_iff_ne.mpr c29
                  have c29b1 : (x5_3 != 0) = true := bne_iff_ne.mpr c29
                  (first | rw [c29b0] | (simp only [i64_w, i32_w]; rw [c29b0]) | skip)
                  by_cases c53 : x5_3 > 0
                  rotate_left
                  · rw [if_neg c53] at H
                    have c53b0 : decide (0 < x5_3) = false := decide_eq_false c53
                    clear c53
                    by_cases c68 : ((rd_T134 l0_6 x5_3).f1) < ((rd_T134 l0_6 x5_3).f0)
                    rotate_left
                    · rw [if_neg c68] at H
                      have c68b0 : decide (((rd_T134 l0_6 x5_3).f1) < ((rd_T134 l0_6 x5_3).f0)) = false := decide_eq_false c68
                      clear c68
                      have H' := Aside0.mk H
                      clear H
                      have hnb71 := NB109_101.out
                      have hnc71 := NB101_109.out
                      have hcz72_0 : w26.cell? ⟨gb109, 0, none⟩ = some (.int .i64 0) := (blk_cell BK109.out 0).trans rfl
                      have hcz72_1 : w26.cell? ⟨gb109, 1, none⟩ = some (.int .i64 0) := (blk_cell BK109.out 1).trans rfl
                      have hcz72_2 : w26.cell? ⟨gb109, 2, none⟩ = some (.int .i64 0) := (blk_cell BK109.out 2).trans rfl
                      have hfz72_0 := blk_frozen BK109.out 0
                      have hfz72_1 := blk_frozen BK109.out 1
                      have hfz72_2 := blk_frozen BK109.out 2
                      go_wp2
                      repeat (go_quiet (fail); try go_wp2)
                      go_meet
                      case rel => exact ⟨_, (decide (((rd_T134 l0_6 x5_3).f1) > 1114111)), z208_, H', ⟨z188_⟩, ⟨z12_⟩, ⟨z6_⟩, ⟨z64_⟩⟩
                    rw [if_pos c68] at H
                    have c68b0 : decide (((rd_T134 l0_6 x5_3).f1) < ((rd_T134 l0_6 x5_3).f0)) = true := decide_eq_true c68
                    clear c68
                    have H' := Aside0.mk H
                    clear H
                    have hnb69 := NB109_101.out
                    have hnc69 := NB101_109.out
                    have hcz70_0 : w26.cell? ⟨gb109, 0, none⟩ = some (.int .i64 0) := (blk_cell BK109.out 0).trans rfl
                    have hcz70_1 : w26.cell? ⟨gb109, 1, none⟩ = some (.int .i64 0) := (blk_cell BK109.out 1).trans rfl
                    have hcz70_2 : w26.cell? ⟨gb109, 2, none⟩ = some (.int .i64 0) := (blk_cell BK109.out 2).trans rfl
                    have hfz70_0 := blk_frozen BK109.out 0
                    have hfz70_1 := blk_frozen BK109.out 1
                    have hfz70_2 := blk_frozen BK109.out 2
                    go_wp2
                    repeat (go_quiet (fail); try go_wp2)
                    go_meet
                    case rel => exact ⟨_, (true), z208_, H', ⟨z188_⟩, ⟨z12_⟩, ⟨z6_⟩, ⟨z64_⟩⟩
                  rw [if_pos c53] at H
                  have c53b0 : decide (0 < x5_3) = true := decide_eq_true c53
                  clear c53
                  obtain ⟨ji54, hji54⟩ : ∃ j_ : Int, (wrap64 (x5_3 - 1)) = j_ := ⟨_, rfl⟩
                  replace H : (if 0 ≤ (ji54) then (if (ji54) < (l0_6.length : Int) then (if ((rd_T134 l0_6 x5_3).f0) ≤ ((rd_T134 l0_6 (ji54)).f1) then (regletref04_Style.j3 k3 x5_3 true a0_0 a0_1 a0_2 a0_3 a0_4 a0_5 l0_6 a0_7 ((rd_T134 l0_6 x5_3).f0) ((rd_T134 l0_6 x5_3).f1) ((rd_T134 l0_6 x5_3).f2)) else (if ((rd_T134 l0_6 x5_3).f1) < ((rd_T134 l0_6 x5_3).f0) then (regletref04_Style.j3 k3 x5_3 true a0_0 a0_1 a0_2 a0_3 a0_4 a0_5 l0_6 a0_7 ((rd_T134 l0_6 x5_3).f0) ((rd_T134 l0_6 x5_3).f1) ((rd_T134 l0_6 x5_3).f2)) else (regletref04_Style.j3 k3 x5_3 (decide (((rd_T134 l0_6 x5_3).f1) > 1114111)) a0_0 a0_1 a0_2 a0_3 a0_4 a0_5 l0_6 a0_7 ((rd_T134 l0_6 x5_3).f0) ((rd_T134 l0_6 x5_3).f1) ((rd_T134 l0_6 x5_3).f2)))) else (none)) else (none)) = some r := by first | (rw [hji54] at H; exact H) | (simp only [hji54] at H ⊢; exact H)
                  have hji54w : (IntKind.i64.wrap (x5_3 - 1)) = ji54 := (i64_w _).trans hji54
                  by_cases c55 : 0 ≤ (ji54)
                  rotate_left
                  · rw [if_neg c55] at H
                    exact absurd H (by simp)
                  rw [if_pos c55] at H
                  have c55b0 : decide (0 ≤ (ji54)) = true := decide_eq_true c55
                  clear c55
                  by_cases c56 : (ji54) < (l0_6.length : Int)
                  rotate_left
                  · rw [if_neg c56] at H
                    exact absurd H (by simp)
                  rw [if_pos c56] at H
                  have c56b0 : decide ((ji54) < (l0_6.length : Int)) = true := decide_eq_true c56
                  clear c56
                  by_cases c57 : ((rd_T134 l0_6 x5_3).f0) ≤ ((rd_T134 l0_6 (ji54)).f1)
                  · rw [if_pos c57] at H
                    have c57b0 : decide (((rd_T134 l0_6 x5_3).f0) ≤ ((rd_T134 l0_6 (ji54)).f1)) = true := decide_eq_true c57
                    clear c57
                    have H' := Aside0.mk H
                    clear H
                    have hnb58 := NB109_101.out
                    have hnc58 := NB101_109.out
                    have hcz59_0 : w26.cell? ⟨gb109, 0, none⟩ = some (.int .i64 0) := (blk_cell BK109.out 0).trans rfl
                    have hcz59_1 : w26.cell? ⟨gb109, 1, none⟩ = some (.int .i64 0) := (blk_cell BK109.out 1).trans rfl
                    have hcz59_2 : w26.cell? ⟨gb109, 2, none⟩ = some (.int .i64 0) := (blk_cell BK109.out 2).trans rfl
                    have hfz59_0 := blk_frozen BK109.out 0
                    have hfz59_1 := blk_frozen BK109.out 1
                    have hfz59_2 := blk_frozen BK109.out 2
                    have hcz60_0 : w26.cell? ⟨gb101, 0, none⟩ = some (.int .i64 a0_0) := (blk_cell BK101.out 0).trans rfl
                    have hcz60_1 : w26.cell? ⟨gb101, 1, none⟩ = some (.int .i64 a0_1) := (blk_cell BK101.out 1).trans rfl
                    have hcz60_2 : w26.cell? ⟨gb101, 2, none⟩ = some (.int .i64 a0_2) := (blk_cell BK101.out 2).trans rfl
                    have hcz60_3 : w26.cell? ⟨gb101, 3, none⟩ = some (.int .i64 a0_3) := (blk_cell BK101.out 3).trans rfl
                    have hcz60_4 : w26.cell? ⟨gb101, 4, none⟩ = some (.int .i64 a0_4) := (blk_cell BK101.out 4).trans rfl
                    have hcz60_5 : w26.cell? ⟨gb101, 5, none⟩ = some (.int .i64 a0_5) := (blk_cell BK101.out 5).trans rfl
                    have hcz60_6 : w26.cell? ⟨gb101, 6, none⟩ = some (.slice (some ad108) l0_6.length c0_6) := (blk_cell BK101.out 6).trans rfl
                    have hcz60_7 : w26.cell? ⟨gb101, 7, none⟩ = some (.bool a0_7) := (blk_cell BK101.out 7).trans rfl
                    have hfz60_0 := blk_frozen BK101.out 0
                    have hfz60_1 := blk_frozen BK101.out 1
                    have hfz60_2 := blk_frozen BK101.out 2
                    have hfz60_3 := blk_frozen BK101.out 3
                    have hfz60_4 := blk_frozen BK101.out 4
                    have hfz60_5 := blk_frozen BK101.out 5
                    have hfz60_6 := blk_frozen BK101.out 6
                    have hfz60_7 := blk_frozen BK101.out 7
                    have p111 : 0 ≤ ((ji54) : Int) := of_decide_eq_true z204_
                    have q111 : (ji54) < (l0_6.length : Int) := of_decide_eq_true z204_
                    obtain ⟨ad111, e111, hx111_0, hx111_1, hx111_2⟩ := at_T134 HR0_6.out (ji54) p111 q111
                    obtain rfl : ad108 = ad111 := (by injection e111)
                    have hn111_0 : ad108.block ≠ gb109 := Nat.ne_of_lt (Nat.lt_of_lt_of_le z184_ GW109.out)
                    have hn111_1 : ad108.block ≠ gb109 := Nat.ne_of_lt (Nat.lt_of_lt_of_le z184_ GW109.out)
                    have hn111_2 : ad108.block ≠ gb109 := Nat.ne_of_lt (Nat.lt_of_lt_of_le z184_ GW109.out)
                    replace hx111_0 := (HB.out.cell (World.block_lt_of_cell? w _ hx111_0)).trans hx111_0
                    replace hx111_1 := (HB.out.cell (World.block_lt_of_cell? w _ hx111_1)).trans hx111_1
                    replace hx111_2 := (HB.out.cell (World.block_lt_of_cell? w _ hx111_2)).trans hx111_2
                    replace hx111_0 := (cell_far (p := ⟨gb109, 0, none⟩) z129_ (.int .i64 ((rd_T134 l0_6 x5_3).f0))).trans hx111_0
                    replace hx111_1 := (cell_far (p := ⟨gb109, 0, none⟩) z129_ (.int .i64 ((rd_T134 l0_6 x5_3).f0))).trans hx111_1
                    replace hx111_2 := (cell_far (p := ⟨gb109, 0, none⟩) z129_ (.int .i64 ((rd_T134 l0_6 x5_3).f0))).trans hx111_2
                    replace hx111_0 := (cell_far (p := ⟨gb109, 1, none⟩) z130_ (.int .i64 ((rd_T134 l0_6 x5_3).f1))).trans hx111_0
                    replace hx111_1 := (cell_far (p := ⟨gb109, 1, none⟩) z130_ (.int .i64 ((rd_T134 l0_6 x5_3).f1))).trans hx111_1
                    replace hx111_2 := (cell_far (p := ⟨gb109, 1, none⟩) z130_ (.int .i64 ((rd_T134 l0_6 x5_3).f1))).trans hx111_2
                    replace hx111_0 := (cell_far (p := ⟨gb109, 2, none⟩) z131_ (.int .i64 ((rd_T134 l0_6 x5_3).f2))).trans hx111_0
                    replace hx111_1 := (cell_far (p := ⟨gb109, 2, none⟩) z131_ (.int .i64 ((rd_T134 l0_6 x5_3).f2))).trans hx111_1
                    replace hx111_2 := (cell_far (p := ⟨gb109, 2, none⟩) z131_ (.int .i64 ((rd_T134 l0_6 x5_3).f2))).trans hx111_2
                    (try have hy111_0 := fun (n_ : Nat) => (show (((((w26.drewN n_).setCell ⟨gb109, 0, none⟩ (.int .i64 ((rd_T134 l0_6 x5_3).f0))).setCell ⟨gb109, 1, none⟩ (.int .i64 ((rd_T134 l0_6 x5_3).f1))).setCell ⟨gb109, 2, none⟩ (.int .i64 ((rd_T134 l0_6 x5_3).f2)))).cell? _ = some _ from hx111_0))
                    (try have hy111_1 := fun (n_ : Nat) => (show (((((w26.drewN n_).setCell ⟨gb109, 0, none⟩ (.int .i64 ((rd_T134 l0_6 x5_3).f0))).setCell ⟨gb109, 1, none⟩ (.int .i64 ((rd_T134 l0_6 x5_3).f1))).setCell ⟨gb109, 2, none⟩ (.int .i64 ((rd_T134 l0_6 x5_3).f2)))).cell? _ = some _ from hx111_1))
                    (try have hy111_2 := fun (n_ : Nat) => (show (((((w26.drewN n_).setCell ⟨gb109, 0, none⟩ (.int .i64 ((rd_T134 l0_6 x5_3).f0))).setCell ⟨gb109, 1, none⟩ (.int .i64 ((rd_T134 l0_6 x5_3).f1))).setCell ⟨gb109, 2, none⟩ (.int .i64 ((rd_T134 l0_6 x5_3).f2)))).cell? _ = some _ from hx111_2))
                    clear hn111_0
                    clear hn111_1
                    clear hn111_2
                    replace p111 := eq_true p111
                    replace q111 := eq_true q111
                    go_wp2
                    repeat (go_quiet (fail); try go_wp2)
                    go_meet
                    case rel => exact ⟨_, (true), z208_, H', ⟨z188_⟩, ⟨z12_⟩, ⟨z6_⟩, ⟨z64_⟩⟩
                  rw [if_neg c57] at H
                  have c57b0 : decide (((rd_T134 l0_6 x5_3).f0) ≤ ((rd_T134 l0_6 (ji54)).f1)) = false := decide_eq_false c57
                  clear c57
                  by_cases c61 : ((rd_T134 l0_6 x5_3).f1) < ((rd_T134 l0_6 x5_3).f0)
                  rotate_left
                  · rw [if_neg c61] at H
                    have c61b0 : decide (((rd_T134 l0_6 x5_3).f1) < ((rd_T134 l0_6 x5_3).f0)) = false := decide_eq_false c61
                    clear c61
                    have H' := Aside0.mk H
                    clear H
                    have hnb65 := NB109_101.out
                    have hnc65 := NB101_109.out
                    have hcz66_0 : w26.cell? ⟨gb109, 0, none⟩ = some (.int .i64 0) := (blk_cell BK109.out 0).trans rfl
                    have hcz66_1 : w26.cell? ⟨gb109, 1, none⟩ = some (.int .i64 0) := (blk_cell BK109.out 1).trans rfl
                    have hcz66_2 : w26.cell? ⟨gb109, 2, none⟩ = some (.int .i64 0) := (blk_cell BK109.out 2).trans rfl
                    have hfz66_0 := blk_frozen BK109.out 0
                    have hfz66_1 := blk_frozen BK109.out 1
                    have hfz66_2 := blk_frozen BK109.out 2
                    have hcz67_0 : w26.cell? ⟨gb101, 0, none⟩ = some (.int .i64 a0_0) := (blk_cell BK101.out 0).trans rfl
                    have hcz67_1 : w26.cell? ⟨gb101, 1, none⟩ = some (.int .i64 a0_1) := (blk_cell BK101.out 1).trans rfl
                    have hcz67_2 : w26.cell? ⟨gb101, 2, none⟩ = some (.int .i64 a0_2) := (blk_cell BK101.out 2).trans rfl
                    have hcz67_3 : w26.cell? ⟨gb101, 3, none⟩ = some (.int .i64 a0_3) := (blk_cell BK101.out 3).trans rfl
                    have hcz67_4 : w26.cell? ⟨gb101, 4, none⟩ = some (.int .i64 a0_4) := (blk_cell BK101.out 4).trans rfl
                    have hcz67_5 : w26.cell? ⟨gb101, 5, none⟩ = some (.int .i64 a0_5) := (blk_cell BK101.out 5).trans rfl
                    have hcz67_6 : w26.cell? ⟨gb101, 6, none⟩ = some (.slice (some ad108) l0_6.length c0_6) := (blk_cell BK101.out 6).trans rfl
                    have hcz67_7 : w26.cell? ⟨gb101, 7, none⟩ = some (.bool a0_7) := (blk_cell BK101.out 7).trans rfl
                    have hfz67_0 := blk_frozen BK101.out 0
                    have hfz67_1 := blk_frozen BK101.out 1
                    have hfz67_2 := blk_frozen BK101.out 2
                    have hfz67_3 := blk_frozen BK101.out 3
                    have hfz67_4 := blk_frozen BK101.out 4
                    have hfz67_5 := blk_frozen BK101.out 5
                    have hfz67_6 := blk_frozen BK101.out 6
                    have hfz67_7 := blk_frozen BK101.out 7
                    have p111 : 0 ≤ ((ji54) : Int) := of_decide_eq_true z204_
                    have q111 : (ji54) < (l0_6.length : Int) := of_decide_eq_true z204_
                    obtain ⟨ad111, e111, hx111_0, hx111_1, hx111_2⟩ := at_T134 HR0_6.out (ji54) p111 q111
                    obtain rfl : ad108 = ad111 := (by injection e111)
                    have hn111_0 : ad108.block ≠ gb109 := Nat.ne_of_lt (Nat.lt_of_lt_of_le z184_ GW109.out)
                    have hn111_1 : ad108.block ≠ gb109 := Nat.ne_of_lt (Nat.lt_of_lt_of_le z184_ GW109.out)
                    have hn111_2 : ad108.block ≠ gb109 := Nat.ne_of_lt (Nat.lt_of_lt_of_le z184_ GW109.out)
                    replace hx111_0 := (HB.out.cell (World.block_lt_of_cell? w _ hx111_0)).trans hx111_0
                    replace hx111_1 := (HB.out.cell (World.block_lt_of_cell? w _ hx111_1)).trans hx111_1
                    replace hx111_2 := (HB.out.cell (World.block_lt_of_cell? w _ hx111_2)).trans hx111_2
                    replace hx111_0 := (cell_far (p := ⟨gb109, 0, none⟩) z129_ (.int .i64 ((rd_T134 l0_6 x5_3).f0))).trans hx111_0
                    replace hx111_1 := (cell_far (p := ⟨gb109, 0, none⟩) z129_ (.int .i64 ((rd_T134 l0_6 x5_3).f0))).trans hx111_1
                    replace hx111_2 := (cell_far (p := ⟨gb109, 0, none⟩) z129_ (.int .i64 ((rd_T134 l0_6 x5_3).f0))).trans hx111_2
                    replace hx111_0 := (cell_far (p := ⟨gb109, 1, none⟩) z130_ (.int .i64 ((rd_T134 l0_6 x5_3).f1))).trans hx111_0
                    replace hx111_1 := (cell_far (p := ⟨gb109, 1, none⟩) z130_ (.int .i64 ((rd_T134 l0_6 x5_3).f1))).trans hx111_1
                    replace hx111_2 := (cell_far (p := ⟨gb109, 1, none⟩) z130_ (.int .i64 ((rd_T134 l0_6 x5_3).f1))).trans hx111_2
                    replace hx111_0 := (cell_far (p := ⟨gb109, 2, none⟩) z131_ (.int .i64 ((rd_T134 l0_6 x5_3).f2))).trans hx111_0
                    replace hx111_1 := (cell_far (p := ⟨gb109, 2, none⟩) z131_ (.int .i64 ((rd_T134 l0_6 x5_3).f2))).trans hx111_1
                    replace hx111_2 := (cell_far (p := ⟨gb109, 2, none⟩) z131_ (.int .i64 ((rd_T134 l0_6 x5_3).f2))).trans hx111_2
                    (try have hy111_0 := fun (n_ : Nat) => (show (((((w26.drewN n_).setCell ⟨gb109, 0, none⟩ (.int .i64 ((rd_T134 l0_6 x5_3).f0))).setCell ⟨gb109, 1, none⟩ (.int .i64 ((rd_T134 l0_6 x5_3).f1))).setCell ⟨gb109, 2, none⟩ (.int .i64 ((rd_T134 l0_6 x5_3).f2)))).cell? _ = some _ from hx111_0))
                    (try have hy111_1 := fun (n_ : Nat) => (show (((((w26.drewN n_).setCell ⟨gb109, 0, none⟩ (.int .i64 ((rd_T134 l0_6 x5_3).f0))).setCell ⟨gb109, 1, none⟩ (.int .i64 ((rd_T134 l0_6 x5_3).f1))).setCell ⟨gb109, 2, none⟩ (.int .i64 ((rd_T134 l0_6 x5_3).f2)))).cell? _ = some _ from hx111_1))
                    (try have hy111_2 := fun (n_ : Nat) => (show (((((w26.drewN n_).setCell ⟨gb109, 0, none⟩ (.int .i64 ((rd_T134 l0_6 x5_3).f0))).setCell ⟨gb109, 1, none⟩ (.int .i64 ((rd_T134 l0_6 x5_3).f1))).setCell ⟨gb109, 2, none⟩ (.int .i64 ((rd_T134 l0_6 x5_3).f2)))).cell? _ = some _ from hx111_2))
                    clear hn111_0
                    clear hn111_1
                    clear hn111_2
                    replace p111 := eq_true p111
                    replace q111 := eq_true q111
                    go_wp2
                    repeat (go_quiet (fail); try go_wp2)
                    go_meet
                    case rel => exact ⟨_, (decide (((rd_T134 l0_6 x5_3).f1) > 1114111)), z208_, H', ⟨z188_⟩, ⟨z12_⟩, ⟨z6_⟩, ⟨z64_⟩⟩
                  rw [if_pos c61] at H
                  have c61b0 : decide (((rd_T134 l0_6 x5_3).f1) < ((rd_T134 l0_6 x5_3).f0)) = true := decide_eq_true c61
                  clear c61
                  have H' := Aside0.mk H
                  clear H
                  have hnb62 := NB109_101.out
                  have hnc62 := NB101_109.out
                  have hcz63_0 : w26.cell? ⟨gb109, 0, none⟩ = some (.int .i64 0) := (blk_cell BK109.out 0).trans rfl
                  have hcz63_1 : w26.cell? ⟨gb109, 1, none⟩ = some (.int .i64 0) := (blk_cell BK109.out 1).trans rfl
                  have hcz63_2 : w26.cell? ⟨gb109, 2, none⟩ = some (.int .i64 0) := (blk_cell BK109.out 2).trans rfl
                  have hfz63_0 := blk_frozen BK109.out 0
                  have hfz63_1 := blk_frozen BK109.out 1
                  have hfz63_2 := blk_frozen BK109.out 2
                  have hcz64_0 : w26.cell? ⟨gb101, 0, none⟩ = some (.int .i64 a0_0) := (blk_cell BK101.out 0).trans rfl
                  have hcz64_1 : w26.cell? ⟨gb101, 1, none⟩ = some (.int .i64 a0_1) := (blk_cell BK101.out 1).trans rfl
                  have hcz64_2 : w26.cell? ⟨gb101, 2, none⟩ = some (.int .i64 a0_2) := (blk_cell BK101.out 2).trans rfl
                  have hcz64_3 : w26.cell? ⟨gb101, 3, none⟩ = some (.int .i64 a0_3) := (blk_cell BK101.out 3).trans rfl
                  have hcz64_4 : w26.cell? ⟨gb101, 4, none⟩ = some (.int .i64 a0_4) := (blk_cell BK101.out 4).trans rfl
                  have hcz64_5 : w26.cell? ⟨gb101, 5, none⟩ = some (.int .i64 a0_5) := (blk_cell BK101.out 5).trans rfl
                  have hcz64_6 : w26.cell? ⟨gb101, 6, none⟩ = some (.slice (some ad108) l0_6.length c0_6) := (blk_cell BK101.out 6).trans rfl
                  have hcz64_7 : w26.cell? ⟨gb101, 7, none⟩ = some (.bool a0_7) := (blk_cell BK101.out 7).trans rfl
                  have hfz64_0 := blk_frozen BK101.out 0
                  have hfz64_1 := blk_frozen BK101.out 1
                  have hfz64_2 := blk_frozen BK101.out 2
                  have hfz64_3 := blk_frozen BK101.out 3
                  have hfz64_4 := blk_frozen BK101.out 4
                  have hfz64_5 := blk_frozen BK101.out 5
                  have hfz64_6 := blk_frozen BK101.out 6
                  have hfz64_7 := blk_frozen BK101.out 7
                  have p111 : 0 ≤ ((ji54) : Int) := of_decide_eq_true z204_
                  have q111 : (ji54) < (l0_6.length : Int) := of_decide_eq_true z204_
                  obtain ⟨ad111, e111, hx111_0, hx111_1, hx111_2⟩ := at_T134 HR0_6.out (ji54) p111 q111
                  obtain rfl : ad108 = ad111 := (by injection e111)
                  have hn111_0 : ad108.block ≠ gb109 := Nat.ne_of_lt (Nat.lt_of_lt_of_le z184_ GW109.out)
                  have hn111_1 : ad108.block ≠ gb109 := Nat.ne_of_lt (Nat.lt_of_lt_of_le z184_ GW109.out)
                  have hn111_2 : ad108.block ≠ gb109 := Nat.ne_of_lt (Nat.lt_of_lt_of_le z184_ GW109.out)
                  replace hx111_0 := (HB.out.cell (World.block_lt_of_cell? w _ hx111_0)).trans hx111_0
                  replace hx111_1 := (HB.out.cell (World.block_lt_of_cell? w _ hx111_1)).trans hx111_1
                  replace hx111_2 := (HB.out.cell (World.block_lt_of_cell? w _ hx111_2)).trans hx111_2
                  replace hx111_0 := (cell_far (p := ⟨gb109, 0, none⟩) z129_ (.int .i64 ((rd_T134 l0_6 x5_3).f0))).trans hx111_0
                  replace hx111_1 := (cell_far (p := ⟨gb109, 0, none⟩) z129_ (.int .i64 ((rd_T134 l0_6 x5_3).f0))).trans hx111_1
                  replace hx111_2 := (cell_far (p := ⟨gb109, 0, none⟩) z129_ (.int .i64 ((rd_T134 l0_6 x5_3).f0))).trans hx111_2
                  replace hx111_0 := (cell_far (p := ⟨gb109, 1, none⟩) z130_ (.int .i64 ((rd_T134 l0_6 x5_3).f1))).trans hx111_0
                  replace hx111_1 := (cell_far (p := ⟨gb109, 1, none⟩) z130_ (.int .i64 ((rd_T134 l0_6 x5_3).f1))).trans hx111_1
                  replace hx111_2 := (cell_far (p := ⟨gb109, 1, none⟩) z130_ (.int .i64 ((rd_T134 l0_6 x5_3).f1))).trans hx111_2
                  replace hx111_0 := (cell_far (p := ⟨gb109, 2, none⟩) z131_ (.int .i64 ((rd_T134 l0_6 x5_3).f2))).trans hx111_0
                  replace hx111_1 := (cell_far (p := ⟨gb109, 2, none⟩) z131_ (.int .i64 ((rd_T134 l0_6 x5_3).f2))).trans hx111_1
                  replace hx111_2 := (cell_far (p := ⟨gb109, 2, none⟩) z131_ (.int .i64 ((rd_T134 l0_6 x5_3).f2))).trans hx111_2
                  (try have hy111_0 := fun (n_ : Nat) => (show (((((w26.drewN n_).setCell ⟨gb109, 0, none⟩ (.int .i64 ((rd_T134 l0_6 x5_3).f0))).setCell ⟨gb109, 1, none⟩ (.int .i64 ((rd_T134 l0_6 x5_3).f1))).setCell ⟨gb109, 2, none⟩ (.int .i64 ((rd_T134 l0_6 x5_3).f2)))).cell? _ = some _ from hx111_0))
                  (try have hy111_1 := fun (n_ : Nat) => (show (((((w26.drewN n_).setCell ⟨gb109, 0, none⟩ (.int .i64 ((rd_T134 l0_6 x5_3).f0))).setCell ⟨gb109, 1, none⟩ (.int .i64 ((rd_T134 l0_6 x5_3).f1))).setCell ⟨gb109, 2, none⟩ (.int .i64 ((rd_T134 l0_6 x5_3).f2)))).cell? _ = some _ from hx111_1))
                  (try have hy111_2 := fun (n_ : Nat) => (show (((((w26.drewN n_).setCell ⟨gb109, 0, none⟩ (.int .i64 ((rd_T134 l0_6 x5_3).f0))).setCell ⟨gb109, 1, none⟩ (.int .i64 ((rd_T134 l0_6 x5_3).f1))).setCell ⟨gb109, 2, none⟩ (.int .i64 ((rd_T134 l0_6 x5_3).f2)))).cell? _ = some _ from hx111_2))
                  clear hn111_0
                  clear hn111_1
                  clear hn111_2
                  replace p111 := eq_true p111
                  replace q111 := eq_true q111
                  go_wp2
                  repeat (go_quiet (fail); try go_wp2)
                  go_meet
                  case rel => exact ⟨_, (true), z208_, H', ⟨z188_⟩, ⟨z12_⟩, ⟨z6_⟩, ⟨z64_⟩⟩
                rw [if_pos c29] at H
                have c29b0 : (x5_3 == 0) = true := beq_iff_eq.mpr c29
                have c29b1 : (x5_3 != 0) = false := bne_eq_false_iff_eq.mpr c29
                clear c29
                (first | rw [c29b0] | (simp only [i64_w, i32_w]; rw [c29b0]) | skip)
                by_cases c30 : ((rd_T134 l0_6 x5_3).f0) < 0
                · rw [if_pos c30] at H
                  have c30b0 : decide (((rd_T134 l0_6 x5_3).f0) < 0) = true := decide_eq_true c30
                  clear c30
                  have H' := Aside0.mk H
                  clear H
                  have hnb31 := NB109_101.out
                  have hnc31 := NB101_109.out
                  have hcz32_0 : w26.cell? ⟨gb109, 0, none⟩ = some (.int .i64 0) := (blk_cell BK109.out 0).trans rfl
                  have hcz32_1 : w26.cell? ⟨gb109, 1, none⟩ = some (.int .i64 0) := (blk_cell BK109.out 1).trans rfl
                  have hcz32_2 : w26.cell? ⟨gb109, 2, none⟩ = some (.int .i64 0) := (blk_cell BK109.out 2).trans rfl
                  have hfz32_0 := blk_frozen BK109.out 0
                  have hfz32_1 := blk_frozen BK109.out 1
                  have hfz32_2 := blk_frozen BK109.out 2
                  go_wp2
                  repeat (go_quiet (fail); try go_wp2)
                  go_meet
                  case rel => exact ⟨_, (true), z208_, H', ⟨z188_⟩, ⟨z12_⟩, ⟨z6_⟩, ⟨z64_⟩⟩
                rw [if_neg c30] at H
                have c30b0 : decide (((rd_T134 l0_6 x5_3).f0) < 0) = false := decide_eq_false c30
                clear c30
                by_cases c33 : x5_3 > 0
                rotate_left
                · rw [if_neg c33] at H
                  have c33b0 : decide (0 < x5_3) = false := decide_eq_false c33
                  clear c33
                  by_cases c48 : ((rd_T134 l0_6 x5_3).f1) < ((rd_T134 l0_6 x5_3).f0)
                  rotate_left
                  · rw [if_neg c48] at H
                    have c48b0 : decide (((rd_T134 l0_6 x5_3).f1) < ((rd_T134 l0_6 x5_3).f0)) = false := decide_eq_false c48
                    clear c48
                    have H' := Aside0.mk H
                    clear H
                    have hnb51 := NB109_101.out
                    have hnc51 := NB101_109.out
                    have hcz52_0 : w26.cell? ⟨gb109, 0, none⟩ = some (.int .i64 0) := (blk_cell BK109.out 0).trans rfl
                    have hcz52_1 : w26.cell? ⟨gb109, 1, none⟩ = some (.int .i64 0) := (blk_cell BK109.out 1).trans rfl
                    have hcz52_2 : w26.cell? ⟨gb109, 2, none⟩ = some (.int .i64 0) := (blk_cell BK109.out 2).trans rfl
                    have hfz52_0 := blk_frozen BK109.out 0
                    have hfz52_1 := blk_frozen BK109.out 1
                    have hfz52_2 := blk_frozen BK109.out 2
                    go_wp2
                    repeat (go_quiet (fail); try go_wp2)
                    go_meet
                    case rel => exact ⟨_, (decide (((rd_T134 l0_6 x5_3).f1) > 1114111)), z208_, H', ⟨z188_⟩, ⟨z12_⟩, ⟨z6_⟩, ⟨z64_⟩⟩
                  rw [if_pos c48] at H
                  have c48b0 : decide (((rd_T134 l0_6 x5_3).f1) < ((rd_T134 l0_6 x5_3).f0)) = true := decide_eq_true c48
                  clear c48
                  have H' := Aside0.mk H
                  clear H
                  have hnb49 := NB109_101.out
                  have hnc49 := NB101_109.out
                  have hcz50_0 : w26.cell? ⟨gb109, 0, none⟩ = some (.int .i64 0) := (blk_cell BK109.out 0).trans rfl
                  have hcz50_1 : w26.cell? ⟨gb109, 1, none⟩ = some (.int .i64 0) := (blk_cell BK109.out 1).trans rfl
                  have hcz50_2 : w26.cell? ⟨gb109, 2, none⟩ = some (.int .i64 0) := (blk_cell BK109.out 2).trans rfl
                  have hfz50_0 := blk_frozen BK109.out 0
                  have hfz50_1 := blk_frozen BK109.out 1
                  have hfz50_2 := blk_frozen BK109.out 2
                  go_wp2
                  repeat (go_quiet (fail); try go_wp2)
                  go_meet
                  case rel => exact ⟨_, (true), z208_, H', ⟨z188_⟩, ⟨z12_⟩, ⟨z6_⟩, ⟨z64_⟩⟩
                rw [if_pos c33] at H
                have c33b0 : decide (0 < x5_3) = true := decide_eq_true c33
                clear c33
                obtain ⟨ji34, hji34⟩ : ∃ j_ : Int, (wrap64 (x5_3 - 1)) = j_ := ⟨_, rfl⟩
                replace H : (if 0 ≤ (ji34) then (if (ji34) < (l0_6.length : Int) then (if ((rd_T134 l0_6 x5_3).f0) ≤ ((rd_T134 l0_6 (ji34)).f1) then (regletref04_Style.j3 k3 x5_3 true a0_0 a0_1 a0_2 a0_3 a0_4 a0_5 l0_6 a0_7 ((rd_T134 l0_6 x5_3).f0) ((rd_T134 l0_6 x5_3).f1) ((rd_T134 l0_6 x5_3).f2)) else (if ((rd_T134 l0_6 x5_3).f1) < ((rd_T134 l0_6 x5_3).f0) then (regletref04_Style.j3 k3 x5_3 true a0_0 a0_1 a0_2 a0_3 a0_4 a0_5 l0_6 a0_7 ((rd_T134 l0_6 x5_3).f0) ((rd_T134 l0_6 x5_3).f1) ((rd_T134 l0_6 x5_3).f2)) else (regletref04_Style.j3 k3 x5_3 (decide (((rd_T134 l0_6 x5_3).f1) > 1114111)) a0_0 a0_1 a0_2 a0_3 a0_4 a0_5 l0_6 a0_7 ((rd_T134 l0_6 x5_3).f0) ((rd_T134 l0_6 x5_3).f1) ((rd_T134 l0_6 x5_3).f2)))) else (none)) else (none)) = some r := by first | (rw [hji34] at H; exact H) | (simp only [hji34] at H ⊢; exact H)
                have hji34w : (IntKind.i64.wrap (x5_3 - 1)) = ji34 := (i64_w _).trans hji34
                by_cases c35 : 0 ≤ (ji34)
                rotate_left
                · rw [if_neg c35] at H
                  exact absurd H (by simp)
                rw [if_pos c35] at H
                have c35b0 : decide (0 ≤ (ji34)) = true := decide_eq_true c35
                clear c35
                by_cases c36 : (ji34) < (l0_6.length : Int)
                rotate_left
                · rw [if_neg c36] at H
                  exact absurd H (by simp)
                rw [if_pos c36] at H
                have c36b0 : decide ((ji34) < (l0_6.length : Int)) = true := decide_eq_true c36
                clear c36
                by_cases c37 : ((rd_T134 l0_6 x5_3).f0) ≤ ((rd_T134 l0_6 (ji34)).f1)
                · rw [if_pos c37] at H
                  have c37b0 : decide (((rd_T134 l0_6 x5_3).f0) ≤ ((rd_T134 l0_6 (ji34)).f1)) = true := decide_eq_true c37
                  clear c37
                  have H' := Aside0.mk H
                  clear H
                  have hnb38 := NB109_101.out
                  have hnc38 := NB101_109.out
                  have hcz39_0 : w26.cell? ⟨gb109, 0, none⟩ = some (.int .i64 0) := (blk_cell BK109.out 0).trans rfl
                  have hcz39_1 : w26.cell? ⟨gb109, 1, none⟩ = some (.int .i64 0) := (blk_cell BK109.out 1).trans rfl
                  have hcz39_2 : w26.cell? ⟨gb109, 2, none⟩ = some (.int .i64 0) := (blk_cell BK109.out 2).trans rfl
                  have hfz39_0 := blk_frozen BK109.out 0
                  have hfz39_1 := blk_frozen BK109.out 1
                  have hfz39_2 := blk_frozen BK109.out 2
                  have hcz40_0 : w26.cell? ⟨gb101, 0, none⟩ = some (.int .i64 a0_0) := (blk_cell BK101.out 0).trans rfl
                  have hcz40_1 : w26.cell? ⟨gb101, 1, none⟩ = some (.int .i64 a0_1) := (blk_cell BK101.out 1).trans rfl
                  have hcz40_2 : w26.cell? ⟨gb101, 2, none⟩ = some (.int .i64 a0_2) := (blk_cell BK101.out 2).trans rfl
                  have hcz40_3 : w26.cell? ⟨gb101, 3, none⟩ = some (.int .i64 a0_3) := (blk_cell BK101.out 3).trans rfl
                  have hcz40_4 : w26.cell? ⟨gb101, 4, none⟩ = some (.int .i64 a0_4) := (blk_cell BK101.out 4).trans rfl
                  have hcz40_5 : w26.cell? ⟨gb101, 5, none⟩ = some (.int .i64 a0_5) := (blk_cell BK101.out 5).trans rfl
                  have hcz40_6 : w26.cell? ⟨gb101, 6, none⟩ = some (.slice (some ad108) l0_6.length c0_6) := (blk_cell BK101.out 6).trans rfl
                  have hcz40_7 : w26.cell? ⟨gb101, 7, none⟩ = some (.bool a0_7) := (blk_cell BK101.out 7).trans rfl
                  have hfz40_0 := blk_frozen BK101.out 0
                  have hfz40_1 := blk_frozen BK101.out 1
                  have hfz40_2 := blk_frozen BK101.out 2
                  have hfz40_3 := blk_frozen BK101.out 3
                  have hfz40_4 := blk_frozen BK101.out 4
                  have hfz40_5 := blk_frozen BK101.out 5
                  have hfz40_6 := blk_frozen BK101.out 6
                  have hfz40_7 := blk_frozen BK101.out 7
                  have p110 : 0 ≤ ((ji34) : Int) := of_decide_eq_true z204_
                  have q110 : (ji34) < (l0_6.length : Int) := of_decide_eq_true z204_
                  obtain ⟨ad110, e110, hx110_0, hx110_1, hx110_2⟩ := at_T134 HR0_6.out (ji34) p110 q110
                  obtain rfl : ad108 = ad110 := (by injection e110)
                  have hn110_0 : ad108.block ≠ gb109 := Nat.ne_of_lt (Nat.lt_of_lt_of_le z183_ GW109.out)
                  have hn110_1 : ad108.block ≠ gb109 := Nat.ne_of_lt (Nat.lt_of_lt_of_le z183_ GW109.out)
                  have hn110_2 : ad108.block ≠ gb109 := Nat.ne_of_lt (Nat.lt_of_lt_of_le z183_ GW109.out)
                  replace hx110_0 := (HB.out.cell (World.block_lt_of_cell? w _ hx110_0)).trans hx110_0
                  replace hx110_1 := (HB.out.cell (World.block_lt_of_cell? w _ hx110_1)).trans hx110_1
                  replace hx110_2 := (HB.out.cell (World.block_lt_of_cell? w _ hx110_2)).trans hx110_2
                  replace hx110_0 := (cell_far (p := ⟨gb109, 0, none⟩) z126_ (.int .i64 ((rd_T134 l0_6 x5_3).f0))).trans hx110_0
                  replace hx110_1 := (cell_far (p := ⟨gb109, 0, none⟩) z126_ (.int .i64 ((rd_T134 l0_6 x5_3).f0))).trans hx110_1
                  replace hx110_2 := (cell_far (p := ⟨gb109, 0, none⟩) z126_ (.int .i64 ((rd_T134 l0_6 x5_3).f0))).trans hx110_2
                  replace hx110_0 := (cell_far (p := ⟨gb109, 1, none⟩) z127_ (.int .i64 ((rd_T134 l0_6 x5_3).f1))).trans hx110_0
                  replace hx110_1 := (cell_far (p := ⟨gb109, 1, none⟩) z127_ (.int .i64 ((rd_T134 l0_6 x5_3).f1))).trans hx110_1
                  replace hx110_2 := (cell_far (p := ⟨gb109, 1, none⟩) z127_ (.int .i64 ((rd_T134 l0_6 x5_3).f1))).trans hx110_2
                  replace hx110_0 := (cell_far (p := ⟨gb109, 2, none⟩) z128_ (.int .i64 ((rd_T134 l0_6 x5_3).f2))).trans hx110_0
                  replace hx110_1 := (cell_far (p := ⟨gb109, 2, none⟩) z128_ (.int .i64 ((rd_T134 l0_6 x5_3).f2))).trans hx110_1
                  replace hx110_2 := (cell_far (p := ⟨gb109, 2, none⟩) z128_ (.int .i64 ((rd_T134 l0_6 x5_3).f2))).trans hx110_2
                  (try have hy110_0 := fun (n_ : Nat) => (show (((((w26.drewN n_).setCell ⟨gb109, 0, none⟩ (.int .i64 ((rd_T134 l0_6 x5_3).f0))).setCell ⟨gb109, 1, none⟩ (.int .i64 ((rd_T134 l0_6 x5_3).f1))).setCell ⟨gb109, 2, none⟩ (.int .i64 ((rd_T134 l0_6 x5_3).f2)))).cell? _ = some _ from hx110_0))
                  (try have hy110_1 := fun (n_ : Nat) => (show (((((w26.drewN n_).setCell ⟨gb109, 0, none⟩ (.int .i64 ((rd_T134 l0_6 x5_3).f0))).setCell ⟨gb109, 1, none⟩ (.int .i64 ((rd_T134 l0_6 x5_3).f1))).setCell ⟨gb109, 2, none⟩ (.int .i64 ((rd_T134 l0_6 x5_3).f2)))).cell? _ = some _ from hx110_1))
                  (try have hy110_2 := fun (n_ : Nat) => (show (((((w26.drewN n_).setCell ⟨gb109, 0, none⟩ (.int .i64 ((rd_T134 l0_6 x5_3).f0))).setCell ⟨gb109, 1, none⟩ (.int .i64 ((rd_T134 l0_6 x5_3).f1))).setCell ⟨gb109, 2, none⟩ (.int .i64 ((rd_T134 l0_6 x5_3).f2)))).cell? _ = some _ from hx110_2))
                  clear hn110_0
                  clear hn110_1
                  clear hn110_2
                  replace p110 := eq_true p110
                  replace q110 := eq_true q110
                  go_wp2
                  repeat (go_quiet (fail); try go_wp2)
                  go_meet
                  case rel => exact ⟨_, (true), z208_, H', ⟨z188_⟩, ⟨z12_⟩, ⟨z6_⟩, ⟨z64_⟩⟩
                rw [if_neg c37] at H
                have c37b0 : decide (((rd_T134 l0_6 x5_3).f0) ≤ ((rd_T134 l0_6 (ji34)).f1)) = false := decide_eq_false c37
                clear c37
                by_cases c41 : ((rd_T134 l0_6 x5_3).f1) < ((rd_T134 l0_6 x5_3).f0)
                rotate_left
                · rw [if_neg c41] at H
                  have c41b0 : decide (((rd_T134 l0_6 x5_3).f1) < ((rd_T134 l0_6 x5_3).f0)) = false := decide_eq_false c41
                  clear c41
                  have H' := Aside0.mk H
                  clear H
                  have hnb45 := NB109_101.out
                  have hnc45 := NB101_109.out
                  have hcz46_0 : w26.cell? ⟨gb109, 0, none⟩ = some (.int .i64 0) := (blk_cell BK109.out 0).trans rfl
                  have hcz46_1 : w26.cell? ⟨gb109, 1, none⟩ = some (.int .i64 0) := (blk_cell BK109.out 1).trans rfl
                  have hcz46_2 : w26.cell? ⟨gb109, 2, none⟩ = some (.int .i64 0) := (blk_cell BK109.out 2).trans rfl
                  have hfz46_0 := blk_frozen BK109.out 0
                  have hfz46_1 := blk_frozen BK109.out 1
                  have hfz46_2 := blk_frozen BK109.out 2
                  have hcz47_0 : w26.cell? ⟨gb101, 0, none⟩ = some (.int .i64 a0_0) := (blk_cell BK101.out 0).trans rfl
                  have hcz47_1 : w26.cell? ⟨gb101, 1, none⟩ = some (.int .i64 a0_1) := (blk_cell BK101.out 1).trans rfl
                  have hcz47_2 : w26.cell? ⟨gb101, 2, none⟩ = some (.int .i64 a0_2) := (blk_cell BK101.out 2).trans rfl
                  have hcz47_3 : w26.cell? ⟨gb101, 3, none⟩ = some (.int .i64 a0_3) := (blk_cell BK101.out 3).trans rfl
                  have hcz47_4 : w26.cell? ⟨gb101, 4, none⟩ = some (.int .i64 a0_4) := (blk_cell BK101.out 4).trans rfl
                  have hcz47_5 : w26.cell? ⟨gb101, 5, none⟩ = some (.int .i64 a0_5) := (blk_cell BK101.out 5).trans rfl
                  have hcz47_6 : w26.cell? ⟨gb101, 6, none⟩ = some (.slice (some ad108) l0_6.length c0_6) := (blk_cell BK101.out 6).trans rfl
                  have hcz47_7 : w26.cell? ⟨gb101, 7, none⟩ = some (.bool a0_7) := (blk_cell BK101.out 7).trans rfl
                  have hfz47_0 := blk_frozen BK101.out 0
                  have hfz47_1 := blk_frozen BK101.out 1
                  have hfz47_2 := blk_frozen BK101.out 2
                  have hfz47_3 := blk_frozen BK101.out 3
                  have hfz47_4 := blk_frozen BK101.out 4
                  have hfz47_5 := blk_frozen BK101.out 5
                  have hfz47_6 := blk_frozen BK101.out 6
                  have hfz47_7 := blk_frozen BK101.out 7
                  have p110 : 0 ≤ ((ji34) : Int) := of_decide_eq_true z204_
                  have q110 : (ji34) < (l0_6.length : Int) := of_decide_eq_true z204_
                  obtain ⟨ad110, e110, hx110_0, hx110_1, hx110_2⟩ := at_T134 HR0_6.out (ji34) p110 q110
                  obtain rfl : ad108 = ad110 := (by injection e110)
                  have hn110_0 : ad108.block ≠ gb109 := Nat.ne_of_lt (Nat.lt_of_lt_of_le z183_ GW109.out)
                  have hn110_1 : ad108.block ≠ gb109 := Nat.ne_of_lt (Nat.lt_of_lt_of_le z183_ GW109.out)
                  have hn110_2 : ad108.block ≠ gb109 := Nat.ne_of_lt (Nat.lt_of_lt_of_le z183_ GW109.out)
                  replace hx110_0 := (HB.out.cell (World.block_lt_of_cell? w _ hx110_0)).trans hx110_0
                  replace hx110_1 := (HB.out.cell (World.block_lt_of_cell? w _ hx110_1)).trans hx110_1
                  replace hx110_2 := (HB.out.cell (World.block_lt_of_cell? w _ hx110_2)).trans hx110_2
                  replace hx110_0 := (cell_far (p := ⟨gb109, 0, none⟩) z126_ (.int .i64 ((rd_T134 l0_6 x5_3).f0))).trans hx110_0
                  replace hx110_1 := (cell_far (p := ⟨gb109, 0, none⟩) z126_ (.int .i64 ((rd_T134 l0_6 x5_3).f0))).trans hx110_1
                  replace hx110_2 := (cell_far (p := ⟨gb109, 0, none⟩) z126_ (.int .i64 ((rd_T134 l0_6 x5_3).f0))).trans hx110_2
                  replace hx110_0 := (cell_far (p := ⟨gb109, 1, none⟩) z127_ (.int .i64 ((rd_T134 l0_6 x5_3).f1))).trans hx110_0
                  replace hx110_1 := (cell_far (p := ⟨gb109, 1, none⟩) z127_ (.int .i64 ((rd_T134 l0_6 x5_3).f1))).trans hx110_1
                  replace hx110_2 := (cell_far (p := ⟨gb109, 1, none⟩) z127_ (.int .i64 ((rd_T134 l0_6 x5_3).f1))).trans hx110_2
                  replace hx110_0 := (cell_far (p := ⟨gb109, 2, none⟩) z128_ (.int .i64 ((rd_T134 l0_6 x5_3).f2))).trans hx110_0
                  replace hx110_1 := (cell_far (p := ⟨gb109, 2, none⟩) z128_ (.int .i64 ((rd_T134 l0_6 x5_3).f2))).trans hx110_1
                  replace hx110_2 := (cell_far (p := ⟨gb109, 2, none⟩) z128_ (.int .i64 ((rd_T134 l0_6 x5_3).f2))).trans hx110_2
                  (try have hy110_0 := fun (n_ : Nat) => (show (((((w26.drewN n_).setCell ⟨gb109, 0, none⟩ (.int .i64 ((rd_T134 l0_6 x5_3).f0))).setCell ⟨gb109, 1, none⟩ (.int .i64 ((rd_T134 l0_6 x5_3).f1))).setCell ⟨gb109, 2, none⟩ (.int .i64 ((rd_T134 l0_6 x5_3).f2)))).cell? _ = some _ from hx110_0))
                  (try have hy110_1 := fun (n_ : Nat) => (show (((((w26.drewN n_).setCell ⟨gb109, 0, none⟩ (.int .i64 ((rd_T134 l0_6 x5_3).f0))).setCell ⟨gb109, 1, none⟩ (.int .i64 ((rd_T134 l0_6 x5_3).f1))).setCell ⟨gb109, 2, none⟩ (.int .i64 ((rd_T134 l0_6 x5_3).f2)))).cell? _ = some _ from hx110_1))
                  (try have hy110_2 := fun (n_ : Nat) => (show (((((w26.drewN n_).setCell ⟨gb109, 0, none⟩ (.int .i64 ((rd_T134 l0_6 x5_3).f0))).setCell ⟨gb109, 1, none⟩ (.int .i64 ((rd_T134 l0_6 x5_3).f1))).setCell ⟨gb109, 2, none⟩ (.int .i64 ((rd_T134 l0_6 x5_3).f2)))).cell? _ = some _ from hx110_2))
                  clear hn110_0
                  clear hn110_1
                  clear hn110_2
                  replace p110 := eq_true p110
                  replace q110 := eq_true q110
                  go_wp2
                  repeat (go_quiet (fail); try go_wp2)
                  go_meet
                  case rel => exact ⟨_, (decide (((rd_T134 l0_6 x5_3).f1) > 1114111)), z208_, H', ⟨z188_⟩, ⟨z12_⟩, ⟨z6_⟩, ⟨z64_⟩⟩
                rw [if_pos c41] at H
                have c41b0 : decide (((rd_T134 l0_6 x5_3).f1) < ((rd_T134 l0_6 x5_3).f0)) = true := decide_eq_true c41
                clear c41
                have H' := Aside0.mk H
                clear H
                have hnb42 := NB109_101.out
                have hnc42 := NB101_109.out
                have hcz43_0 : w26.cell? ⟨gb109, 0, none⟩ = some (.int .i64 0) := (blk_cell BK109.out 0).trans rfl
                have hcz43_1 : w26.cell? ⟨gb109, 1, none⟩ = some (.int .i64 0) := (blk_cell BK109.out 1).trans rfl
                have hcz43_2 : w26.cell? ⟨gb109, 2, none⟩ = some (.int .i64 0) := (blk_cell BK109.out 2).trans rfl
                have hfz43_0 := blk_frozen BK109.out 0
                have hfz43_1 := blk_frozen BK109.out 1
                have hfz43_2 := blk_frozen BK109.out 2
                have hcz44_0 : w26.cell? ⟨gb101, 0, none⟩ = some (.int .i64 a0_0) := (blk_cell BK101.out 0).trans rfl
                have hcz44_1 : w26.cell? ⟨gb101, 1, none⟩ = some (.int .i64 a0_1) := (blk_cell BK101.out 1).trans rfl
                have hcz44_2 : w26.cell? ⟨gb101, 2, none⟩ = some (.int .i64 a0_2) := (blk_cell BK101.out 2).trans rfl
                have hcz44_3 : w26.cell? ⟨gb101, 3, none⟩ = some (.int .i64 a0_3) := (blk_cell BK101.out 3).trans rfl
                have hcz44_4 : w26.cell? ⟨gb101, 4, none⟩ = some (.int .i64 a0_4) := (blk_cell BK101.out 4).trans rfl
                have hcz44_5 : w26.cell? ⟨gb101, 5, none⟩ = some (.int .i64 a0_5) := (blk_cell BK101.out 5).trans rfl
                have hcz44_6 : w26.cell? ⟨gb101, 6, none⟩ = some (.slice (some ad108) l0_6.length c0_6) := (blk_cell BK101.out 6).trans rfl
                have hcz44_7 : w26.cell? ⟨gb101, 7, none⟩ = some (.bool a0_7) := (blk_cell BK101.out 7).trans rfl
                have hfz44_0 := blk_frozen BK101.out 0
                have hfz44_1 := blk_frozen BK101.out 1
                have hfz44_2 := blk_frozen BK101.out 2
                have hfz44_3 := blk_frozen BK101.out 3
                have hfz44_4 := blk_frozen BK101.out 4
                have hfz44_5 := blk_frozen BK101.out 5
                have hfz44_6 := blk_frozen BK101.out 6
                have hfz44_7 := blk_frozen BK101.out 7
                have p110 : 0 ≤ ((ji34) : Int) := of_decide_eq_true z204_
                have q110 : (ji34) < (l0_6.length : Int) := of_decide_eq_true z204_
                obtain ⟨ad110, e110, hx110_0, hx110_1, hx110_2⟩ := at_T134 HR0_6.out (ji34) p110 q110
                obtain rfl : ad108 = ad110 := (by injection e110)
                have hn110_0 : ad108.block ≠ gb109 := Nat.ne_of_lt (Nat.lt_of_lt_of_le z183_ GW109.out)
                have hn110_1 : ad108.block ≠ gb109 := Nat.ne_of_lt (Nat.lt_of_lt_of_le z183_ GW109.out)
                have hn110_2 : ad108.block ≠ gb109 := Nat.ne_of_lt (Nat.lt_of_lt_of_le z183_ GW109.out)
                replace hx110_0 := (HB.out.cell (World.block_lt_of_cell? w _ hx110_0)).trans hx110_0
                replace hx110_1 := (HB.out.cell (World.block_lt_of_cell? w _ hx110_1)).trans hx110_1
                replace hx110_2 := (HB.out.cell (World.block_lt_of_cell? w _ hx110_2)).trans hx110_2
                replace hx110_0 := (cell_far (p := ⟨gb109, 0, none⟩) z126_ (.int .i64 ((rd_T134 l0_6 x5_3).f0))).trans hx110_0
                replace hx110_1 := (cell_far (p := ⟨gb109, 0, none⟩) z126_ (.int .i64 ((rd_T134 l0_6 x5_3).f0))).trans hx110_1
                replace hx110_2 := (cell_far (p := ⟨gb109, 0, none⟩) z126_ (.int .i64 ((rd_T134 l0_6 x5_3).f0))).trans hx110_2
                replace hx110_0 := (cell_far (p := ⟨gb109, 1, none⟩) z127_ (.int .i64 ((rd_T134 l0_6 x5_3).f1))).trans hx110_0
                replace hx110_1 := (cell_far (p := ⟨gb109, 1, none⟩) z127_ (.int .i64 ((rd_T134 l0_6 x5_3).f1))).trans hx110_1
                replace hx110_2 := (cell_far (p := ⟨gb109, 1, none⟩) z127_ (.int .i64 ((rd_T134 l0_6 x5_3).f1))).trans hx110_2
                replace hx110_0 := (cell_far (p := ⟨gb109, 2, none⟩) z128_ (.int .i64 ((rd_T134 l0_6 x5_3).f2))).trans hx110_0
                replace hx110_1 := (cell_far (p := ⟨gb109, 2, none⟩) z128_ (.int .i64 ((rd_T134 l0_6 x5_3).f2))).trans hx110_1
                replace hx110_2 := (cell_far (p := ⟨gb109, 2, none⟩) z128_ (.int .i64 ((rd_T134 l0_6 x5_3).f2))).trans hx110_2
                (try have hy110_0 := fun (n_ : Nat) => (show (((((w26.drewN n_).setCell ⟨gb109, 0, none⟩ (.int .i64 ((rd_T134 l0_6 x5_3).f0))).setCell ⟨gb109, 1, none⟩ (.int .i64 ((rd_T134 l0_6 x5_3).f1))).setCell ⟨gb109, 2, none⟩ (.int .i64 ((rd_T134 l0_6 x5_3).f2)))).cell? _ = some _ from hx110_0))
                (try have hy110_1 := fun (n_ : Nat) => (show (((((w26.drewN n_).setCell ⟨gb109, 0, none⟩ (.int .i64 ((rd_T134 l0_6 x5_3).f0))).setCell ⟨gb109, 1, none⟩ (.int .i64 ((rd_T134 l0_6 x5_3).f1))).setCell ⟨gb109, 2, none⟩ (.int .i64 ((rd_T134 l0_6 x5_3).f2)))).cell? _ = some _ from hx110_1))
                (try have hy110_2 := fun (n_ : Nat) => (show (((((w26.drewN n_).setCell ⟨gb109, 0, none⟩ (.int .i64 ((rd_T134 l0_6 x5_3).f0))).setCell ⟨gb109, 1, none⟩ (.int .i64 ((rd_T134 l0_6 x5_3).f1))).setCell ⟨gb109, 2, none⟩ (.int .i64 ((rd_T134 l0_6 x5_3).f2)))).cell? _ = some _ from hx110_2))
                clear hn110_0
                clear hn110_1
                clear hn110_2
                replace p110 := eq_true p110
                replace q110 := eq_true q110
                go_wp2
                repeat (go_quiet (fail); try go_wp2)
                go_meet
                case rel => exact ⟨_, (true), z208_, H', ⟨z188_⟩, ⟨z12_⟩, ⟨z6_⟩, ⟨z64_⟩⟩
              case rest =>
                clear HC24
                try clear p1
                try clear q1
                try clear hx1
                try clear c2
                try clear p2
                try clear c3
                try clear c4
                try clear c5
                try clear c6
                try clear p6
                try clear c7
                try clear p10
                try clear q10
                try clear hx10
                try clear p11
                try clear q11
                try clear hx11
                try clear c22
                try clear c22b0
                try clear c23
                try clear c23b0
                try clear c27
                try clear c29
                try clear c29b0
                try clear c29b1
                try clear c30
                try clear c30b0
                try clear c31
                try clear c33
                try clear c33b0
                try clear c35
                try clear c35b0
                try clear c36
                try clear c36b0
                try clear c37
                try clear c37b0
                try clear c38
                try clear c41
                try clear c41b0
                try clear c42
                try clear c45
                try clear c48
                try clear c48b0
                try clear c49
                try clear c51
                try clear c53
                try clear c53b0
                try clear c55
                try clear c55b0
                try clear c56
                try clear c56b0
                try clear c57
                try clear c57b0
                try clear c58
                try clear c61
                try clear c61b0
                try clear c62
                try clear p64
                try clear c65
                try clear c68
                try clear c68b0
                try clear c69
                try clear c71
                try clear hcz25_0
                try clear hcz25_1
                try clear hcz25_2
                try clear hcz25_3
                try clear hcz25_4
                try clear hcz25_5
                try clear hcz25_6
                try clear hcz25_7
                try clear hcz28_0
                try clear hcz28_1
                try clear hcz28_2
                try clear hcz32_0
                try clear hcz32_1
                try clear hcz32_2
                try clear hcz39_0
                try clear hcz39_1
                try clear hcz39_2
                try clear hcz40_0
                try clear hcz40_1
                try clear hcz40_2
                try clear hcz40_3
                try clear hcz40_4
                try clear hcz40_5
                try clear hcz40_6
                try clear hcz40_7
                try clear hcz43_0
                try clear hcz43_1
                try clear hcz43_2
                try clear hcz44_0
                try clear hcz44_1
                try clear hcz44_2
                try clear hcz44_3
                try clear hcz44_4
                try clear hcz44_5
                try clear hcz44_6
                try clear hcz44_7
                try clear hcz46_0
                try clear hcz46_1
                try clear hcz46_2
                try clear hcz47_0
                try clear hcz47_1
                try clear hcz47_2
                try clear hcz47_3
                try clear hcz47_4
                try clear hcz47_5
                try clear hcz47_6
                try clear hcz47_7
                try clear hcz50_0
                try clear hcz50_1
                try clear hcz50_2
                try clear hcz52_0
                try clear hcz52_1
                try clear hcz52_2
                try clear hcz59_0
                try clear hcz59_1
                try clear hcz59_2
                try clear hcz60_0
                try clear hcz60_1
                try clear hcz60_2
                try clear hcz60_3
                try clear hcz60_4
                try clear hcz60_5
                try clear hcz60_6
                try clear hcz60_7
                try clear hcz63_0
                try clear hcz63_1
                try clear hcz63_2
                try clear hcz64_0
                try clear hcz64_1
                try clear hcz64_2
                try clear hcz64_3
                try clear hcz64_4
                try clear hcz64_5
                try clear hcz64_6
                try clear hcz64_7
                try clear hcz66_0
                try clear hcz66_1
                try clear hcz66_2
                try clear hcz67_0
                try clear hcz67_1
                try clear hcz67_2
                try clear hcz67_3
                try clear hcz67_4
                try clear hcz67_5
                try clear hcz67_6
                try clear hcz67_7
                try clear hcz70_0
                try clear hcz70_1
                try clear hcz70_2
                try clear hcz72_0
                try clear hcz72_1
                try clear hcz72_2
                try clear hfz17_7
                try clear hfz20_0
                try clear hfz20_1
                try clear hfz20_2
                try clear hfz20_3
                try clear hfz20_4
                try clear hfz20_5
                try clear hfz20_6
                try clear hfz20_7
                try clear hfz21_0
                try clear hfz21_1
                try clear hfz21_2
                try clear hfz21_3
                try clear hfz21_4
                try clear hfz21_5
                try clear hfz21_6
                try clear hfz21_7
                try clear hfz25_0
                try clear hfz25_1
                try clear hfz25_2
                try clear hfz25_3
                try clear hfz25_4
                try clear hfz25_5
                try clear hfz25_6
                try clear hfz25_7
                try clear hfz28_0
                try clear hfz28_1
                try clear hfz28_2
                try clear hfz32_0
                try clear hfz32_1
                try clear hfz32_2
                try clear hfz39_0
                try clear hfz39_1
                try clear hfz39_2
                try clear hfz3_0
                try clear hfz3_1
                try clear hfz3_2
                try clear hfz3_3
                try clear hfz3_4
                try clear hfz3_5
                try clear hfz3_6
                try clear hfz3_7
                try clear hfz40_0
                try clear hfz40_1
                try clear hfz40_2
                try clear hfz40_3
                try clear hfz40_4
                try clear hfz40_5
                try clear hfz40_6
                try clear hfz40_7
                try clear hfz43_0
                try clear hfz43_1
                try clear hfz43_2
                try clear hfz44_0
                try clear hfz44_1
                try clear hfz44_2
                try clear hfz44_3
                try clear hfz44_4
                try clear hfz44_5
                try clear hfz44_6
                try clear hfz44_7
                try clear hfz46_0
                try clear hfz46_1
                try clear hfz46_2
                try clear hfz47_0
                try clear hfz47_1
                try clear hfz47_2
                try clear hfz47_3
                try clear hfz47_4
                try clear hfz47_5
                try clear hfz47_6
                try clear hfz47_7
                try clear hfz50_0
                try clear hfz50_1
                try clear hfz50_2
                try clear hfz52_0
                try clear hfz52_1
                try clear hfz52_2
                try clear hfz59_0
                try clear hfz59_1
                try clear hfz59_2
                try clear hfz60_0
                try clear hfz60_1
                try clear hfz60_2
                try clear hfz60_3
                try clear hfz60_4
                try clear hfz60_5
                try clear hfz60_6
                try clear hfz60_7
                try clear hfz63_0
                try clear hfz63_1
                try clear hfz63_2
                try clear hfz64_0
                try clear hfz64_1
                try clear hfz64_2
                try clear hfz64_3
                try clear hfz64_4
                try clear hfz64_5
                try clear hfz64_6
                try clear hfz64_7
                try clear hfz66_0
                try clear hfz66_1
                try clear hfz66_2
                try clear hfz67_0
                try clear hfz67_1
                try clear hfz67_2
                try clear hfz67_3
                try clear hfz67_4
                try clear hfz67_5
                try clear hfz67_6
                try clear hfz67_7
                try clear hfz70_0
                try clear hfz70_1
                try clear hfz70_2
                try clear hfz72_0
                try clear hfz72_1
                try clear hfz72_2
                try clear hx105_0
                try clear hx108_0
                try clear hx108_1
                try clear hx108_2
                try clear hx110_0
                try clear hx110_1
                try clear hx110_2
                try clear hx111_0
                try clear hx111_1
                try clear hx111_2
                try clear p1
                try clear p10
                try clear p105
                try clear p108
                try clear p110
                try clear p111
                try clear p2
                try clear p6
                try clear q1
                try clear q10
                try clear q105
                try clear q108
                try clear q110
                try clear q111
                obtain ⟨kq, x91_23, rfl, HA, HJ23, BK101, BK109, HB⟩ := hcut
                cases kq with
                | zero => exact absurd HA.out (by simp [regletref04_Style.j3])
                | succ kj23 =>
                  have H := HA.out
                  clear HA
                  simp only [regletref04_Style.j3] at H
                  by_cases c73 : x91_23 = true
                  · subst c73
                    have H1 : (some 42) = some r := by rw [if_pos rfl] at H; exact H
                    clear H
                    have H := H1
                    clear H1
                    obtain rfl := Option.some.inj H
                    go_wp2
                    repeat (go_quiet (fail); try go_wp2)
                    go_ret
                    exact ⟨z178_, z64_⟩
                  replace c73 := Bool.eq_false_iff.mpr c73
                  subst c73
                  have H1 : ((regletref04_fits.f ((rd_T134 l0_6 x5_3).f2) 0).bind fun t112 => (if t112 = true then (regletref04_Style.l1 kj23 (wrap64 (x5_3 + 1)) a0_0 a0_1 a0_2 a0_3 a0_4 a0_5 l0_6 a0_7) else (some 41))) = some r := by rw [if_neg (show ¬ (false = true) by decide)] at H; exact H
                  clear H
                  have H := H1
                  clear H1
                  replace H := Option.bind_eq_some_iff.mp H
                  obtain ⟨t112, A740, H⟩ := H
                  replace H : (if t112 = true then (regletref04_Style.l1 kj23 (wrap64 (x5_3 + 1)) a0_0 a0_1 a0_2 a0_3 a0_4 a0_5 l0_6 a0_7) else (some 41)) = some r := H
                  have A74 := Aside0.mk A740
                  clear A740
                  by_cases c75 : t112 = true
                  rotate_left
                  · replace c75 := Bool.eq_false_iff.mpr c75
                    subst c75
                    have H1 : (some 41) = some r := by rw [if_neg (show ¬ (false = true) by decide)] at H; exact H
                    clear H
                    have H := H1
                    clear H1
                    obtain rfl := Option.some.inj H
                    have hnb78 := NB109_101.out
                    have hnc78 := NB101_109.out
                    have hcz79_0 : wc.cell? ⟨gb109, 0, none⟩ = some (.int .i64 ((rd_T134 l0_6 x5_3).f0)) := (blk_cell BK109.out 0).trans rfl
                    have hcz79_1 : wc.cell? ⟨gb109, 1, none⟩ = some (.int .i64 ((rd_T134 l0_6 x5_3).f1)) := (blk_cell BK109.out 1).trans rfl
                    have hcz79_2 : wc.cell? ⟨gb109, 2, none⟩ = some (.int .i64 ((rd_T134 l0_6 x5_3).f2)) := (blk_cell BK109.out 2).trans rfl
                    have hfz79_0 := blk_frozen BK109.out 0
                    have hfz79_1 := blk_frozen BK109.out 1
                    have hfz79_2 := blk_frozen BK109.out 2
                    go_wp2_with (first | (go_at_call 87; (with_reducible refine (regletref04_fits.calls ((rd_T134 l0_6 x5_3).f2) 0 false _ A74.out).mono ?_); rintro e w' ⟨rfl, ⟨nd, rfl⟩⟩; (try first | exact ⟨rfl, _, World.drewN_drewN _ _ _⟩ | exact ⟨rfl, _, Eq.trans (World.drewN_drewN _ _ _) (congrArg (World.drewN _) (Nat.add_assoc _ _ _))⟩)))
                    repeat (go_quiet (first | (go_at_call 87; (with_reducible refine (regletref04_fits.calls ((rd_T134 l0_6 x5_3).f2) 0 false _ A74.out).mono ?_); rintro e w' ⟨rfl, ⟨nd, rfl⟩⟩; (try first | exact ⟨rfl, _, World.drewN_drewN _ _ _⟩ | exact ⟨rfl, _, Eq.trans (World.drewN_drewN _ _ _) (congrArg (World.drewN _) (Nat.add_assoc _ _ _))⟩))); try go_wp2_with (first | (go_at_call 87; (with_reducible refine (regletref04_fits.calls ((rd_T134 l0_6 x5_3).f2) 0 false _ A74.out).mono ?_); rintro e w' ⟨rfl, ⟨nd, rfl⟩⟩; (try first | exact ⟨rfl, _, World.drewN_drewN _ _ _⟩ | exact ⟨rfl, _, Eq.trans (World.drewN_drewN _ _ _) (congrArg (World.drewN _) (Nat.add_assoc _ _ _))⟩))))
                    go_ret
                    exact ⟨z178_, z64_⟩
                  subst c75
                  have H1 : (regletref04_Style.l1 kj23 (wrap64 (x5_3 + 1)) a0_0 a0_1 a0_2 a0_3 a0_4 a0_5 l0_6 a0_7) = some r := by rw [if_pos rfl] at H; exact H
                  clear H
                  have H := H1
                  clear H1
                  have H' := Aside0.mk H
                  clear H
                  have hnb76 := NB109_101.out
                  have hnc76 := NB101_109.out
                  have hcz77_0 : wc.cell? ⟨gb109, 0, none⟩ = some (.int .i64 ((rd_T134 l0_6 x5_3).f0)) := (blk_cell BK109.out 0).trans rfl
                  have hcz77_1 : wc.cell? ⟨gb109, 1, none⟩ = some (.int .i64 ((rd_T134 l0_6 x5_3).f1)) := (blk_cell BK109.out 1).trans rfl
                  have hcz77_2 : wc.cell? ⟨gb109, 2, none⟩ = some (.int .i64 ((rd_T134 l0_6 x5_3).f2)) := (blk_cell BK109.out 2).trans rfl
                  have hfz77_0 := blk_frozen BK109.out 0
                  have hfz77_1 := blk_frozen BK109.out 1
                  have hfz77_2 := blk_frozen BK109.out 2
                  go_wp2_with (first | (go_at_call 87; (with_reducible refine (regletref04_fits.calls ((rd_T134 l0_6 x5_3).f2) 0 true _ A74.out).mono ?_); rintro e w' ⟨rfl, ⟨nd, rfl⟩⟩; (try first | exact ⟨rfl, _, World.drewN_drewN _ _ _⟩ | exact ⟨rfl, _, Eq.trans (World.drewN_drewN _ _ _) (congrArg (World.drewN _) (Nat.add_assoc _ _ _))⟩)))
                  repeat (go_quiet (first | (go_at_call 87; (with_reducible refine (regletref04_fits.calls ((rd_T134 l0_6 x5_3).f2) 0 true _ A74.out).mono ?_); rintro e w' ⟨rfl, ⟨nd, rfl⟩⟩; (try first | exact ⟨rfl, _, World.drewN_drewN _ _ _⟩ | exact ⟨rfl, _, Eq.trans (World.drewN_drewN _ _ _) (congrArg (World.drewN _) (Nat.add_assoc _ _ _))⟩))); try go_wp2_with (first | (go_at_call 87; (with_reducible refine (regletref04_fits.calls ((rd_T134 l0_6 x5_3).f2) 0 true _ A74.out).mono ?_); rintro e w' ⟨rfl, ⟨nd, rfl⟩⟩; (try first | exact ⟨rfl, _, World.drewN_drewN _ _ _⟩ | exact ⟨rfl, _, Eq.trans (World.drewN_drewN _ _ _) (congrArg (World.drewN _) (Nat.add_assoc _ _ _))⟩))))
                  go_roundg kj23
                  case measure => have := HK1.out; have := HJ11.out; have := HK3.out; have := HJ23.out; omega
                  case rel => exact ⟨(wrap64 (x5_3 + 1)), z208_, H', ⟨by have := HK1.out; have := HJ11.out; have := HK3.out; have := HJ23.out; omega⟩, ⟨z132_⟩, ⟨z64_⟩⟩
end Go.Proofs.Ytblmcdpfhdamjaa.PPaintWindow
