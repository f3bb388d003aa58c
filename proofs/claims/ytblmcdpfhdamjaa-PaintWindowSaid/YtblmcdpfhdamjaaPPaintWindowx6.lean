-- WRITTEN BY wip/xprint.py of this repo, over the kit's print; functions the print does not take are by hand
import Derived.Test.YtblmcdpfhdamjaaPPaintWindowx0
import Derived.Test.YtblmcdpfhdamjaaPPaintWindowx5
namespace Go.Proofs.Ytblmcdpfhdamjaa.PPaintWindow
open Go.RowKit Go.Proofs.YtblmcdpfhdamjaaW.PrintWords Go.Proofs.YtblmcdpfhdamjaaW.PrintLast Go.Proofs.YtblmcdpfhdamjaaW.PrintMore
attribute [local go_sem] max2_int min2_int max_two min_two max_three min_three max_four min_four   -- for this text's walks alone
set_option linter.unusedVariables false
set_option linter.unusedSimpArgs false
/-! ### metrics_check: function 70 -/
mutual
def metrics_check.j0 : Nat → Bool → Int → Int → Int → Int → Int → Int → List (S134) → Bool → Option (Int)
  | 0, _, _, _, _, _, _, _, _, _ => none
  | k + 1, x46, x116000, x116001, x116002, x116003, x116004, x116005, x116006, x116007 => if x46 = true then (some 41) else (if (x116006.length : Int) > 64 then (some 42) else (metrics_check.l0 k (-1) x116006 (x116006.length : Int) 0))
def metrics_check.l0 : Nat → Int → List (S134) → Int → Int → Option (Int)
  | 0, _, _, _, _ => none
  | k + 1, x3, x52, x53, x54 => if x54 < x53 then (if 0 ≤ x54 then (if x54 < (x52.length : Int) then (if ((rd_T134 x52 x54).f0) ≤ x3 then (metrics_check.j2 k x52 x53 x54 true ((rd_T134 x52 x54).f0) ((rd_T134 x52 x54).f1) ((rd_T134 x52 x54).f2)) else (if ((rd_T134 x52 x54).f1) < ((rd_T134 x52 x54).f0) then (metrics_check.j2 k x52 x53 x54 true ((rd_T134 x52 x54).f0) ((rd_T134 x52 x54).f1) ((rd_T134 x52 x54).f2)) else (metrics_check.j2 k x52 x53 x54 (decide (((rd_T134 x52 x54).f1) > 1114111)) ((rd_T134 x52 x54).f0) ((rd_T134 x52 x54).f1) ((rd_T134 x52 x54).f2)))) else (none)) else (none)) else (some 0)
def metrics_check.j2 : Nat → List (S134) → Int → Int → Bool → Int → Int → Int → Option (Int)
  | 0, _, _, _, _, _, _, _ => none
  | k + 1, x52, x53, x54, x73, x124000, x124001, x124002 => if x73 = true then (some 42) else ((metrics_unit.f x124002 0).bind fun t124 => (if t124 = true then (metrics_check.l0 k x124001 x52 x53 (wrap64 (x54 + 1))) else (some 41)))
end
def metrics_check.f (k : Nat) (a0_0 : Int) (a0_1 : Int) (a0_2 : Int) (a0_3 : Int) (a0_4 : Int) (a0_5 : Int) (l0_6 : List (S134)) (a0_7 : Bool) : Option (Int) := (metrics_unit.f a0_0 1).bind fun t116 => (if t116 = true then ((metrics_unit.f a0_1 0).bind fun t117 => (if t117 = true then ((metrics_unit.f a0_2 0).bind fun t118 => (if t118 = true then ((metrics_unit.f a0_3 0).bind fun t119 => (if t119 = true then ((metrics_unit.f a0_4 0).bind fun t120 => (if t120 = true then ((metrics_unit.f a0_5 0).bind fun t121 => (if t121 = true then (metrics_check.j0 k (decide (a0_3 > a0_1)) a0_0 a0_1 a0_2 a0_3 a0_4 a0_5 l0_6 a0_7) else (metrics_check.j0 k true a0_0 a0_1 a0_2 a0_3 a0_4 a0_5 l0_6 a0_7))) else (metrics_check.j0 k true a0_0 a0_1 a0_2 a0_3 a0_4 a0_5 l0_6 a0_7))) else (metrics_check.j0 k true a0_0 a0_1 a0_2 a0_3 a0_4 a0_5 l0_6 a0_7))) else (metrics_check.j0 k true a0_0 a0_1 a0_2 a0_3 a0_4 a0_5 l0_6 a0_7))) else (metrics_check.j0 k true a0_0 a0_1 a0_2 a0_3 a0_4 a0_5 l0_6 a0_7))) else (metrics_check.j0 k true a0_0 a0_1 a0_2 a0_3 a0_4 a0_5 l0_6 a0_7))
theorem metrics_check.mono_l : ∀ k, (∀ y0 y1 y2 y3 y4 y5 y6 y7 y8, LeO (metrics_check.j0 k y0 y1 y2 y3 y4 y5 y6 y7 y8) (metrics_check.j0 (k + 1) y0 y1 y2 y3 y4 y5 y6 y7 y8)) ∧ (∀ y0 y1 y2 y3, LeO (metrics_check.l0 k y0 y1 y2 y3) (metrics_check.l0 (k + 1) y0 y1 y2 y3)) ∧ (∀ y0 y1 y2 y3 y4 y5 y6, LeO (metrics_check.j2 k y0 y1 y2 y3 y4 y5 y6) (metrics_check.j2 (k + 1) y0 y1 y2 y3 y4 y5 y6))
  | 0 => ⟨fun _ _ _ _ _ _ _ _ _ r h => by simp [metrics_check.j0] at h, fun _ _ _ _ r h => by simp [metrics_check.l0] at h, fun _ _ _ _ _ _ _ r h => by simp [metrics_check.j2] at h⟩
  | k + 1 => by
    obtain ⟨ih0, ih1, ih2⟩ := metrics_check.mono_l k
    refine ⟨?_, ?_, ?_⟩
    · intro y0 y1 y2 y3 y4 y5 y6 y7 y8
      unfold metrics_check.j0
      repeat' first | (with_reducible first | exact ih0 _ _ _ _ _ _ _ _ _ | exact ih1 _ _ _ _ | exact ih2 _ _ _ _ _ _ _ | exact LeO.refl _ | exact LeO.none _ | refine LeO.ite ?_ ?_ | refine LeO.bind ?_ (fun _ => ?_)) | exact ih0 _ _ _ _ _ _ _ _ _ | exact ih1 _ _ _ _ | exact ih2 _ _ _ _ _ _ _ | exact LeO.none _ | refine LeO.ite ?_ ?_ | refine LeO.bind ?_ (fun _ => ?_)
    · intro y0 y1 y2 y3
      unfold metrics_check.l0
      repeat' first | (with_reducible first | exact ih0 _ _ _ _ _ _ _ _ _ | exact ih1 _ _ _ _ | exact ih2 _ _ _ _ _ _ _ | exact LeO.refl _ | exact LeO.none _ | refine LeO.ite ?_ ?_ | refine LeO.bind ?_ (fun _ => ?_)) | exact ih0 _ _ _ _ _ _ _ _ _ | exact ih1 _ _ _ _ | exact ih2 _ _ _ _ _ _ _ | exact LeO.none _ | refine LeO.ite ?_ ?_ | refine LeO.bind ?_ (fun _ => ?_)
    · intro y0 y1 y2 y3 y4 y5 y6
      unfold metrics_check.j2
      repeat' first | (with_reducible first | exact ih0 _ _ _ _ _ _ _ _ _ | exact ih1 _ _ _ _ | exact ih2 _ _ _ _ _ _ _ | exact LeO.refl _ | exact LeO.none _ | refine LeO.ite ?_ ?_ | refine LeO.bind ?_ (fun _ => ?_)) | exact ih0 _ _ _ _ _ _ _ _ _ | exact ih1 _ _ _ _ | exact ih2 _ _ _ _ _ _ _ | exact LeO.none _ | refine LeO.ite ?_ ?_ | refine LeO.bind ?_ (fun _ => ?_)
theorem metrics_check.mono : ∀ a0 a1 a2 a3 a4 a5 a6 a7 k, LeO (metrics_check.f k a0 a1 a2 a3 a4 a5 a6 a7) (metrics_check.f (k + 1) a0 a1 a2 a3 a4 a5 a6 a7) := by
  intro a0 a1 a2 a3 a4 a5 a6 a7 k
  obtain ⟨ih0, ih1, ih2⟩ := metrics_check.mono_l k
  unfold metrics_check.f
  repeat' first | (with_reducible first | exact ih0 _ _ _ _ _ _ _ _ _ | exact ih1 _ _ _ _ | exact ih2 _ _ _ _ _ _ _ | exact LeO.refl _ | exact LeO.none _ | refine LeO.ite ?_ ?_ | refine LeO.bind ?_ (fun _ => ?_)) | exact ih0 _ _ _ _ _ _ _ _ _ | exact ih1 _ _ _ _ | exact ih2 _ _ _ _ _ _ _ | exact LeO.none _ | refine LeO.ite ?_ ?_ | refine LeO.bind ?_ (fun _ => ?_)
set_option maxHeartbeats 8000000 in
set_option maxRecDepth 100000 in
theorem metrics_check.calls (k : Nat) (a0_0 : Int) (a0_1 : Int) (a0_2 : Int) (a0_3 : Int) (a0_4 : Int) (a0_5 : Int) (A0_6 : Option Addr) (c0_6 : Nat) (l0_6 : List (S134)) (a0_7 : Bool) (r : Int) (w : World) (hr0_6 : Kd.C k134 w A0_6 l0_6.length l0_6) (hc0_6 : l0_6.length ≤ c0_6) (h : metrics_check.f k a0_0 a0_1 a0_2 a0_3 a0_4 a0_5 l0_6 a0_7 = some r) :
    Calls Try.prog 70 #[.agg #[.int .i64 a0_0, .int .i64 a0_1, .int .i64 a0_2, .int .i64 a0_3, .int .i64 a0_4, .int .i64 a0_5, .slice A0_6 l0_6.length c0_6, .bool a0_7]] w fun e w' => e = .returned (.int .i64 r) ∧ Below w.heap.size w w' := by
  have hu87 := Try.underlying87
  have hu134 := Try.underlying134
  have HR0_6 := Aside0.mk hr0_6
  have HC0_6 := Aside0.mk hc0_6
  clear hr0_6 hc0_6
  have HB := Aside0.mk (Below.refl w.heap.size w)
  have H : ((metrics_unit.f a0_0 1).bind fun t116 => (if t116 = true then ((metrics_unit.f a0_1 0).bind fun t117 => (if t117 = true then ((metrics_unit.f a0_2 0).bind fun t118 => (if t118 = true then ((metrics_unit.f a0_3 0).bind fun t119 => (if t119 = true then ((metrics_unit.f a0_4 0).bind fun t120 => (if t120 = true then ((metrics_unit.f a0_5 0).bind fun t121 => (if t121 = true then (metrics_check.j0 k (decide (a0_3 > a0_1)) a0_0 a0_1 a0_2 a0_3 a0_4 a0_5 l0_6 a0_7) else (metrics_check.j0 k true a0_0 a0_1 a0_2 a0_3 a0_4 a0_5 l0_6 a0_7))) else (metrics_check.j0 k true a0_0 a0_1 a0_2 a0_3 a0_4 a0_5 l0_6 a0_7))) else (metrics_check.j0 k true a0_0 a0_1 a0_2 a0_3 a0_4 a0_5 l0_6 a0_7))) else (metrics_check.j0 k true a0_0 a0_1 a0_2 a0_3 a0_4 a0_5 l0_6 a0_7))) else (metrics_check.j0 k true a0_0 a0_1 a0_2 a0_3 a0_4 a0_5 l0_6 a0_7))) else (metrics_check.j0 k true a0_0 a0_1 a0_2 a0_3 a0_4 a0_5 l0_6 a0_7))) = some r := h
  clear h
  have HC2 := Aside0.mk H
  clear H
  go_enter Try.func70, Try.ntmps70
  go_upto_region 1 with (first | ((with_reducible refine gate_dst (N := 1) rfl ?_); refine box_event ?hg (N := 1) ?hd (cs := #[.int .i64 a0_0, .int .i64 a0_1, .int .i64 a0_2, .int .i64 a0_3, .int .i64 a0_4, .int .i64 a0_5, .slice A0_6 l0_6.length c0_6, .bool a0_7]) (t := 87) ?hr ?_; (case hd => rfl); (case hg => rfl); (case hr => exact z209_); intro gb115 hg w3 hbox hb; have BK115 := Aside0.mk (hbox); have GW115 := Aside0.mk ((z85_ : w.heap.size ≤ gb115)); have GE115 := Aside0.mk ((z85_ : w.heap.size ≤ gb115)); replace HB := Aside0.mk (below_step z117_ hb); clear hb hbox hg))
  (try simp only [Act.put, List.setIfInBounds_toArray, List.set_cons_zero, List.set_cons_succ])
  go_cut [46] (fun v46 wc => ∃ (kq : Nat) (x46_1 : Bool), v46 = .bool x46_1 ∧ Aside0 (metrics_check.j0 kq x46_1 a0_0 a0_1 a0_2 a0_3 a0_4 a0_5 l0_6 a0_7 = some r) ∧ Aside0 (kq ≤ k) ∧ Aside0 (wc.heap[gb115]? = some (.cells #[.int .i64 a0_0, .int .i64 a0_1, .int .i64 a0_2, .int .i64 a0_3, .int .i64 a0_4, .int .i64 a0_5, (.slice A0_6 l0_6.length c0_6), .bool a0_7] 87 (0, 0))) ∧ Aside0 (Below w.heap.size w wc))
  case first =>
    have H := HC2.out
    clear HC2
    replace H := Option.bind_eq_some_iff.mp H
    obtain ⟨t116, A40, H⟩ := H
    replace H : (if t116 = true then ((metrics_unit.f a0_1 0).bind fun t117 => (if t117 = true then ((metrics_unit.f a0_2 0).bind fun t118 => (if t118 = true then ((metrics_unit.f a0_3 0).bind fun t119 => (if t119 = true then ((metrics_unit.f a0_4 0).bind fun t120 => (if t120 = true then ((metrics_unit.f a0_5 0).bind fun t121 => (if t121 = true then (metrics_check.j0 k (decide (a0_3 > a0_1)) a0_0 a0_1 a0_2 a0_3 a0_4 a0_5 l0_6 a0_7) else (metrics_check.j0 k true a0_0 a0_1 a0_2 a0_3 a0_4 a0_5 l0_6 a0_7))) else (metrics_check.j0 k true a0_0 a0_1 a0_2 a0_3 a0_4 a0_5 l0_6 a0_7))) else (metrics_check.j0 k true a0_0 a0_1 a0_2 a0_3 a0_4 a0_5 l0_6 a0_7))) else (metrics_check.j0 k true a0_0 a0_1 a0_2 a0_3 a0_4 a0_5 l0_6 a0_7))) else (metrics_check.j0 k true a0_0 a0_1 a0_2 a0_3 a0_4 a0_5 l0_6 a0_7))) else (metrics_check.j0 k true a0_0 a0_1 a0_2 a0_3 a0_4 a0_5 l0_6 a0_7)) = some r := H
    have A4 := Aside0.mk A40
    clear A40
    by_cases c5 : t116 = true
    rotate_left
    · replace c5 := Bool.eq_false_iff.mpr c5
      subst c5
      have H1 : (metrics_check.j0 k true a0_0 a0_1 a0_2 a0_3 a0_4 a0_5 l0_6 a0_7) = some r := by rw [if_neg (show ¬ (false = true) by decide)] at H; exact H
      clear H
      have H := H1
      clear H1
      have H' := Aside0.mk H
      clear H
      have hcz22_0 : w3.cell? ⟨gb115, 0, none⟩ = some (.int .i64 a0_0) := (blk_cell BK115.out 0).trans rfl
      have hcz22_1 : w3.cell? ⟨gb115, 1, none⟩ = some (.int .i64 a0_1) := (blk_cell BK115.out 1).trans rfl
      have hcz22_2 : w3.cell? ⟨gb115, 2, none⟩ = some (.int .i64 a0_2) := (blk_cell BK115.out 2).trans rfl
      have hcz22_3 : w3.cell? ⟨gb115, 3, none⟩ = some (.int .i64 a0_3) := (blk_cell BK115.out 3).trans rfl
      have hcz22_4 : w3.cell? ⟨gb115, 4, none⟩ = some (.int .i64 a0_4) := (blk_cell BK115.out 4).trans rfl
      have hcz22_5 : w3.cell? ⟨gb115, 5, none⟩ = some (.int .i64 a0_5) := (blk_cell BK115.out 5).trans rfl
      have hcz22_6 : w3.cell? ⟨gb115, 6, none⟩ = some (.slice A0_6 l0_6.length c0_6) := (blk_cell BK115.out 6).trans rfl
      have hcz22_7 : w3.cell? ⟨gb115, 7, none⟩ = some (.bool a0_7) := (blk_cell BK115.out 7).trans rfl
      have hfz22_0 := blk_frozen BK115.out 0
      have hfz22_1 := blk_frozen BK115.out 1
      have hfz22_2 := blk_frozen BK115.out 2
      have hfz22_3 := blk_frozen BK115.out 3
      have hfz22_4 := blk_frozen BK115.out 4
      have hfz22_5 := blk_frozen BK115.out 5
      have hfz22_6 := blk_frozen BK115.out 6
      have hfz22_7 := blk_frozen BK115.out 7
      go_wp2_with (first | ((with_reducible refine gate_callee (f := 88) rfl ?_); refine goesL_ (some 8) rfl rfl Try.func88 (by kernel_rfl) rfl #[.int .i64 a0_0, .int .i64 1] rfl z113_ ?_; (with_reducible refine (metrics_unit.calls a0_0 1 false _ A4.out).mono ?_); rintro e w' ⟨rfl, ⟨nd, rfl⟩⟩; refine ⟨_, rfl, ?_⟩))
      go_meet
      case rel => exact ⟨_, (true), z208_, H', ⟨z210_⟩, ⟨z133_⟩, ⟨z87_⟩⟩
    subst c5
    have H1 : ((metrics_unit.f a0_1 0).bind fun t117 => (if t117 = true then ((metrics_unit.f a0_2 0).bind fun t118 => (if t118 = true then ((metrics_unit.f a0_3 0).bind fun t119 => (if t119 = true then ((metrics_unit.f a0_4 0).bind fun t120 => (if t120 = true then ((metrics_unit.f a0_5 0).bind fun t121 => (if t121 = true then (metrics_check.j0 k (decide (a0_3 > a0_1)) a0_0 a0_1 a0_2 a0_3 a0_4 a0_5 l0_6 a0_7) else (metrics_check.j0 k true a0_0 a0_1 a0_2 a0_3 a0_4 a0_5 l0_6 a0_7))) else (metrics_check.j0 k true a0_0 a0_1 a0_2 a0_3 a0_4 a0_5 l0_6 a0_7))) else (metrics_check.j0 k true a0_0 a0_1 a0_2 a0_3 a0_4 a0_5 l0_6 a0_7))) else (metrics_check.j0 k true a0_0 a0_1 a0_2 a0_3 a0_4 a0_5 l0_6 a0_7))) else (metrics_check.j0 k true a0_0 a0_1 a0_2 a0_3 a0_4 a0_5 l0_6 a0_7))) = some r := by rw [if_pos rfl] at H; exact H
    clear H
    have H := H1
    clear H1
    replace H := Option.bind_eq_some_iff.mp H
    obtain ⟨t117, A60, H⟩ := H
    replace H : (if t117 = true then ((metrics_unit.f a0_2 0).bind fun t118 => (if t118 = true then ((metrics_unit.f a0_3 0).bind fun t119 => (if t119 = true then ((metrics_unit.f a0_4 0).bind fun t120 => (if t120 = true then ((metrics_unit.f a0_5 0).bind fun t121 => (if t121 = true then (metrics_check.j0 k (decide (a0_3 > a0_1)) a0_0 a0_1 a0_2 a0_3 a0_4 a0_5 l0_6 a0_7) else (metrics_check.j0 k true a0_0 a0_1 a0_2 a0_3 a0_4 a0_5 l0_6 a0_7))) else (metrics_check.j0 k true a0_0 a0_1 a0_2 a0_3 a0_4 a0_5 l0_6 a0_7))) else (metrics_check.j0 k true a0_0 a0_1 a0_2 a0_3 a0_4 a0_5 l0_6 a0_7))) else (metrics_check.j0 k true a0_0 a0_1 a0_2 a0_3 a0_4 a0_5 l0_6 a0_7))) else (metrics_check.j0 k true a0_0 a0_1 a0_2 a0_3 a0_4 a0_5 l0_6 a0_7)) = some r := H
    have A6 := Aside0.mk A60
    clear A60
    by_cases c7 : t117 = true
    rotate_left
    · replace c7 := Bool.eq_false_iff.mpr c7
      subst c7
      have H1 : (metrics_check.j0 k true a0_0 a0_1 a0_2 a0_3 a0_4 a0_5 l0_6 a0_7) = some r := by rw [if_neg (show ¬ (false = true) by decide)] at H; exact H
      clear H
      have H := H1
      clear H1
      have H' := Aside0.mk H
      clear H
      have hcz21_0 : w3.cell? ⟨gb115, 0, none⟩ = some (.int .i64 a0_0) := (blk_cell BK115.out 0).trans rfl
      have hcz21_1 : w3.cell? ⟨gb115, 1, none⟩ = some (.int .i64 a0_1) := (blk_cell BK115.out 1).trans rfl
      have hcz21_2 : w3.cell? ⟨gb115, 2, none⟩ = some (.int .i64 a0_2) := (blk_cell BK115.out 2).trans rfl
      have hcz21_3 : w3.cell? ⟨gb115, 3, none⟩ = some (.int .i64 a0_3) := (blk_cell BK115.out 3).trans rfl
      have hcz21_4 : w3.cell? ⟨gb115, 4, none⟩ = some (.int .i64 a0_4) := (blk_cell BK115.out 4).trans rfl
      have hcz21_5 : w3.cell? ⟨gb115, 5, none⟩ = some (.int .i64 a0_5) := (blk_cell BK115.out 5).trans rfl
      have hcz21_6 : w3.cell? ⟨gb115, 6, none⟩ = some (.slice A0_6 l0_6.length c0_6) := (blk_cell BK115.out 6).trans rfl
      have hcz21_7 : w3.cell? ⟨gb115, 7, none⟩ = some (.bool a0_7) := (blk_cell BK115.out 7).trans rfl
      have hfz21_0 := blk_frozen BK115.out 0
      have hfz21_1 := blk_frozen BK115.out 1
      have hfz21_2 := blk_frozen BK115.out 2
      have hfz21_3 := blk_frozen BK115.out 3
      have hfz21_4 := blk_frozen BK115.out 4
      have hfz21_5 := blk_frozen BK115.out 5
      have hfz21_6 := blk_frozen BK115.out 6
      have hfz21_7 := blk_frozen BK115.out 7
      go_wp2_with (first | ((with_reducible refine gate_callee (f := 88) rfl ?_); refine goesL_ (some 8) rfl rfl Try.func88 (by kernel_rfl) rfl #[.int .i64 a0_0, .int .i64 1] rfl z113_ ?_; (with_reducible refine (metrics_unit.calls a0_0 1 true _ A4.out).mono ?_); rintro e w' ⟨rfl, ⟨nd, rfl⟩⟩; refine ⟨_, rfl, ?_⟩) | (go_at_call 88; (with_reducible refine (metrics_unit.calls a0_1 0 false _ A6.out).mono ?_); rintro e w' ⟨rfl, ⟨nd, rfl⟩⟩))
      go_meet
      case rel => exact ⟨_, (true), z208_, H', ⟨z210_⟩, ⟨z133_⟩, ⟨z87_⟩⟩
    subst c7
    have H1 : ((metrics_unit.f a0_2 0).bind fun t118 => (if t118 = true then ((metrics_unit.f a0_3 0).bind fun t119 => (if t119 = true then ((metrics_unit.f a0_4 0).bind fun t120 => (if t120 = true then ((metrics_unit.f a0_5 0).bind fun t121 => (if t121 = true then (metrics_check.j0 k (decide (a0_3 > a0_1)) a0_0 a0_1 a0_2 a0_3 a0_4 a0_5 l0_6 a0_7) else (metrics_check.j0 k true a0_0 a0_1 a0_2 a0_3 a0_4 a0_5 l0_6 a0_7))) else (metrics_check.j0 k true a0_0 a0_1 a0_2 a0_3 a0_4 a0_5 l0_6 a0_7))) else (metrics_check.j0 k true a0_0 a0_1 a0_2 a0_3 a0_4 a0_5 l0_6 a0_7))) else (metrics_check.j0 k true a0_0 a0_1 a0_2 a0_3 a0_4 a0_5 l0_6 a0_7))) = some r := by rw [if_pos rfl] at H; exact H
    clear H
    have H := H1
    clear H1
    replace H := Option.bind_eq_some_iff.mp H
    obtain ⟨t118, A80, H⟩ := H
    replace H : (if t118 = true then ((metrics_unit.f a0_3 0).bind fun t119 => (if t119 = true then ((metrics_unit.f a0_4 0).bind fun t120 => (if t120 = true then ((metrics_unit.f a0_5 0).bind fun t121 => (if t121 = true then (metrics_check.j0 k (decide (a0_3 > a0_1)) a0_0 a0_1 a0_2 a0_3 a0_4 a0_5 l0_6 a0_7) else (metrics_check.j0 k true a0_0 a0_1 a0_2 a0_3 a0_4 a0_5 l0_6 a0_7))) else (metrics_check.j0 k true a0_0 a0_1 a0_2 a0_3 a0_4 a0_5 l0_6 a0_7))) else (metrics_check.j0 k true a0_0 a0_1 a0_2 a0_3 a0_4 a0_5 l0_6 a0_7))) else (metrics_check.j0 k true a0_0 a0_1 a0_2 a0_3 a0_4 a0_5 l0_6 a0_7)) = some r := H
    have A8 := Aside0.mk A80
    clear A80
    by_cases c9 : t118 = true
    rotate_left
    · replace c9 := Bool.eq_false_iff.mpr c9
      subst c9
      have H1 : (metrics_check.j0 k true a0_0 a0_1 a0_2 a0_3 a0_4 a0_5 l0_6 a0_7) = some r := by rw [if_neg (show ¬ (false = true) by decide)] at H; exact H
      clear H
      have H := H1
      clear H1
      have H' := Aside0.mk H
      clear H
      have hcz20_0 : w3.cell? ⟨gb115, 0, none⟩ = some (.int .i64 a0_0) := (blk_cell BK115.out 0).trans rfl
      have hcz20_1 : w3.cell? ⟨gb115, 1, none⟩ = some (.int .i64 a0_1) := (blk_cell BK115.out 1).trans rfl
      have hcz20_2 : w3.cell? ⟨gb115, 2, none⟩ = some (.int .i64 a0_2) := (blk_cell BK115.out 2).trans rfl
      have hcz20_3 : w3.cell? ⟨gb115, 3, none⟩ = some (.int .i64 a0_3) := (blk_cell BK115.out 3).trans rfl
      have hcz20_4 : w3.cell? ⟨gb115, 4, none⟩ = some (.int .i64 a0_4) := (blk_cell BK115.out 4).trans rfl
      have hcz20_5 : w3.cell? ⟨gb115, 5, none⟩ = some (.int .i64 a0_5) := (blk_cell BK115.out 5).trans rfl
      have hcz20_6 : w3.cell? ⟨gb115, 6, none⟩ = some (.slice A0_6 l0_6.length c0_6) := (blk_cell BK115.out 6).trans rfl
      have hcz20_7 : w3.cell? ⟨gb115, 7, none⟩ = some (.bool a0_7) := (blk_cell BK115.out 7).trans rfl
      have hfz20_0 := blk_frozen BK115.out 0
      have hfz20_1 := blk_frozen BK115.out 1
      have hfz20_2 := blk_frozen BK115.out 2
      have hfz20_3 := blk_frozen BK115.out 3
      have hfz20_4 := blk_frozen BK115.out 4
      have hfz20_5 := blk_frozen BK115.out 5
      have hfz20_6 := blk_frozen BK115.out 6
      have hfz20_7 := blk_frozen BK115.out 7
      go_wp2_with (first | ((with_reducible refine gate_callee (f := 88) rfl ?_); refine goesL_ (some 8) rfl rfl Try.func88 (by kernel_rfl) rfl #[.int .i64 a0_0, .int .i64 1] rfl z113_ ?_; (with_reducible refine (metrics_unit.calls a0_0 1 true _ A4.out).mono ?_); rintro e w' ⟨rfl, ⟨nd, rfl⟩⟩; refine ⟨_, rfl, ?_⟩) | (go_at_call 88; (with_reducible refine (metrics_unit.calls a0_1 0 true _ A6.out).mono ?_); rintro e w' ⟨rfl, ⟨nd, rfl⟩⟩) | (go_at_call 88; (with_reducible refine (metrics_unit.calls a0_2 0 false _ A8.out).mono ?_); rintro e w' ⟨rfl, ⟨nd, rfl⟩⟩))
      go_meet
      case rel => exact ⟨_, (true), z208_, H', ⟨z210_⟩, ⟨z133_⟩, ⟨z87_⟩⟩
    subst c9
    have H1 : ((metrics_unit.f a0_3 0).bind fun t119 => (if t119 = true then ((metrics_unit.f a0_4 0).bind fun t120 => (if t120 = true then ((metrics_unit.f a0_5 0).bind fun t121 => (if t121 = true then (metrics_check.j0 k (decide (a0_3 > a0_1)) a0_0 a0_1 a0_2 a0_3 a0_4 a0_5 l0_6 a0_7) else (metrics_check.j0 k true a0_0 a0_1 a0_2 a0_3 a0_4 a0_5 l0_6 a0_7))) else (metrics_check.j0 k true a0_0 a0_1 a0_2 a0_3 a0_4 a0_5 l0_6 a0_7))) else (metrics_check.j0 k true a0_0 a0_1 a0_2 a0_3 a0_4 a0_5 l0_6 a0_7))) = some r := by rw [if_pos rfl] at H; exact H
    clear H
    have H := H1
    clear H1
    replace H := Option.bind_eq_some_iff.mp H
    obtain ⟨t119, A100, H⟩ := H
    replace H : (if t119 = true then ((metrics_unit.f a0_4 0).bind fun t120 => (if t120 = true then ((metrics_unit.f a0_5 0).bind fun t121 => (if t121 = true then (metrics_check.j0 k (decide (a0_3 > a0_1)) a0_0 a0_1 a0_2 a0_3 a0_4 a0_5 l0_6 a0_7) else (metrics_check.j0 k true a0_0 a0_1 a0_2 a0_3 a0_4 a0_5 l0_6 a0_7))) else (metrics_check.j0 k true a0_0 a0_1 a0_2 a0_3 a0_4 a0_5 l0_6 a0_7))) else (metrics_check.j0 k true a0_0 a0_1 a0_2 a0_3 a0_4 a0_5 l0_6 a0_7)) = some r := H
    have A10 := Aside0.mk A100
    clear A100
    by_cases c11 : t119 = true
    rotate_left
    · replace c11 := Bool.eq_false_iff.mpr c11
      subst c11
      have H1 : (metrics_check.j0 k true a0_0 a0_1 a0_2 a0_3 a0_4 a0_5 l0_6 a0_7) = some r := by rw [if_neg (show ¬ (false = true) by decide)] at H; exact H
      clear H
      have H := H1
      clear H1
      have H' := Aside0.mk H
      clear H
      have hcz19_0 : w3.cell? ⟨gb115, 0, none⟩ = some (.int .i64 a0_0) := (blk_cell BK115.out 0).trans rfl
      have hcz19_1 : w3.cell? ⟨gb115, 1, none⟩ = some (.int .i64 a0_1) := (blk_cell BK115.out 1).trans rfl
      have hcz19_2 : w3.cell? ⟨gb115, 2, none⟩ = some (.int .i64 a0_2) := (blk_cell BK115.out 2).trans rfl
      have hcz19_3 : w3.cell? ⟨gb115, 3, none⟩ = some (.int .i64 a0_3) := (blk_cell BK115.out 3).trans rfl
      have hcz19_4 : w3.cell? ⟨gb115, 4, none⟩ = some (.int .i64 a0_4) := (blk_cell BK115.out 4).trans rfl
      have hcz19_5 : w3.cell? ⟨gb115, 5, none⟩ = some (.int .i64 a0_5) := (blk_cell BK115.out 5).trans rfl
      have hcz19_6 : w3.cell? ⟨gb115, 6, none⟩ = some (.slice A0_6 l0_6.length c0_6) := (blk_cell BK115.out 6).trans rfl
      have hcz19_7 : w3.cell? ⟨gb115, 7, none⟩ = some (.bool a0_7) := (blk_cell BK115.out 7).trans rfl
      have hfz19_0 := blk_frozen BK115.out 0
      have hfz19_1 := blk_frozen BK115.out 1
      have hfz19_2 := blk_frozen BK115.out 2
      have hfz19_3 := blk_frozen BK115.out 3
      have hfz19_4 := blk_frozen BK115.out 4
      have hfz19_5 := blk_frozen BK115.out 5
      have hfz19_6 := blk_frozen BK115.out 6
      have hfz19_7 := blk_frozen BK115.out 7
      go_wp2_with (first | ((with_reducible refine gate_callee (f := 88) rfl ?_); refine goesL_ (some 8) rfl rfl Try.func88 (by kernel_rfl) rfl #[.int .i64 a0_0, .int .i64 1] rfl z113_ ?_; (with_reducible refine (metrics_unit.calls a0_0 1 true _ A4.out).mono ?_); rintro e w' ⟨rfl, ⟨nd, rfl⟩⟩; refine ⟨_, rfl, ?_⟩) | (go_at_call 88; (with_reducible refine (metrics_unit.calls a0_1 0 true _ A6.out).mono ?_); rintro e w' ⟨rfl, ⟨nd, rfl⟩⟩) | (go_at_call 88; (with_reducible refine (metrics_unit.calls a0_2 0 true _ A8.out).mono ?_); rintro e w' ⟨rfl, ⟨nd, rfl⟩⟩) | (go_at_call 88; (with_reducible refine (metrics_unit.calls a0_3 0 false _ A10.out).mono ?_); rintro e w' ⟨rfl, ⟨nd, rfl⟩⟩))
      go_meet
      case rel => exact ⟨_, (true), z208_, H', ⟨z210_⟩, ⟨z133_⟩, ⟨z87_⟩⟩
    subst c11
    have H1 : ((metrics_unit.f a0_4 0).bind fun t120 => (if t120 = true then ((metrics_unit.f a0_5 0).bind fun t121 => (if t121 = true then (metrics_check.j0 k (decide (a0_3 > a0_1)) a0_0 a0_1 a0_2 a0_3 a0_4 a0_5 l0_6 a0_7) else (metrics_check.j0 k true a0_0 a0_1 a0_2 a0_3 a0_4 a0_5 l0_6 a0_7))) else (metrics_check.j0 k true a0_0 a0_1 a0_2 a0_3 a0_4 a0_5 l0_6 a0_7))) = some r := by rw [if_pos rfl] at H; exact H
    clear H
    have H := H1
    clear H1
    replace H := Option.bind_eq_some_iff.mp H
    obtain ⟨t120, A120, H⟩ := H
    replace H : (if t120 = true then ((metrics_unit.f a0_5 0).bind fun t121 => (if t121 = true then (metrics_check.j0 k (decide (a0_3 > a0_1)) a0_0 a0_1 a0_2 a0_3 a0_4 a0_5 l0_6 a0_7) else (metrics_check.j0 k true a0_0 a0_1 a0_2 a0_3 a0_4 a0_5 l0_6 a0_7))) else (metrics_check.j0 k true a0_0 a0_1 a0_2 a0_3 a0_4 a0_5 l0_6 a0_7)) = some r := H
    have A12 := Aside0.mk A120
    clear A120
    by_cases c13 : t120 = true
    rotate_left
    · replace c13 := Bool.eq_false_iff.mpr c13
      subst c13
      have H1 : (metrics_check.j0 k true a0_0 a0_1 a0_2 a0_3 a0_4 a0_5 l0_6 a0_7) = some r := by rw [if_neg (show ¬ (false = true) by decide)] at H; exact H
      clear H
      have H := H1
      clear H1
      have H' := Aside0.mk H
      clear H
      have hcz18_0 : w3.cell? ⟨gb115, 0, none⟩ = some (.int .i64 a0_0) := (blk_cell BK115.out 0).trans rfl
      have hcz18_1 : w3.cell? ⟨gb115, 1, none⟩ = some (.int .i64 a0_1) := (blk_cell BK115.out 1).trans rfl
      have hcz18_2 : w3.cell? ⟨gb115, 2, none⟩ = some (.int .i64 a0_2) := (blk_cell BK115.out 2).trans rfl
      have hcz18_3 : w3.cell? ⟨gb115, 3, none⟩ = some (.int .i64 a0_3) := (blk_cell BK115.out 3).trans rfl
      have hcz18_4 : w3.cell? ⟨gb115, 4, none⟩ = some (.int .i64 a0_4) := (blk_cell BK115.out 4).trans rfl
      have hcz18_5 : w3.cell? ⟨gb115, 5, none⟩ = some (.int .i64 a0_5) := (blk_cell BK115.out 5).trans rfl
      have hcz18_6 : w3.cell? ⟨gb115, 6, none⟩ = some (.slice A0_6 l0_6.length c0_6) := (blk_cell BK115.out 6).trans rfl
      have hcz18_7 : w3.cell? ⟨gb115, 7, none⟩ = some (.bool a0_7) := (blk_cell BK115.out 7).trans rfl
      have hfz18_0 := blk_frozen BK115.out 0
      have hfz18_1 := blk_frozen BK115.out 1
      have hfz18_2 := blk_frozen BK115.out 2
      have hfz18_3 := blk_frozen BK115.out 3
      have hfz18_4 := blk_frozen BK115.out 4
      have hfz18_5 := blk_frozen BK115.out 5
      have hfz18_6 := blk_frozen BK115.out 6
      have hfz18_7 := blk_frozen BK115.out 7
      go_wp2_with (first | ((with_reducible refine gate_callee (f := 88) rfl ?_); refine goesL_ (some 8) rfl rfl Try.func88 (by kernel_rfl) rfl #[.int .i64 a0_0, .int .i64 1] rfl z113_ ?_; (with_reducible refine (metrics_unit.calls a0_0 1 true _ A4.out).mono ?_); rintro e w' ⟨rfl, ⟨nd, rfl⟩⟩; refine ⟨_, rfl, ?_⟩) | (go_at_call 88; (with_reducible refine (metrics_unit.calls a0_1 0 true _ A6.out).mono ?_); rintro e w' ⟨rfl, ⟨nd, rfl⟩⟩) | (go_at_call 88; (with_reducible refine (metrics_unit.calls a0_2 0 true _ A8.out).mono ?_); rintro e w' ⟨rfl, ⟨nd, rfl⟩⟩) | (go_at_call 88; (with_reducible refine (metrics_unit.calls a0_3 0 true _ A10.out).mono ?_); rintro e w' ⟨rfl, ⟨nd, rfl⟩⟩) | (go_at_call 88; (with_reducible refine (metrics_unit.calls a0_4 0 false _ A12.out).mono ?_); rintro e w' ⟨rfl, ⟨nd, rfl⟩⟩))
      go_meet
      case rel => exact ⟨_, (true), z208_, H', ⟨z210_⟩, ⟨z133_⟩, ⟨z87_⟩⟩
    subst c13
    have H1 : ((metrics_unit.f a0_5 0).bind fun t121 => (if t121 = true then (metrics_check.j0 k (decide (a0_3 > a0_1)) a0_0 a0_1 a0_2 a0_3 a0_4 a0_5 l0_6 a0_7) else (metrics_check.j0 k true a0_0 a0_1 a0_2 a0_3 a0_4 a0_5 l0_6 a0_7))) = some r := by rw [if_pos rfl] at H; exact H
    clear H
    have H := H1
    clear H1
    replace H := Option.bind_eq_some_iff.mp H
    obtain ⟨t121, A140, H⟩ := H
    replace H : (if t121 = true then (metrics_check.j0 k (decide (a0_3 > a0_1)) a0_0 a0_1 a0_2 a0_3 a0_4 a0_5 l0_6 a0_7) else (metrics_check.j0 k true a0_0 a0_1 a0_2 a0_3 a0_4 a0_5 l0_6 a0_7)) = some r := H
    have A14 := Aside0.mk A140
    clear A140
    by_cases c15 : t121 = true
    · subst c15
      have H1 : (metrics_check.j0 k (decide (a0_3 > a0_1)) a0_0 a0_1 a0_2 a0_3 a0_4 a0_5 l0_6 a0_7) = some r := by rw [if_pos rfl] at H; exact H
      clear H
      have H := H1
      clear H1
      have H' := Aside0.mk H
      clear H
      have hcz16_0 : w3.cell? ⟨gb115, 0, none⟩ = some (.int .i64 a0_0) := (blk_cell BK115.out 0).trans rfl
      have hcz16_1 : w3.cell? ⟨gb115, 1, none⟩ = some (.int .i64 a0_1) := (blk_cell BK115.out 1).trans rfl
      have hcz16_2 : w3.cell? ⟨gb115, 2, none⟩ = some (.int .i64 a0_2) := (blk_cell BK115.out 2).trans rfl
      have hcz16_3 : w3.cell? ⟨gb115, 3, none⟩ = some (.int .i64 a0_3) := (blk_cell BK115.out 3).trans rfl
      have hcz16_4 : w3.cell? ⟨gb115, 4, none⟩ = some (.int .i64 a0_4) := (blk_cell BK115.out 4).trans rfl
      have hcz16_5 : w3.cell? ⟨gb115, 5, none⟩ = some (.int .i64 a0_5) := (blk_cell BK115.out 5).trans rfl
      have hcz16_6 : w3.cell? ⟨gb115, 6, none⟩ = some (.slice A0_6 l0_6.length c0_6) := (blk_cell BK115.out 6).trans rfl
      have hcz16_7 : w3.cell? ⟨gb115, 7, none⟩ = some (.bool a0_7) := (blk_cell BK115.out 7).trans rfl
      have hfz16_0 := blk_frozen BK115.out 0
      have hfz16_1 := blk_frozen BK115.out 1
      have hfz16_2 := blk_frozen BK115.out 2
      have hfz16_3 := blk_frozen BK115.out 3
      have hfz16_4 := blk_frozen BK115.out 4
      have hfz16_5 := blk_frozen BK115.out 5
      have hfz16_6 := blk_frozen BK115.out 6
      have hfz16_7 := blk_frozen BK115.out 7
      go_wp2_with (first | ((with_reducible refine gate_callee (f := 88) rfl ?_); refine goesL_ (some 8) rfl rfl Try.func88 (by kernel_rfl) rfl #[.int .i64 a0_0, .int .i64 1] rfl z113_ ?_; (with_reducible refine (metrics_unit.calls a0_0 1 true _ A4.out).mono ?_); rintro e w' ⟨rfl, ⟨nd, rfl⟩⟩; refine ⟨_, rfl, ?_⟩) | (go_at_call 88; (with_reducible refine (metrics_unit.calls a0_1 0 true _ A6.out).mono ?_); rintro e w' ⟨rfl, ⟨nd, rfl⟩⟩) | (go_at_call 88; (with_reducible refine (metrics_unit.calls a0_2 0 true _ A8.out).mono ?_); rintro e w' ⟨rfl, ⟨nd, rfl⟩⟩) | (go_at_call 88; (with_reducible refine (metrics_unit.calls a0_3 0 true _ A10.out).mono ?_); rintro e w' ⟨rfl, ⟨nd, rfl⟩⟩) | (go_at_call 88; (with_reducible refine (metrics_unit.calls a0_4 0 true _ A12.out).mono ?_); rintro e w' ⟨rfl, ⟨nd, rfl⟩⟩) | (go_at_call 88; (with_reducible refine (metrics_unit.calls a0_5 0 true _ A14.out).mono ?_); rintro e w' ⟨rfl, ⟨nd, rfl⟩⟩))
      go_meet
      case rel => exact ⟨_, (decide (a0_3 > a0_1)), z208_, H', ⟨z210_⟩, ⟨z133_⟩, ⟨z87_⟩⟩
    replace c15 := Bool.eq_false_iff.mpr c15
    subst c15
    have H1 : (metrics_check.j0 k true a0_0 a0_1 a0_2 a0_3 a0_4 a0_5 l0_6 a0_7) = some r := by rw [if_neg (show ¬ (false = true) by decide)] at H; exact H
    clear H
    have H := H1
    clear H1
    have H' := Aside0.mk H
    clear H
    have hcz17_0 : w3.cell? ⟨gb115, 0, none⟩ = some (.int .i64 a0_0) := (blk_cell BK115.out 0).trans rfl
    have hcz17_1 : w3.cell? ⟨gb115, 1, none⟩ = some (.int .i64 a0_1) := (blk_cell BK115.out 1).trans rfl
    have hcz17_2 : w3.cell? ⟨gb115, 2, none⟩ = some (.int .i64 a0_2) := (blk_cell BK115.out 2).trans rfl
    have hcz17_3 : w3.cell? ⟨gb115, 3, none⟩ = some (.int .i64 a0_3) := (blk_cell BK115.out 3).trans rfl
    have hcz17_4 : w3.cell? ⟨gb115, 4, none⟩ = some (.int .i64 a0_4) := (blk_cell BK115.out 4).trans rfl
    have hcz17_5 : w3.cell? ⟨gb115, 5, none⟩ = some (.int .i64 a0_5) := (blk_cell BK115.out 5).trans rfl
    have hcz17_6 : w3.cell? ⟨gb115, 6, none⟩ = some (.slice A0_6 l0_6.length c0_6) := (blk_cell BK115.out 6).trans rfl
    have hcz17_7 : w3.cell? ⟨gb115, 7, none⟩ = some (.bool a0_7) := (blk_cell BK115.out 7).trans rfl
    have hfz17_0 := blk_frozen BK115.out 0
    have hfz17_1 := blk_frozen BK115.out 1
    have hfz17_2 := blk_frozen BK115.out 2
    have hfz17_3 := blk_frozen BK115.out 3
    have hfz17_4 := blk_frozen BK115.out 4
    have hfz17_5 := blk_frozen BK115.out 5
    have hfz17_6 := blk_frozen BK115.out 6
    have hfz17_7 := blk_frozen BK115.out 7
    go_wp2_with (first | ((with_reducible refine gate_callee (f := 88) rfl ?_); refine goesL_ (some 8) rfl rfl Try.func88 (by kernel_rfl) rfl #[.int .i64 a0_0, .int .i64 1] rfl z113_ ?_; (with_reducible refine (metrics_unit.calls a0_0 1 true _ A4.out).mono ?_); rintro e w' ⟨rfl, ⟨nd, rfl⟩⟩; refine ⟨_, rfl, ?_⟩) | (go_at_call 88; (with_reducible refine (metrics_unit.calls a0_1 0 true _ A6.out).mono ?_); rintro e w' ⟨rfl, ⟨nd, rfl⟩⟩) | (go_at_call 88; (with_reducible refine (metrics_unit.calls a0_2 0 true _ A8.out).mono ?_); rintro e w' ⟨rfl, ⟨nd, rfl⟩⟩) | (go_at_call 88; (with_reducible refine (metrics_unit.calls a0_3 0 true _ A10.out).mono ?_); rintro e w' ⟨rfl, ⟨nd, rfl⟩⟩) | (go_at_call 88; (with_reducible refine (metrics_unit.calls a0_4 0 true _ A12.out).mono ?_); rintro e w' ⟨rfl, ⟨nd, rfl⟩⟩) | (go_at_call 88; (with_reducible refine (metrics_unit.calls a0_5 0 false _ A14.out).mono ?_); rintro e w' ⟨rfl, ⟨nd, rfl⟩⟩))
    go_meet
    case rel => exact ⟨_, (true), z208_, H', ⟨z210_⟩, ⟨z133_⟩, ⟨z87_⟩⟩
  case rest =>
    clear HC2
    try clear c1
    try clear p2
    try clear c5
    try clear c7
    try clear c8
    try clear c9
    try clear c11
    try clear c13
    try clear c15
    try clear hcz16_0
    try clear hcz16_1
    try clear hcz16_2
    try clear hcz16_3
    try clear hcz16_4
    try clear hcz16_5
    try clear hcz16_6
    try clear hcz16_7
    try clear hcz17_0
    try clear hcz17_1
    try clear hcz17_2
    try clear hcz17_3
    try clear hcz17_4
    try clear hcz17_5
    try clear hcz17_6
    try clear hcz17_7
    try clear hcz18_0
    try clear hcz18_1
    try clear hcz18_2
    try clear hcz18_3
    try clear hcz18_4
    try clear hcz18_5
    try clear hcz18_6
    try clear hcz18_7
    try clear hcz19_0
    try clear hcz19_1
    try clear hcz19_2
    try clear hcz19_3
    try clear hcz19_4
    try clear hcz19_5
    try clear hcz19_6
    try clear hcz19_7
    try clear hcz20_0
    try clear hcz20_1
    try clear hcz20_2
    try clear hcz20_3
    try clear hcz20_4
    try clear hcz20_5
    try clear hcz20_6
    try clear hcz20_7
    try clear hcz21_0
    try clear hcz21_1
    try clear hcz21_2
    try clear hcz21_3
    try clear hcz21_4
    try clear hcz21_5
    try clear hcz21_6
    try clear hcz21_7
    try clear hcz22_0
    try clear hcz22_1
    try clear hcz22_2
    try clear hcz22_3
    try clear hcz22_4
    try clear hcz22_5
    try clear hcz22_6
    try clear hcz22_7
    try clear hfz16_0
    try clear hfz16_1
    try clear hfz16_2
    try clear hfz16_3
    try clear hfz16_4
    try clear hfz16_5
    try clear hfz16_6
    try clear hfz16_7
    try clear hfz17_0
    try clear hfz17_1
    try clear hfz17_2
    try clear hfz17_3
    try clear hfz17_4
    try clear hfz17_5
    try clear hfz17_6
    try clear hfz17_7
    try clear hfz18_0
    try clear hfz18_1
    try clear hfz18_2
    try clear hfz18_3
    try clear hfz18_4
    try clear hfz18_5
    try clear hfz18_6
    try clear hfz18_7
    try clear hfz19_0
    try clear hfz19_1
    try clear hfz19_2
    try clear hfz19_3
    try clear hfz19_4
    try clear hfz19_5
    try clear hfz19_6
    try clear hfz19_7
    try clear hfz20_0
    try clear hfz20_1
    try clear hfz20_2
    try clear hfz20_3
    try clear hfz20_4
    try clear hfz20_5
    try clear hfz20_6
    try clear hfz20_7
    try clear hfz21_0
    try clear hfz21_1
    try clear hfz21_2
    try clear hfz21_3
    try clear hfz21_4
    try clear hfz21_5
    try clear hfz21_6
    try clear hfz21_7
    try clear hfz22_0
    try clear hfz22_1
    try clear hfz22_2
    try clear hfz22_3
    try clear hfz22_4
    try clear hfz22_5
    try clear hfz22_6
    try clear hfz22_7
    obtain ⟨kq, x46_1, rfl, HA, HJ1, BK115, HB⟩ := hcut
    cases kq with
    | zero => exact absurd HA.out (by simp [metrics_check.j0])
    | succ kj1 =>
      have H := HA.out
      clear HA
      simp only [metrics_check.j0] at H
      by_cases c23 : x46_1 = true
      · subst c23
        have H1 : (some 41) = some r := by rw [if_pos rfl] at H; exact H
        clear H
        have H := H1
        clear H1
        obtain rfl := Option.some.inj H
        go_wp2
        go_ret
        exact ⟨z178_, z87_⟩
      replace c23 := Bool.eq_false_iff.mpr c23
      subst c23
      have H1 : (if (l0_6.length : Int) > 64 then (some 42) else (metrics_check.l0 kj1 (-1) l0_6 (l0_6.length : Int) 0)) = some r := by rw [if_neg (show ¬ (false = true) by decide)] at H; exact H
      clear H
      have H := H1
      clear H1
      by_cases c24 : (l0_6.length : Int) > 64
      · rw [if_pos c24] at H
        have c24b0 : decide (64 < (l0_6.length : Int)) = true := decide_eq_true c24
        have c24b1 : decide (64 < l0_6.length) = true := decide_eq_true (by omega)
        clear c24
        obtain rfl := Option.some.inj H
        have hcz25_0 : wc.cell? ⟨gb115, 0, none⟩ = some (.int .i64 a0_0) := (blk_cell BK115.out 0).trans rfl
        have hcz25_1 : wc.cell? ⟨gb115, 1, none⟩ = some (.int .i64 a0_1) := (blk_cell BK115.out 1).trans rfl
        have hcz25_2 : wc.cell? ⟨gb115, 2, none⟩ = some (.int .i64 a0_2) := (blk_cell BK115.out 2).trans rfl
        have hcz25_3 : wc.cell? ⟨gb115, 3, none⟩ = some (.int .i64 a0_3) := (blk_cell BK115.out 3).trans rfl
        have hcz25_4 : wc.cell? ⟨gb115, 4, none⟩ = some (.int .i64 a0_4) := (blk_cell BK115.out 4).trans rfl
        have hcz25_5 : wc.cell? ⟨gb115, 5, none⟩ = some (.int .i64 a0_5) := (blk_cell BK115.out 5).trans rfl
        have hcz25_6 : wc.cell? ⟨gb115, 6, none⟩ = some (.slice A0_6 l0_6.length c0_6) := (blk_cell BK115.out 6).trans rfl
        have hcz25_7 : wc.cell? ⟨gb115, 7, none⟩ = some (.bool a0_7) := (blk_cell BK115.out 7).trans rfl
        have hfz25_0 := blk_frozen BK115.out 0
        have hfz25_1 := blk_frozen BK115.out 1
        have hfz25_2 := blk_frozen BK115.out 2
        have hfz25_3 := blk_frozen BK115.out 3
        have hfz25_4 := blk_frozen BK115.out 4
        have hfz25_5 := blk_frozen BK115.out 5
        have hfz25_6 := blk_frozen BK115.out 6
        have hfz25_7 := blk_frozen BK115.out 7
        go_wp2
        go_ret
        exact ⟨z178_, z87_⟩
      rw [if_neg c24] at H
      have c24b0 : decide (64 < (l0_6.length : Int)) = false := decide_eq_false c24
      have c24b1 : decide (64 < l0_6.length) = false := decide_eq_false (by omega)
      clear c24
      have H' := Aside0.mk H
      clear H
      have hcz26_0 : wc.cell? ⟨gb115, 0, none⟩ = some (.int .i64 a0_0) := (blk_cell BK115.out 0).trans rfl
      have hcz26_1 : wc.cell? ⟨gb115, 1, none⟩ = some (.int .i64 a0_1) := (blk_cell BK115.out 1).trans rfl
      have hcz26_2 : wc.cell? ⟨gb115, 2, none⟩ = some (.int .i64 a0_2) := (blk_cell BK115.out 2).trans rfl
      have hcz26_3 : wc.cell? ⟨gb115, 3, none⟩ = some (.int .i64 a0_3) := (blk_cell BK115.out 3).trans rfl
      have hcz26_4 : wc.cell? ⟨gb115, 4, none⟩ = some (.int .i64 a0_4) := (blk_cell BK115.out 4).trans rfl
      have hcz26_5 : wc.cell? ⟨gb115, 5, none⟩ = some (.int .i64 a0_5) := (blk_cell BK115.out 5).trans rfl
      have hcz26_6 : wc.cell? ⟨gb115, 6, none⟩ = some (.slice A0_6 l0_6.length c0_6) := (blk_cell BK115.out 6).trans rfl
      have hcz26_7 : wc.cell? ⟨gb115, 7, none⟩ = some (.bool a0_7) := (blk_cell BK115.out 7).trans rfl
      have hfz26_0 := blk_frozen BK115.out 0
      have hfz26_1 := blk_frozen BK115.out 1
      have hfz26_2 := blk_frozen BK115.out 2
      have hfz26_3 := blk_frozen BK115.out 3
      have hfz26_4 := blk_frozen BK115.out 4
      have hfz26_5 := blk_frozen BK115.out 5
      have hfz26_6 := blk_frozen BK115.out 6
      have hfz26_7 := blk_frozen BK115.out 7
      go_wp2
      go_loopg [3, 54] kj1 (fun kq v3 v54 w' => ∃ (x3_2 : Int) (x54_2 : Int), v3 = .int .i64 x3_2 ∧ v54 = .int .i64 x54_2 ∧ Aside0 (metrics_check.l0 kq x3_2 l0_6 (l0_6.length : Int) x54_2 = some r) ∧ Aside0 (kq ≤ kj1) ∧ Aside0 (w'.heap[gb115]? = some (.cells #[.int .i64 a0_0, .int .i64 a0_1, .int .i64 a0_2, .int .i64 a0_3, .int .i64 a0_4, .int .i64 a0_5, (.slice A0_6 l0_6.length c0_6), .bool a0_7] 87 (0, 0))) ∧ Aside0 (Below w.heap.size w w'))
      case atStart => exact ⟨((-1)), (0), z208_, z208_, H', ⟨Nat.le_refl _⟩, ⟨z133_⟩, ⟨z87_⟩⟩
      case round =>
        clear H'
        try clear c1
        try clear c2
        try clear p2
        try clear c5
        try clear c7
        try clear c8
        try clear c9
        try clear c11
        try clear c13
        try clear c15
        try clear c23
        try clear c24
        try clear c24b0
        try clear c24b1
        try clear hcz16_0
        try clear hcz16_1
        try clear hcz16_2
        try clear hcz16_3
        try clear hcz16_4
        try clear hcz16_5
        try clear hcz16_6
        try clear hcz16_7
        try clear hcz17_0
        try clear hcz17_1
        try clear hcz17_2
        try clear hcz17_3
        try clear hcz17_4
        try clear hcz17_5
        try clear hcz17_6
        try clear hcz17_7
        try clear hcz18_0
        try clear hcz18_1
        try clear hcz18_2
        try clear hcz18_3
        try clear hcz18_4
        try clear hcz18_5
        try clear hcz18_6
        try clear hcz18_7
        try clear hcz19_0
        try clear hcz19_1
        try clear hcz19_2
        try clear hcz19_3
        try clear hcz19_4
        try clear hcz19_5
        try clear hcz19_6
        try clear hcz19_7
        try clear hcz20_0
        try clear hcz20_1
        try clear hcz20_2
        try clear hcz20_3
        try clear hcz20_4
        try clear hcz20_5
        try clear hcz20_6
        try clear hcz20_7
        try clear hcz21_0
        try clear hcz21_1
        try clear hcz21_2
        try clear hcz21_3
        try clear hcz21_4
        try clear hcz21_5
        try clear hcz21_6
        try clear hcz21_7
        try clear hcz22_0
        try clear hcz22_1
        try clear hcz22_2
        try clear hcz22_3
        try clear hcz22_4
        try clear hcz22_5
        try clear hcz22_6
        try clear hcz22_7
        try clear hcz25_0
        try clear hcz25_1
        try clear hcz25_2
        try clear hcz25_3
        try clear hcz25_4
        try clear hcz25_5
        try clear hcz25_6
        try clear hcz25_7
        try clear hcz26_0
        try clear hcz26_1
        try clear hcz26_2
        try clear hcz26_3
        try clear hcz26_4
        try clear hcz26_5
        try clear hcz26_6
        try clear hcz26_7
        try clear hfz16_0
        try clear hfz16_1
        try clear hfz16_2
        try clear hfz16_3
        try clear hfz16_4
        try clear hfz16_5
        try clear hfz16_6
        try clear hfz16_7
        try clear hfz17_0
        try clear hfz17_1
        try clear hfz17_2
        try clear hfz17_3
        try clear hfz17_4
        try clear hfz17_5
        try clear hfz17_6
        try clear hfz17_7
        try clear hfz18_0
        try clear hfz18_1
        try clear hfz18_2
        try clear hfz18_3
        try clear hfz18_4
        try clear hfz18_5
        try clear hfz18_6
        try clear hfz18_7
        try clear hfz19_0
        try clear hfz19_1
        try clear hfz19_2
        try clear hfz19_3
        try clear hfz19_4
        try clear hfz19_5
        try clear hfz19_6
        try clear hfz19_7
        try clear hfz20_0
        try clear hfz20_1
        try clear hfz20_2
        try clear hfz20_3
        try clear hfz20_4
        try clear hfz20_5
        try clear hfz20_6
        try clear hfz20_7
        try clear hfz21_0
        try clear hfz21_1
        try clear hfz21_2
        try clear hfz21_3
        try clear hfz21_4
        try clear hfz21_5
        try clear hfz21_6
        try clear hfz21_7
        try clear hfz22_0
        try clear hfz22_1
        try clear hfz22_2
        try clear hfz22_3
        try clear hfz22_4
        try clear hfz22_5
        try clear hfz22_6
        try clear hfz22_7
        try clear hfz25_0
        try clear hfz25_1
        try clear hfz25_2
        try clear hfz25_3
        try clear hfz25_4
        try clear hfz25_5
        try clear hfz25_6
        try clear hfz25_7
        try clear hfz26_0
        try clear hfz26_1
        try clear hfz26_2
        try clear hfz26_3
        try clear hfz26_4
        try clear hfz26_5
        try clear hfz26_6
        try clear hfz26_7
        try clear p2
        obtain ⟨x3_2, x54_2, rfl, rfl, HA, HK2, BK115, HB⟩ := hrel
        cases gk with
        | zero => exact absurd HA.out (by simp [metrics_check.l0])
        | succ k2 =>
          have H := HA.out
          clear HA
          simp only [metrics_check.l0] at H
          by_cases c27 : x54_2 < (l0_6.length : Int)
          rotate_left
          · rw [if_neg c27] at H
            have c27b0 : decide (x54_2 < (l0_6.length : Int)) = false := decide_eq_false c27
            clear c27
            obtain rfl := Option.some.inj H
            go_wp2
            go_ret
            exact ⟨z178_, z87_⟩
          rw [if_pos c27] at H
          have c27b0 : decide (x54_2 < (l0_6.length : Int)) = true := decide_eq_true c27
          clear c27
          by_cases c28 : 0 ≤ x54_2
          rotate_left
          · rw [if_neg c28] at H
            exact absurd H (by simp)
          rw [if_pos c28] at H
          have c28b0 : decide (0 ≤ x54_2) = true := decide_eq_true c28
          clear c28
          by_cases c29 : x54_2 < (l0_6.length : Int)
          rotate_left
          · rw [if_neg c29] at H
            exact absurd H (by simp)
          rw [if_pos c29] at H
          have c29b0 : decide (x54_2 < (l0_6.length : Int)) = true := decide_eq_true c29
          clear c29
          have HC30 := Aside0.mk H
          clear H
          have p122 : 0 ≤ (x54_2 : Int) := of_decide_eq_true z204_
          have q122 : x54_2 < (l0_6.length : Int) := of_decide_eq_true z204_
          obtain ⟨ad122, e122, hx122_0, hx122_1, hx122_2⟩ := at_T134 HR0_6.out x54_2 p122 q122
          cases e122
          replace hx122_0 := (HB.out.cell (World.block_lt_of_cell? w _ hx122_0)).trans hx122_0
          replace hx122_1 := (HB.out.cell (World.block_lt_of_cell? w _ hx122_1)).trans hx122_1
          replace hx122_2 := (HB.out.cell (World.block_lt_of_cell? w _ hx122_2)).trans hx122_2
          replace p122 := eq_true p122
          replace q122 := eq_true q122
          go_upto_region 9 with (first | ((with_reducible refine gate_dst (N := 5) rfl ?_); refine box_event ?hg (N := 5) ?hd (cs := #[.int .i64 0, .int .i64 0, .int .i64 0]) (t := 134) ?hr ?_; (case hd => rfl); (case hg => rfl); (case hr => exact z209_); intro gb123 hg w31 hbox hb; have BK123 := Aside0.mk (hbox); have GW123 := Aside0.mk ((z58_ : w.heap.size ≤ gb123)); have GE123 := Aside0.mk ((z58_ : w.heap.size ≤ gb123)); replace HB := Aside0.mk (below_step z87_ hb); have NB115_123 := Aside0.mk ((by rw [hg]; exact Nat.ne_of_lt (blk_lt (g := gb115) (o := .cells #[.int .i64 a0_0, .int .i64 a0_1, .int .i64 a0_2, .int .i64 a0_3, .int .i64 a0_4, .int .i64 a0_5, .slice (some ad122) l0_6.length c0_6, .bool a0_7] 87 (0, 0)) z133_) : gb115 ≠ gb123)); have NB123_115 := Aside0.mk ((by rw [hg]; exact Nat.ne_of_gt (blk_lt (g := gb115) (o := .cells #[.int .i64 a0_0, .int .i64 a0_1, .int .i64 a0_2, .int .i64 a0_3, .int .i64 a0_4, .int .i64 a0_5, .slice (some ad122) l0_6.length c0_6, .bool a0_7] 87 (0, 0)) z133_) : gb123 ≠ gb115)); replace BK115 := Aside0.mk (blk_below (g := gb115) (o := .cells #[.int .i64 a0_0, .int .i64 a0_1, .int .i64 a0_2, .int .i64 a0_3, .int .i64 a0_4, .int .i64 a0_5, .slice (some ad122) l0_6.length c0_6, .bool a0_7] 87 (0, 0)) z133_ hb); clear hb hbox hg; have hnb32 := NB123_115.out; have hnc32 := NB115_123.out; have hcz33_0 : w31.cell? ⟨gb123, 0, none⟩ = some (.int .i64 0) := (blk_cell BK123.out 0).trans rfl; have hcz33_1 : w31.cell? ⟨gb123, 1, none⟩ = some (.int .i64 0) := (blk_cell BK123.out 1).trans rfl; have hcz33_2 : w31.cell? ⟨gb123, 2, none⟩ = some (.int .i64 0) := (blk_cell BK123.out 2).trans rfl; have hfz33_0 := blk_frozen BK123.out 0; have hfz33_1 := blk_frozen BK123.out 1; have hfz33_2 := blk_frozen BK123.out 2))
          (try simp only [Act.put, List.setIfInBounds_toArray, List.set_cons_zero, List.set_cons_succ])
          go_cut [73] (fun v73 wc => ∃ (kq : Nat) (x73_29 : Bool), v73 = .bool x73_29 ∧ Aside0 (metrics_check.j2 kq l0_6 (l0_6.length : Int) x54_2 x73_29 ((rd_T134 l0_6 x54_2).f0) ((rd_T134 l0_6 x54_2).f1) ((rd_T134 l0_6 x54_2).f2) = some r) ∧ Aside0 (kq ≤ k2) ∧ Aside0 (wc.heap[gb115]? = some (.cells #[.int .i64 a0_0, .int .i64 a0_1, .int .i64 a0_2, .int .i64 a0_3, .int .i64 a0_4, .int .i64 a0_5, (.slice (some ad122) l0_6.length c0_6), .bool a0_7] 87 (0, 0))) ∧ Aside0 (wc.heap[gb123]? = some (.cells #[.int .i64 ((rd_T134 l0_6 x54_2).f0), .int .i64 ((rd_T134 l0_6 x54_2).f1), .int .i64 ((rd_T134 l0_6 x54_2).f2)] 134 (0, 0))) ∧ Aside0 (Below w.heap.size w wc))
          case first =>
            have H := HC30.out
            clear HC30
            by_cases c34 : ((rd_T134 l0_6 x54_2).f0) ≤ x3_2
            · rw [if_pos c34] at H
              have c34b0 : decide (((rd_T134 l0_6 x54_2).f0) ≤ x3_2) = true := decide_eq_true c34
              clear c34
              (first | rw [c34b0] | (simp only [i64_w, i32_w]; rw [c34b0]) | skip)
              have H' := Aside0.mk H
              clear H
              have hnb35 := NB123_115.out
              have hnc35 := NB115_123.out
              have hcz36_0 : w31.cell? ⟨gb123, 0, none⟩ = some (.int .i64 0) := (blk_cell BK123.out 0).trans rfl
              have hcz36_1 : w31.cell? ⟨gb123, 1, none⟩ = some (.int .i64 0) := (blk_cell BK123.out 1).trans rfl
              have hcz36_2 : w31.cell? ⟨gb123, 2, none⟩ = some (.int .i64 0) := (blk_cell BK123.out 2).trans rfl
              have hfz36_0 := blk_frozen BK123.out 0
              have hfz36_1 := blk_frozen BK123.out 1
              have hfz36_2 := blk_frozen BK123.out 2
              go_wp2
              go_meet
              case rel => exact ⟨_, (true), z208_, H', ⟨z195_⟩, ⟨z13_⟩, ⟨z5_⟩, ⟨z65_⟩⟩
            rw [if_neg c34] at H
            have c34b0 : decide (((rd_T134 l0_6 x54_2).f0) ≤ x3_2) = false := decide_eq_false c34
            clear c34
            (first | rw [c34b0] | (simp only [i64_w, i32_w]; rw [c34b0]) | skip)
            by_cases c37 : ((rd_T134 l0_6 x54_2).f1) < ((rd_T134 l0_6 x54_2).f0)
            rotate_left
            · rw [if_neg c37] at H
              have c37b0 : decide (((rd_T134 l0_6 x54_2).f1) < ((rd_T134 l0_6 x54_2).f0)) = false := decide_eq_false c37
              clear c37
              have H' := Aside0.mk H
              clear H
              have hnb40 := NB123_115.out
              have hnc40 := NB115_123.out
              have hcz41_0 : w31.cell? ⟨gb123, 0, none⟩ = some (.int .i64 0) := (blk_cell BK123.out 0).trans rfl
              have hcz41_1 : w31.cell? ⟨gb123, 1, none⟩ = some (.int .i64 0) := (blk_cell BK123.out 1).trans rfl
              have hcz41_2 : w31.cell? ⟨gb123, 2, none⟩ = some (.int .i64 0) := (blk_cell BK123.out 2).trans rfl
              have hfz41_0 := blk_frozen BK123.out 0
              have hfz41_1 := blk_frozen BK123.out 1
              have hfz41_2 := blk_frozen BK123.out 2
              go_wp2
              go_meet
              case rel => exact ⟨_, (decide (((rd_T134 l0_6 x54_2).f1) > 1114111)), z208_, H', ⟨z195_⟩, ⟨z13_⟩, ⟨z5_⟩, ⟨z65_⟩⟩
            rw [if_pos c37] at H
            have c37b0 : decide (((rd_T134 l0_6 x54_2).f1) < ((rd_T134 l0_6 x54_2).f0)) = true := decide_eq_true c37
            clear c37
            have H' := Aside0.mk H
            clear H
            have hnb38 := NB123_115.out
            have hnc38 := NB115_123.out
            have hcz39_0 : w31.cell? ⟨gb123, 0, none⟩ = some (.int .i64 0) := (blk_cell BK123.out 0).trans rfl
            have hcz39_1 : w31.cell? ⟨gb123, 1, none⟩ = some (.int .i64 0) := (blk_cell BK123.out 1).trans rfl
            have hcz39_2 : w31.cell? ⟨gb123, 2, none⟩ = some (.int .i64 0) := (blk_cell BK123.out 2).trans rfl
            have hfz39_0 := blk_frozen BK123.out 0
            have hfz39_1 := blk_frozen BK123.out 1
            have hfz39_2 := blk_frozen BK123.out 2
            go_wp2
            go_meet
            case rel => exact ⟨_, (true), z208_, H', ⟨z195_⟩, ⟨z13_⟩, ⟨z5_⟩, ⟨z65_⟩⟩
          case rest =>
            clear HC30
            try clear c1
            try clear p1
            try clear q1
            try clear hx1
            try clear c2
            try clear p2
            try clear c3
            try clear c4
            try clear c5
            try clear c7
            try clear c8
            try clear c9
            try clear c11
            try clear p12
            try clear q12
            try clear hx12
            try clear c13
            try clear c15
            try clear c23
            try clear c24
            try clear c24b0
            try clear c24b1
            try clear c27
            try clear c27b0
            try clear c28
            try clear c28b0
            try clear c29
            try clear c29b0
            try clear c32
            try clear c34
            try clear c34b0
            try clear c35
            try clear c37
            try clear c37b0
            try clear c38
            try clear c40
            try clear hcz16_0
            try clear hcz16_1
            try clear hcz16_2
            try clear hcz16_3
            try clear hcz16_4
            try clear hcz16_5
            try clear hcz16_6
            try clear hcz16_7
            try clear hcz17_0
            try clear hcz17_1
            try clear hcz17_2
            try clear hcz17_3
            try clear hcz17_4
            try clear hcz17_5
            try clear hcz17_6
            try clear hcz17_7
            try clear hcz18_0
            try clear hcz18_1
            try clear hcz18_2
            try clear hcz18_3
            try clear hcz18_4
            try clear hcz18_5
            try clear hcz18_6
            try clear hcz18_7
            try clear hcz19_0
            try clear hcz19_1
            try clear hcz19_2
            try clear hcz19_3
            try clear hcz19_4
            try clear hcz19_5
            try clear hcz19_6
            try clear hcz19_7
            try clear hcz20_0
            try clear hcz20_1
            try clear hcz20_2
            try clear hcz20_3
            try clear hcz20_4
            try clear hcz20_5
            try clear hcz20_6
            try clear hcz20_7
            try clear hcz21_0
            try clear hcz21_1
            try clear hcz21_2
            try clear hcz21_3
            try clear hcz21_4
            try clear hcz21_5
            try clear hcz21_6
            try clear hcz21_7
            try clear hcz22_0
            try clear hcz22_1
            try clear hcz22_2
            try clear hcz22_3
            try clear hcz22_4
            try clear hcz22_5
            try clear hcz22_6
            try clear hcz22_7
            try clear hcz25_0
            try clear hcz25_1
            try clear hcz25_2
            try clear hcz25_3
            try clear hcz25_4
            try clear hcz25_5
            try clear hcz25_6
            try clear hcz25_7
            try clear hcz26_0
            try clear hcz26_1
            try clear hcz26_2
            try clear hcz26_3
            try clear hcz26_4
            try clear hcz26_5
            try clear hcz26_6
            try clear hcz26_7
            try clear hcz33_0
            try clear hcz33_1
            try clear hcz33_2
            try clear hcz36_0
            try clear hcz36_1
            try clear hcz36_2
            try clear hcz39_0
            try clear hcz39_1
            try clear hcz39_2
            try clear hcz41_0
            try clear hcz41_1
            try clear hcz41_2
            try clear hfz16_0
            try clear hfz16_1
            try clear hfz16_2
            try clear hfz16_3
            try clear hfz16_4
            try clear hfz16_5
            try clear hfz16_6
            try clear hfz16_7
            try clear hfz17_0
            try clear hfz17_1
            try clear hfz17_2
            try clear hfz17_3
            try clear hfz17_4
            try clear hfz17_5
            try clear hfz17_6
            try clear hfz17_7
            try clear hfz18_0
            try clear hfz18_1
            try clear hfz18_2
            try clear hfz18_3
            try clear hfz18_4
            try clear hfz18_5
            try clear hfz18_6
            try clear hfz18_7
            try clear hfz19_0
            try clear hfz19_1
            try clear hfz19_2
            try clear hfz19_3
            try clear hfz19_4
            try clear hfz19_5
            try clear hfz19_6
            try clear hfz19_7
            try clear hfz20_0
            try clear hfz20_1
            try clear hfz20_2
            try clear hfz20_3
            try clear hfz20_4
            try clear hfz20_5
            try clear hfz20_6
            try clear hfz20_7
            try clear hfz21_0
            try clear hfz21_1
            try clear hfz21_2
            try clear hfz21_3
            try clear hfz21_4
            try clear hfz21_5
            try clear hfz21_6
            try clear hfz21_7
            try clear hfz22_0
            try clear hfz22_1
            try clear hfz22_2
            try clear hfz22_3
            try clear hfz22_4
            try clear hfz22_5
            try clear hfz22_6
            try clear hfz22_7
            try clear hfz25_0
            try clear hfz25_1
            try clear hfz25_2
            try clear hfz25_3
            try clear hfz25_4
            try clear hfz25_5
            try clear hfz25_6
            try clear hfz25_7
            try clear hfz26_0
            try clear hfz26_1
            try clear hfz26_2
            try clear hfz26_3
            try clear hfz26_4
            try clear hfz26_5
            try clear hfz26_6
            try clear hfz26_7
            try clear hfz33_0
            try clear hfz33_1
            try clear hfz33_2
            try clear hfz36_0
            try clear hfz36_1
            try clear hfz36_2
            try clear hfz39_0
            try clear hfz39_1
            try clear hfz39_2
            try clear hfz41_0
            try clear hfz41_1
            try clear hfz41_2
            try clear hx122_0
            try clear hx122_1
            try clear hx122_2
            try clear p122
            try clear p2
            try clear q122
            obtain ⟨kq, x73_29, rfl, HA, HJ29, BK115, BK123, HB⟩ := hcut
            cases kq with
            | zero => exact absurd HA.out (by simp [metrics_check.j2])
            | succ kj29 =>
              have H := HA.out
              clear HA
              simp only [metrics_check.j2] at H
              by_cases c42 : x73_29 = true
              · subst c42
                have H1 : (some 42) = some r := by rw [if_pos rfl] at H; exact H
                clear H
                have H := H1
                clear H1
                obtain rfl := Option.some.inj H
                go_wp2
                go_ret
                exact ⟨z178_, z65_⟩
              replace c42 := Bool.eq_false_iff.mpr c42
              subst c42
              have H1 : ((metrics_unit.f ((rd_T134 l0_6 x54_2).f2) 0).bind fun t124 => (if t124 = true then (metrics_check.l0 kj29 ((rd_T134 l0_6 x54_2).f1) l0_6 (l0_6.length : Int) (wrap64 (x54_2 + 1))) else (some 41))) = some r := by rw [if_neg (show ¬ (false = true) by decide)] at H; exact H
              clear H
              have H := H1
              clear H1
              replace H := Option.bind_eq_some_iff.mp H
              obtain ⟨t124, A430, H⟩ := H
              replace H : (if t124 = true then (metrics_check.l0 kj29 ((rd_T134 l0_6 x54_2).f1) l0_6 (l0_6.length : Int) (wrap64 (x54_2 + 1))) else (some 41)) = some r := H
              have A43 := Aside0.mk A430
              clear A430
              by_cases c44 : t124 = true
              rotate_left
              · replace c44 := Bool.eq_false_iff.mpr c44
                subst c44
                have H1 : (some 41) = some r := by rw [if_neg (show ¬ (false = true) by decide)] at H; exact H
                clear H
                have H := H1
                clear H1
                obtain rfl := Option.some.inj H
                have hnb47 := NB123_115.out
                have hnc47 := NB115_123.out
                have hcz48_0 : wc.cell? ⟨gb123, 0, none⟩ = some (.int .i64 ((rd_T134 l0_6 x54_2).f0)) := (blk_cell BK123.out 0).trans rfl
                have hcz48_1 : wc.cell? ⟨gb123, 1, none⟩ = some (.int .i64 ((rd_T134 l0_6 x54_2).f1)) := (blk_cell BK123.out 1).trans rfl
                have hcz48_2 : wc.cell? ⟨gb123, 2, none⟩ = some (.int .i64 ((rd_T134 l0_6 x54_2).f2)) := (blk_cell BK123.out 2).trans rfl
                have hfz48_0 := blk_frozen BK123.out 0
                have hfz48_1 := blk_frozen BK123.out 1
                have hfz48_2 := blk_frozen BK123.out 2
                go_wp2_with (first | ((with_reducible refine gate_callee (f := 88) rfl ?_); refine goesL_ (some 76) rfl rfl Try.func88 (by kernel_rfl) rfl #[.int .i64 ((rd_T134 l0_6 x54_2).f2), .int .i64 0] rfl z113_ ?_; (with_reducible refine (metrics_unit.calls ((rd_T134 l0_6 x54_2).f2) 0 false _ A43.out).mono ?_); rintro e w' ⟨rfl, ⟨nd, rfl⟩⟩; refine ⟨_, rfl, ?_⟩))
                go_ret
                exact ⟨z178_, z65_⟩
              subst c44
              have H1 : (metrics_check.l0 kj29 ((rd_T134 l0_6 x54_2).f1) l0_6 (l0_6.length : Int) (wrap64 (x54_2 + 1))) = some r := by rw [if_pos rfl] at H; exact H
              clear H
              have H := H1
              clear H1
              have H' := Aside0.mk H
              clear H
              have hnb45 := NB123_115.out
              have hnc45 := NB115_123.out
              have hcz46_0 : wc.cell? ⟨gb123, 0, none⟩ = some (.int .i64 ((rd_T134 l0_6 x54_2).f0)) := (blk_cell BK123.out 0).trans rfl
              have hcz46_1 : wc.cell? ⟨gb123, 1, none⟩ = some (.int .i64 ((rd_T134 l0_6 x54_2).f1)) := (blk_cell BK123.out 1).trans rfl
              have hcz46_2 : wc.cell? ⟨gb123, 2, none⟩ = some (.int .i64 ((rd_T134 l0_6 x54_2).f2)) := (blk_cell BK123.out 2).trans rfl
              have hfz46_0 := blk_frozen BK123.out 0
              have hfz46_1 := blk_frozen BK123.out 1
              have hfz46_2 := blk_frozen BK123.out 2
              go_wp2_with (first | ((with_reducible refine gate_callee (f := 88) rfl ?_); refine goesL_ (some 76) rfl rfl Try.func88 (by kernel_rfl) rfl #[.int .i64 ((rd_T134 l0_6 x54_2).f2), .int .i64 0] rfl z113_ ?_; (with_reducible refine (metrics_unit.calls ((rd_T134 l0_6 x54_2).f2) 0 true _ A43.out).mono ?_); rintro e w' ⟨rfl, ⟨nd, rfl⟩⟩; refine ⟨_, rfl, ?_⟩))
              go_roundg kj29
              case measure => have := HJ1.out; have := HK2.out; have := HJ29.out; omega
              case rel => exact ⟨(((rd_T134 l0_6 x54_2).f1)), (wrap64 (x54_2 + 1)), z208_, z208_, H', ⟨by have := HJ1.out; have := HK2.out; have := HJ29.out; omega⟩, ⟨z133_⟩, ⟨z65_⟩⟩
end Go.Proofs.Ytblmcdpfhdamjaa.PPaintWindow
