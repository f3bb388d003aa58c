-- WRITTEN BY wip/xprint.py of this repo, over the kit's print; functions the print does not take are by hand
import Derived.Test.YtiabffkfabmlpaaPLocateBackx0
import Derived.Test.YtiabffkfabmlpaaPLocateBackx12
namespace Go.Proofs.Ytiabffkfabmlpaa.PLocateBack
open Go.RowKit Go.Proofs.YtiabffkfabmlpaaW.PrintWords Go.Proofs.YtiabffkfabmlpaaW.PrintLast Go.Proofs.YtiabffkfabmlpaaW.PrintMore
attribute [local go_sem] max2_int min2_int max_two min_two max_three min_three max_four min_four   -- for this text's walks alone
set_option linter.unusedVariables false
set_option linter.unusedSimpArgs false
/-! ### regletlaw15_line: function 12 -/
mutual
def regletlaw15_line.j0 : Nat → Bool → ByteArray → List (S75) → Int → Int → Int → Bool → Int → Bool → Bool → Option (Bool)
  | 0, _, _, _, _, _, _, _, _, _, _ => none
  | k + 1, x19, x283000, x283001, x283002, x283003, x283004, x283005, x283006, x283007, x283008 => if x19 = true then (some false) else (regletlaw15_line.l0 k 0 x283000 x283001 x283002 x283003 x283004 x283005 x283006 x283007 x283008)
def regletlaw15_line.l0 : Nat → Int → ByteArray → List (S75) → Int → Int → Int → Bool → Int → Bool → Bool → Option (Bool)
  | 0, _, _, _, _, _, _, _, _, _, _ => none
  | k + 1, x3, x283000, x283001, x283002, x283003, x283004, x283005, x283006, x283007, x283008 => if x3 < (x283001.length : Int) then (if 0 ≤ x3 then (if ((rd_T75 x283001 x3).f0) > 1099511627776 then (some false) else (regletlaw15_line.l0 k (wrap64 (x3 + 1)) x283000 x283001 x283002 x283003 x283004 x283005 x283006 x283007 x283008)) else (none)) else (some true)
end
def regletlaw15_line.f (k : Nat) (a0_0 : ByteArray) (l0_1 : List (S75)) (a0_2 : Int) (a0_3 : Int) (a0_4 : Int) (a0_5 : Bool) (a0_6 : Int) (a0_7 : Bool) (a0_8 : Bool) : Option (Bool) := if (a0_0.size : Int) > 200 then (regletlaw15_line.j0 k true a0_0 l0_1 a0_2 a0_3 a0_4 a0_5 a0_6 a0_7 a0_8) else (if (l0_1.length : Int) > 40 then (regletlaw15_line.j0 k true a0_0 l0_1 a0_2 a0_3 a0_4 a0_5 a0_6 a0_7 a0_8) else ((regletref02_Right.f k a0_0).bind fun t283 => (regletlaw15_line.j0 k (!t283) a0_0 l0_1 a0_2 a0_3 a0_4 a0_5 a0_6 a0_7 a0_8)))
theorem regletlaw15_line.mono_l : ∀ k, (∀ y0 y1 y2 y3 y4 y5 y6 y7 y8 y9, LeO (regletlaw15_line.j0 k y0 y1 y2 y3 y4 y5 y6 y7 y8 y9) (regletlaw15_line.j0 (k + 1) y0 y1 y2 y3 y4 y5 y6 y7 y8 y9)) ∧ (∀ y0 y1 y2 y3 y4 y5 y6 y7 y8 y9, LeO (regletlaw15_line.l0 k y0 y1 y2 y3 y4 y5 y6 y7 y8 y9) (regletlaw15_line.l0 (k + 1) y0 y1 y2 y3 y4 y5 y6 y7 y8 y9))
  | 0 => ⟨fun _ _ _ _ _ _ _ _ _ _ r h => by simp [regletlaw15_line.j0] at h, fun _ _ _ _ _ _ _ _ _ _ r h => by simp [regletlaw15_line.l0] at h⟩
  | k + 1 => by
    obtain ⟨ih0, ih1⟩ := regletlaw15_line.mono_l k
    refine ⟨?_, ?_⟩
    · intro y0 y1 y2 y3 y4 y5 y6 y7 y8 y9
      unfold regletlaw15_line.j0
      repeat' first | (with_reducible first | exact ih0 _ _ _ _ _ _ _ _ _ _ | exact ih1 _ _ _ _ _ _ _ _ _ _ | exact regletref02_Right.mono _ _ | exact LeO.refl _ | exact LeO.none _ | refine LeO.ite ?_ ?_ | refine LeO.bind ?_ (fun _ => ?_)) | exact ih0 _ _ _ _ _ _ _ _ _ _ | exact ih1 _ _ _ _ _ _ _ _ _ _ | exact regletref02_Right.mono _ _ | exact LeO.none _ | refine LeO.ite ?_ ?_ | refine LeO.bind ?_ (fun _ => ?_)
    · intro y0 y1 y2 y3 y4 y5 y6 y7 y8 y9
      unfold regletlaw15_line.l0
      repeat' first | (with_reducible first | exact ih0 _ _ _ _ _ _ _ _ _ _ | exact ih1 _ _ _ _ _ _ _ _ _ _ | exact regletref02_Right.mono _ _ | exact LeO.refl _ | exact LeO.none _ | refine LeO.ite ?_ ?_ | refine LeO.bind ?_ (fun _ => ?_)) | exact ih0 _ _ _ _ _ _ _ _ _ _ | exact ih1 _ _ _ _ _ _ _ _ _ _ | exact regletref02_Right.mono _ _ | exact LeO.none _ | refine LeO.ite ?_ ?_ | refine LeO.bind ?_ (fun _ => ?_)
theorem regletlaw15_line.mono : ∀ a0 a1 a2 a3 a4 a5 a6 a7 a8 k, LeO (regletlaw15_line.f k a0 a1 a2 a3 a4 a5 a6 a7 a8) (regletlaw15_line.f (k + 1) a0 a1 a2 a3 a4 a5 a6 a7 a8) := by
  intro a0 a1 a2 a3 a4 a5 a6 a7 a8 k
  obtain ⟨ih0, ih1⟩ := regletlaw15_line.mono_l k
  unfold regletlaw15_line.f
  repeat' first | (with_reducible first | exact ih0 _ _ _ _ _ _ _ _ _ _ | exact ih1 _ _ _ _ _ _ _ _ _ _ | exact regletref02_Right.mono _ _ | exact LeO.refl _ | exact LeO.none _ | refine LeO.ite ?_ ?_ | refine LeO.bind ?_ (fun _ => ?_)) | exact ih0 _ _ _ _ _ _ _ _ _ _ | exact ih1 _ _ _ _ _ _ _ _ _ _ | exact regletref02_Right.mono _ _ | exact LeO.none _ | refine LeO.ite ?_ ?_ | refine LeO.bind ?_ (fun _ => ?_)
set_option maxHeartbeats 8000000 in
set_option maxRecDepth 100000 in
theorem regletlaw15_line.calls (k : Nat) (a0_0 : ByteArray) (A0_1 : Option Addr) (c0_1 : Nat) (l0_1 : List (S75)) (a0_2 : Int) (a0_3 : Int) (a0_4 : Int) (a0_5 : Bool) (a0_6 : Int) (a0_7 : Bool) (a0_8 : Bool) (r : Bool) (w : World) (hr0_1 : Kd.C k75 w A0_1 l0_1.length l0_1) (hc0_1 : l0_1.length ≤ c0_1) (h : regletlaw15_line.f k a0_0 l0_1 a0_2 a0_3 a0_4 a0_5 a0_6 a0_7 a0_8 = some r) :
    Calls Try.prog 12 #[.agg #[.string a0_0, .slice A0_1 l0_1.length c0_1, .int .i64 a0_2, .int .i64 a0_3, .int .i64 a0_4, .bool a0_5, .int .i64 a0_6, .bool a0_7, .bool a0_8]] w fun e w' => e = .returned (.bool r) ∧ Below w.heap.size w w' := by
  have hu28 := Try.underlying28
  have HR0_1 := Aside0.mk hr0_1
  have HC0_1 := Aside0.mk hc0_1
  clear hr0_1 hc0_1
  have HB := Aside0.mk (Below.refl w.heap.size w)
  have H : (if (a0_0.size : Int) > 200 then (regletlaw15_line.j0 k true a0_0 l0_1 a0_2 a0_3 a0_4 a0_5 a0_6 a0_7 a0_8) else (if (l0_1.length : Int) > 40 then (regletlaw15_line.j0 k true a0_0 l0_1 a0_2 a0_3 a0_4 a0_5 a0_6 a0_7 a0_8) else ((regletref02_Right.f k a0_0).bind fun t283 => (regletlaw15_line.j0 k (!t283) a0_0 l0_1 a0_2 a0_3 a0_4 a0_5 a0_6 a0_7 a0_8)))) = some r := h
  clear h
  have HC2 := Aside0.mk H
  clear H
  go_enter Try.func12, Try.ntmps12
  go_upto_region 1 with (first | ((with_reducible refine gate_dst (N := 1) rfl ?_); (try (refine gate_guard (by rfl) ?_; dsimp only)); refine box_event ?hg (N := 1) ?hd (cs := #[.string a0_0, .slice A0_1 l0_1.length c0_1, .int .i64 a0_2, .int .i64 a0_3, .int .i64 a0_4, .bool a0_5, .int .i64 a0_6, .bool a0_7, .bool a0_8]) (t := 28) ?hr ?_; (case hd => rfl); (case hg => rfl); (case hr => exact z181_); intro gb282 hg w3 hbox hb; have BK282 := Aside0.mk (hbox); have GW282 := Aside0.mk ((z74_ : w.heap.size ≤ gb282)); have GE282 := Aside0.mk ((z74_ : w.heap.size ≤ gb282)); replace HB := Aside0.mk (below_step z103_ hb); clear hb hbox hg))
  (try simp only [Act.put, List.setIfInBounds_toArray, List.set_cons_zero, List.set_cons_succ])
  go_cut [19] (fun v19 wc => ∃ (kq : Nat) (x19_1 : Bool), v19 = .bool x19_1 ∧ Aside0 (regletlaw15_line.j0 kq x19_1 a0_0 l0_1 a0_2 a0_3 a0_4 a0_5 a0_6 a0_7 a0_8 = some r) ∧ Aside0 (kq ≤ k) ∧ Aside0 (wc.heap[gb282]? = some (.cells #[.string a0_0, (.slice A0_1 l0_1.length c0_1), .int .i64 a0_2, .int .i64 a0_3, .int .i64 a0_4, .bool a0_5, .int .i64 a0_6, .bool a0_7, .bool a0_8] 28 (0, 0))) ∧ Aside0 (Below w.heap.size w wc))
  case first =>
    have H := HC2.out
    clear HC2
    by_cases c4 : (a0_0.size : Int) > 200
    · rw [if_pos c4] at H
      have c4b0 : decide (200 < (a0_0.size : Int)) = true := decide_eq_true c4
      have c4b1 : decide (200 < a0_0.size) = true := decide_eq_true (by omega)
      clear c4
      (first | rw [c4b0] | (simp only [i64_w, i32_w]; rw [c4b0]) | skip)
      have H' := Aside0.mk H
      clear H
      have hcz5_0 : w3.cell? ⟨gb282, 0, none⟩ = some (.string a0_0) := (blk_cell BK282.out 0).trans rfl
      have hcz5_1 : w3.cell? ⟨gb282, 1, none⟩ = some (.slice A0_1 l0_1.length c0_1) := (blk_cell BK282.out 1).trans rfl
      have hcz5_2 : w3.cell? ⟨gb282, 2, none⟩ = some (.int .i64 a0_2) := (blk_cell BK282.out 2).trans rfl
      have hcz5_3 : w3.cell? ⟨gb282, 3, none⟩ = some (.int .i64 a0_3) := (blk_cell BK282.out 3).trans rfl
      have hcz5_4 : w3.cell? ⟨gb282, 4, none⟩ = some (.int .i64 a0_4) := (blk_cell BK282.out 4).trans rfl
      have hcz5_5 : w3.cell? ⟨gb282, 5, none⟩ = some (.bool a0_5) := (blk_cell BK282.out 5).trans rfl
      have hcz5_6 : w3.cell? ⟨gb282, 6, none⟩ = some (.int .i64 a0_6) := (blk_cell BK282.out 6).trans rfl
      have hcz5_7 : w3.cell? ⟨gb282, 7, none⟩ = some (.bool a0_7) := (blk_cell BK282.out 7).trans rfl
      have hcz5_8 : w3.cell? ⟨gb282, 8, none⟩ = some (.bool a0_8) := (blk_cell BK282.out 8).trans rfl
      have hfz5_0 := blk_frozen BK282.out 0
      have hfz5_1 := blk_frozen BK282.out 1
      have hfz5_2 := blk_frozen BK282.out 2
      have hfz5_3 := blk_frozen BK282.out 3
      have hfz5_4 := blk_frozen BK282.out 4
      have hfz5_5 := blk_frozen BK282.out 5
      have hfz5_6 := blk_frozen BK282.out 6
      have hfz5_7 := blk_frozen BK282.out 7
      have hfz5_8 := blk_frozen BK282.out 8
      go_wp2
      go_meet
      case rel => exact ⟨_, (true), z180_, H', ⟨z183_⟩, ⟨z129_⟩, ⟨z86_⟩⟩
    rw [if_neg c4] at H
    have c4b0 : decide (200 < (a0_0.size : Int)) = false := decide_eq_false c4
    have c4b1 : decide (200 < a0_0.size) = false := decide_eq_false (by omega)
    clear c4
    (first | rw [c4b0] | (simp only [i64_w, i32_w]; rw [c4b0]) | skip)
    by_cases c6 : (l0_1.length : Int) > 40
    · rw [if_pos c6] at H
      have c6b0 : decide (40 < (l0_1.length : Int)) = true := decide_eq_true c6
      have c6b1 : decide (40 < l0_1.length) = true := decide_eq_true (by omega)
      clear c6
      have H' := Aside0.mk H
      clear H
      have hcz7_0 : w3.cell? ⟨gb282, 0, none⟩ = some (.string a0_0) := (blk_cell BK282.out 0).trans rfl
      have hcz7_1 : w3.cell? ⟨gb282, 1, none⟩ = some (.slice A0_1 l0_1.length c0_1) := (blk_cell BK282.out 1).trans rfl
      have hcz7_2 : w3.cell? ⟨gb282, 2, none⟩ = some (.int .i64 a0_2) := (blk_cell BK282.out 2).trans rfl
      have hcz7_3 : w3.cell? ⟨gb282, 3, none⟩ = some (.int .i64 a0_3) := (blk_cell BK282.out 3).trans rfl
      have hcz7_4 : w3.cell? ⟨gb282, 4, none⟩ = some (.int .i64 a0_4) := (blk_cell BK282.out 4).trans rfl
      have hcz7_5 : w3.cell? ⟨gb282, 5, none⟩ = some (.bool a0_5) := (blk_cell BK282.out 5).trans rfl
      have hcz7_6 : w3.cell? ⟨gb282, 6, none⟩ = some (.int .i64 a0_6) := (blk_cell BK282.out 6).trans rfl
      have hcz7_7 : w3.cell? ⟨gb282, 7, none⟩ = some (.bool a0_7) := (blk_cell BK282.out 7).trans rfl
      have hcz7_8 : w3.cell? ⟨gb282, 8, none⟩ = some (.bool a0_8) := (blk_cell BK282.out 8).trans rfl
      have hfz7_0 := blk_frozen BK282.out 0
      have hfz7_1 := blk_frozen BK282.out 1
      have hfz7_2 := blk_frozen BK282.out 2
      have hfz7_3 := blk_frozen BK282.out 3
      have hfz7_4 := blk_frozen BK282.out 4
      have hfz7_5 := blk_frozen BK282.out 5
      have hfz7_6 := blk_frozen BK282.out 6
      have hfz7_7 := blk_frozen BK282.out 7
      have hfz7_8 := blk_frozen BK282.out 8
      go_wp2
      go_meet
      case rel => exact ⟨_, (true), z180_, H', ⟨z183_⟩, ⟨z129_⟩, ⟨z86_⟩⟩
    rw [if_neg c6] at H
    have c6b0 : decide (40 < (l0_1.length : Int)) = false := decide_eq_false c6
    have c6b1 : decide (40 < l0_1.length) = false := decide_eq_false (by omega)
    clear c6
    replace H := Option.bind_eq_some_iff.mp H
    obtain ⟨t283, A80, H⟩ := H
    replace H : (regletlaw15_line.j0 k (!t283) a0_0 l0_1 a0_2 a0_3 a0_4 a0_5 a0_6 a0_7 a0_8) = some r := H
    have A8 := Aside0.mk A80
    clear A80
    have H' := Aside0.mk H
    clear H
    have hcz9_0 : w3.cell? ⟨gb282, 0, none⟩ = some (.string a0_0) := (blk_cell BK282.out 0).trans rfl
    have hcz9_1 : w3.cell? ⟨gb282, 1, none⟩ = some (.slice A0_1 l0_1.length c0_1) := (blk_cell BK282.out 1).trans rfl
    have hcz9_2 : w3.cell? ⟨gb282, 2, none⟩ = some (.int .i64 a0_2) := (blk_cell BK282.out 2).trans rfl
    have hcz9_3 : w3.cell? ⟨gb282, 3, none⟩ = some (.int .i64 a0_3) := (blk_cell BK282.out 3).trans rfl
    have hcz9_4 : w3.cell? ⟨gb282, 4, none⟩ = some (.int .i64 a0_4) := (blk_cell BK282.out 4).trans rfl
    have hcz9_5 : w3.cell? ⟨gb282, 5, none⟩ = some (.bool a0_5) := (blk_cell BK282.out 5).trans rfl
    have hcz9_6 : w3.cell? ⟨gb282, 6, none⟩ = some (.int .i64 a0_6) := (blk_cell BK282.out 6).trans rfl
    have hcz9_7 : w3.cell? ⟨gb282, 7, none⟩ = some (.bool a0_7) := (blk_cell BK282.out 7).trans rfl
    have hcz9_8 : w3.cell? ⟨gb282, 8, none⟩ = some (.bool a0_8) := (blk_cell BK282.out 8).trans rfl
    have hfz9_0 := blk_frozen BK282.out 0
    have hfz9_1 := blk_frozen BK282.out 1
    have hfz9_2 := blk_frozen BK282.out 2
    have hfz9_3 := blk_frozen BK282.out 3
    have hfz9_4 := blk_frozen BK282.out 4
    have hfz9_5 := blk_frozen BK282.out 5
    have hfz9_6 := blk_frozen BK282.out 6
    have hfz9_7 := blk_frozen BK282.out 7
    have hfz9_8 := blk_frozen BK282.out 8
    go_wp2_with (first | (go_at_call 29; (with_reducible refine (regletref02_Right.calls k a0_0 t283 _ A8.out).mono ?_); rintro e w10 ⟨rfl, hb⟩; replace BK282 := Aside0.mk (blk_below (g := gb282) (o := .cells #[.string a0_0, .slice A0_1 l0_1.length c0_1, .int .i64 a0_2, .int .i64 a0_3, .int .i64 a0_4, .bool a0_5, .int .i64 a0_6, .bool a0_7, .bool a0_8] 28 (0, 0)) z129_ hb); replace HB := Aside0.mk (below_step z86_ hb); (try clear hb); (try clear hb2); (try clear hk); (try clear hi)))
    go_meet
    case rel => exact ⟨_, (!t283), z180_, H', ⟨z183_⟩, ⟨z129_⟩, ⟨z86_⟩⟩
  case rest =>
    clear HC2; (try clear c1); (try clear p2); (try clear c4); (try clear c4b0); (try clear c4b1); (try clear c6); (try clear c6b0); (try clear c6b1); (try clear hcz5_0); (try clear hcz5_1); (try clear hcz5_2); (try clear hcz5_3); (try clear hcz5_4); (try clear hcz5_5); (try clear hcz5_6); (try clear hcz5_7); (try clear hcz5_8); (try clear hcz7_0); (try clear hcz7_1); (try clear hcz7_2); (try clear hcz7_3); (try clear hcz7_4); (try clear hcz7_5); (try clear hcz7_6); (try clear hcz7_7); (try clear hcz7_8); (try clear hcz9_0); (try clear hcz9_1); (try clear hcz9_2); (try clear hcz9_3); (try clear hcz9_4); (try clear hcz9_5); (try clear hcz9_6); (try clear hcz9_7); (try clear hcz9_8); (try clear hfz5_0); (try clear hfz5_1); (try clear hfz5_2); (try clear hfz5_3); (try clear hfz5_4); (try clear hfz5_5); (try clear hfz5_6); (try clear hfz5_7); (try clear hfz5_8); (try clear hfz7_0); (try clear hfz7_1); (try clear hfz7_2); (try clear hfz7_3); (try clear hfz7_4); (try clear hfz7_5); (try clear hfz7_6); (try clear hfz7_7); (try clear hfz7_8); (try clear hfz9_0); (try clear hfz9_1); (try clear hfz9_2); (try clear hfz9_3); (try clear hfz9_4); (try clear hfz9_5); (try clear hfz9_6); (try clear hfz9_7); (try clear hfz9_8)
    obtain ⟨kq, x19_1, rfl, HA, HJ1, BK282, HB⟩ := hcut
    cases kq with
    | zero => exact absurd HA.out (by simp [regletlaw15_line.j0])
    | succ kj1 =>
      have H := HA.out
      clear HA
      simp only [regletlaw15_line.j0] at H
      by_cases c11 : x19_1 = true
      · subst c11
        have H1 : (some false) = some r := by rw [if_pos rfl] at H; exact H
        clear H
        have H := H1
        clear H1
        obtain rfl := Option.some.inj H
        go_wp2
        go_ret
        exact ⟨z155_, z86_⟩
      replace c11 := Bool.eq_false_iff.mpr c11
      subst c11
      have H1 : (regletlaw15_line.l0 kj1 0 a0_0 l0_1 a0_2 a0_3 a0_4 a0_5 a0_6 a0_7 a0_8) = some r := by rw [if_neg (show ¬ (false = true) by decide)] at H; exact H
      clear H
      have H := H1
      clear H1
      have H' := Aside0.mk H
      clear H
      go_wp2
      go_loopg [3] kj1 (fun kq v3 w' => ∃ (x3_2 : Int), v3 = .int .i64 x3_2 ∧ Aside0 (regletlaw15_line.l0 kq x3_2 a0_0 l0_1 a0_2 a0_3 a0_4 a0_5 a0_6 a0_7 a0_8 = some r) ∧ Aside0 (kq ≤ kj1) ∧ Aside0 (w'.heap[gb282]? = some (.cells #[.string a0_0, (.slice A0_1 l0_1.length c0_1), .int .i64 a0_2, .int .i64 a0_3, .int .i64 a0_4, .bool a0_5, .int .i64 a0_6, .bool a0_7, .bool a0_8] 28 (0, 0))) ∧ Aside0 (Below w.heap.size w w'))
      case atStart => exact ⟨(0), z180_, H', ⟨Nat.le_refl _⟩, ⟨z129_⟩, ⟨z86_⟩⟩
      case round =>
        clear H'; (try clear c1); (try clear p2); (try clear c4); (try clear c4b0); (try clear c4b1); (try clear c6); (try clear c6b0); (try clear c6b1); (try clear c11); (try clear hcz5_0); (try clear hcz5_1); (try clear hcz5_2); (try clear hcz5_3); (try clear hcz5_4); (try clear hcz5_5); (try clear hcz5_6); (try clear hcz5_7); (try clear hcz5_8); (try clear hcz7_0); (try clear hcz7_1); (try clear hcz7_2); (try clear hcz7_3); (try clear hcz7_4); (try clear hcz7_5); (try clear hcz7_6); (try clear hcz7_7); (try clear hcz7_8); (try clear hcz9_0); (try clear hcz9_1); (try clear hcz9_2); (try clear hcz9_3); (try clear hcz9_4); (try clear hcz9_5); (try clear hcz9_6); (try clear hcz9_7); (try clear hcz9_8); (try clear hfz5_0); (try clear hfz5_1); (try clear hfz5_2); (try clear hfz5_3); (try clear hfz5_4); (try clear hfz5_5); (try clear hfz5_6); (try clear hfz5_7); (try clear hfz5_8); (try clear hfz7_0); (try clear hfz7_1); (try clear hfz7_2); (try clear hfz7_3); (try clear hfz7_4); (try clear hfz7_5); (try clear hfz7_6); (try clear hfz7_7); (try clear hfz7_8); (try clear hfz9_0); (try clear hfz9_1); (try clear hfz9_2); (try clear hfz9_3); (try clear hfz9_4); (try clear hfz9_5); (try clear hfz9_6); (try clear hfz9_7); (try clear hfz9_8); (try clear p2)
        obtain ⟨x3_2, rfl, HA, HK2, BK282, HB⟩ := hrel
        cases gk with
        | zero => exact absurd HA.out (by simp [regletlaw15_line.l0])
        | succ k2 =>
          have H := HA.out
          clear HA
          simp only [regletlaw15_line.l0] at H
          by_cases c12 : x3_2 < (l0_1.length : Int)
          rotate_left
          · rw [if_neg c12] at H
            have c12b0 : decide (x3_2 < (l0_1.length : Int)) = false := decide_eq_false c12
            clear c12
            obtain rfl := Option.some.inj H
            have hcz17_0 : wr.cell? ⟨gb282, 0, none⟩ = some (.string a0_0) := (blk_cell BK282.out 0).trans rfl
            have hcz17_1 : wr.cell? ⟨gb282, 1, none⟩ = some (.slice A0_1 l0_1.length c0_1) := (blk_cell BK282.out 1).trans rfl
            have hcz17_2 : wr.cell? ⟨gb282, 2, none⟩ = some (.int .i64 a0_2) := (blk_cell BK282.out 2).trans rfl
            have hcz17_3 : wr.cell? ⟨gb282, 3, none⟩ = some (.int .i64 a0_3) := (blk_cell BK282.out 3).trans rfl
            have hcz17_4 : wr.cell? ⟨gb282, 4, none⟩ = some (.int .i64 a0_4) := (blk_cell BK282.out 4).trans rfl
            have hcz17_5 : wr.cell? ⟨gb282, 5, none⟩ = some (.bool a0_5) := (blk_cell BK282.out 5).trans rfl
            have hcz17_6 : wr.cell? ⟨gb282, 6, none⟩ = some (.int .i64 a0_6) := (blk_cell BK282.out 6).trans rfl
            have hcz17_7 : wr.cell? ⟨gb282, 7, none⟩ = some (.bool a0_7) := (blk_cell BK282.out 7).trans rfl
            have hcz17_8 : wr.cell? ⟨gb282, 8, none⟩ = some (.bool a0_8) := (blk_cell BK282.out 8).trans rfl
            have hfz17_0 := blk_frozen BK282.out 0
            have hfz17_1 := blk_frozen BK282.out 1
            have hfz17_2 := blk_frozen BK282.out 2
            have hfz17_3 := blk_frozen BK282.out 3
            have hfz17_4 := blk_frozen BK282.out 4
            have hfz17_5 := blk_frozen BK282.out 5
            have hfz17_6 := blk_frozen BK282.out 6
            have hfz17_7 := blk_frozen BK282.out 7
            have hfz17_8 := blk_frozen BK282.out 8
            go_wp2
            go_ret
            exact ⟨z155_, z86_⟩
          rw [if_pos c12] at H
          have c12b0 : decide (x3_2 < (l0_1.length : Int)) = true := decide_eq_true c12
          clear c12
          by_cases c13 : 0 ≤ x3_2
          rotate_left
          · rw [if_neg c13] at H
            exact absurd H (by simp)
          rw [if_pos c13] at H
          have c13b0 : decide (0 ≤ x3_2) = true := decide_eq_true c13
          clear c13
          by_cases c14 : ((rd_T75 l0_1 x3_2).f0) > 1099511627776
          · rw [if_pos c14] at H
            have c14b0 : decide (1099511627776 < ((rd_T75 l0_1 x3_2).f0)) = true := decide_eq_true c14
            clear c14
            obtain rfl := Option.some.inj H
            have hcz15_0 : wr.cell? ⟨gb282, 0, none⟩ = some (.string a0_0) := (blk_cell BK282.out 0).trans rfl
            have hcz15_1 : wr.cell? ⟨gb282, 1, none⟩ = some (.slice A0_1 l0_1.length c0_1) := (blk_cell BK282.out 1).trans rfl
            have hcz15_2 : wr.cell? ⟨gb282, 2, none⟩ = some (.int .i64 a0_2) := (blk_cell BK282.out 2).trans rfl
            have hcz15_3 : wr.cell? ⟨gb282, 3, none⟩ = some (.int .i64 a0_3) := (blk_cell BK282.out 3).trans rfl
            have hcz15_4 : wr.cell? ⟨gb282, 4, none⟩ = some (.int .i64 a0_4) := (blk_cell BK282.out 4).trans rfl
            have hcz15_5 : wr.cell? ⟨gb282, 5, none⟩ = some (.bool a0_5) := (blk_cell BK282.out 5).trans rfl
            have hcz15_6 : wr.cell? ⟨gb282, 6, none⟩ = some (.int .i64 a0_6) := (blk_cell BK282.out 6).trans rfl
            have hcz15_7 : wr.cell? ⟨gb282, 7, none⟩ = some (.bool a0_7) := (blk_cell BK282.out 7).trans rfl
            have hcz15_8 : wr.cell? ⟨gb282, 8, none⟩ = some (.bool a0_8) := (blk_cell BK282.out 8).trans rfl
            have hfz15_0 := blk_frozen BK282.out 0
            have hfz15_1 := blk_frozen BK282.out 1
            have hfz15_2 := blk_frozen BK282.out 2
            have hfz15_3 := blk_frozen BK282.out 3
            have hfz15_4 := blk_frozen BK282.out 4
            have hfz15_5 := blk_frozen BK282.out 5
            have hfz15_6 := blk_frozen BK282.out 6
            have hfz15_7 := blk_frozen BK282.out 7
            have hfz15_8 := blk_frozen BK282.out 8
            have p284 : 0 ≤ (x3_2 : Int) := of_decide_eq_true z178_
            have q284 : x3_2 < (l0_1.length : Int) := of_decide_eq_true z178_
            obtain ⟨ad284, e284, hx284_0, hx284_1⟩ := at_T75 HR0_1.out x3_2 p284 q284
            cases e284
            replace hx284_0 := (HB.out.cell (World.block_lt_of_cell? w _ hx284_0)).trans hx284_0
            replace hx284_1 := (HB.out.cell (World.block_lt_of_cell? w _ hx284_1)).trans hx284_1
            replace p284 := eq_true p284
            replace q284 := eq_true q284
            go_wp2
            go_ret
            exact ⟨z155_, z86_⟩
          rw [if_neg c14] at H
          have c14b0 : decide (1099511627776 < ((rd_T75 l0_1 x3_2).f0)) = false := decide_eq_false c14
          clear c14
          have H' := Aside0.mk H
          clear H
          have hcz16_0 : wr.cell? ⟨gb282, 0, none⟩ = some (.string a0_0) := (blk_cell BK282.out 0).trans rfl
          have hcz16_1 : wr.cell? ⟨gb282, 1, none⟩ = some (.slice A0_1 l0_1.length c0_1) := (blk_cell BK282.out 1).trans rfl
          have hcz16_2 : wr.cell? ⟨gb282, 2, none⟩ = some (.int .i64 a0_2) := (blk_cell BK282.out 2).trans rfl
          have hcz16_3 : wr.cell? ⟨gb282, 3, none⟩ = some (.int .i64 a0_3) := (blk_cell BK282.out 3).trans rfl
          have hcz16_4 : wr.cell? ⟨gb282, 4, none⟩ = some (.int .i64 a0_4) := (blk_cell BK282.out 4).trans rfl
          have hcz16_5 : wr.cell? ⟨gb282, 5, none⟩ = some (.bool a0_5) := (blk_cell BK282.out 5).trans rfl
          have hcz16_6 : wr.cell? ⟨gb282, 6, none⟩ = some (.int .i64 a0_6) := (blk_cell BK282.out 6).trans rfl
          have hcz16_7 : wr.cell? ⟨gb282, 7, none⟩ = some (.bool a0_7) := (blk_cell BK282.out 7).trans rfl
          have hcz16_8 : wr.cell? ⟨gb282, 8, none⟩ = some (.bool a0_8) := (blk_cell BK282.out 8).trans rfl
          have hfz16_0 := blk_frozen BK282.out 0
          have hfz16_1 := blk_frozen BK282.out 1
          have hfz16_2 := blk_frozen BK282.out 2
          have hfz16_3 := blk_frozen BK282.out 3
          have hfz16_4 := blk_frozen BK282.out 4
          have hfz16_5 := blk_frozen BK282.out 5
          have hfz16_6 := blk_frozen BK282.out 6
          have hfz16_7 := blk_frozen BK282.out 7
          have hfz16_8 := blk_frozen BK282.out 8
          have p284 : 0 ≤ (x3_2 : Int) := of_decide_eq_true z178_
          have q284 : x3_2 < (l0_1.length : Int) := of_decide_eq_true z178_
          obtain ⟨ad284, e284, hx284_0, hx284_1⟩ := at_T75 HR0_1.out x3_2 p284 q284
          cases e284
          replace hx284_0 := (HB.out.cell (World.block_lt_of_cell? w _ hx284_0)).trans hx284_0
          replace hx284_1 := (HB.out.cell (World.block_lt_of_cell? w _ hx284_1)).trans hx284_1
          replace p284 := eq_true p284
          replace q284 := eq_true q284
          go_wp2
          go_roundg k2
          case measure => have := HJ1.out; have := HK2.out; omega
          case rel => exact ⟨(wrap64 (x3_2 + 1)), z180_, H', ⟨by have := HJ1.out; have := HK2.out; omega⟩, ⟨z129_⟩, ⟨z86_⟩⟩
/-! ### regletlaw15_few: function 17 -/
mutual
def regletlaw15_few.l0 : Nat → List (S24) → Int → Int → Option (Bool)
  | 0, _, _, _ => none
  | k + 1, x0, x3, x4 => if x4 < (x0.length : Int) then (regletlaw15_few.l1 k x0 x3 x4 0) else (some (decide ((x0.length : Int) ≤ 20)))
def regletlaw15_few.l1 : Nat → List (S24) → Int → Int → Int → Option (Bool)
  | 0, _, _, _, _ => none
  | k + 1, x0, x3, x4, x5 => if 0 ≤ x4 then (if x4 < (x0.length : Int) then (if x5 < (((rd_T24 x0 x4).f0).length : Int) then (if (wrap64 (x3 + 1)) > 60 then (some false) else (if 0 ≤ x5 then ((regletlaw15_line.f k ((rd_T28 ((rd_T24 x0 x4).f0) x5).f0) ((rd_T28 ((rd_T24 x0 x4).f0) x5).f1) ((rd_T28 ((rd_T24 x0 x4).f0) x5).f2) ((rd_T28 ((rd_T24 x0 x4).f0) x5).f3) ((rd_T28 ((rd_T24 x0 x4).f0) x5).f4) ((rd_T28 ((rd_T24 x0 x4).f0) x5).f5) ((rd_T28 ((rd_T24 x0 x4).f0) x5).f6) ((rd_T28 ((rd_T24 x0 x4).f0) x5).f7) ((rd_T28 ((rd_T24 x0 x4).f0) x5).f8)).bind fun t288 => (if t288 = true then (regletlaw15_few.l1 k x0 (wrap64 (x3 + 1)) x4 (wrap64 (x5 + 1))) else (some false))) else (none))) else (regletlaw15_few.l0 k x0 x3 (wrap64 (x4 + 1)))) else (none)) else (none)
end
def regletlaw15_few.f (k : Nat) (l0 : List (S24)) : Option (Bool) := regletlaw15_few.l0 k l0 0 0
theorem regletlaw15_few.mono_l : ∀ k, (∀ y0 y1 y2, LeO (regletlaw15_few.l0 k y0 y1 y2) (regletlaw15_few.l0 (k + 1) y0 y1 y2)) ∧ (∀ y0 y1 y2 y3, LeO (regletlaw15_few.l1 k y0 y1 y2 y3) (regletlaw15_few.l1 (k + 1) y0 y1 y2 y3))
  | 0 => ⟨fun _ _ _ r h => by simp [regletlaw15_few.l0] at h, fun _ _ _ _ r h => by simp [regletlaw15_few.l1] at h⟩
  | k + 1 => by
    obtain ⟨ih0, ih1⟩ := regletlaw15_few.mono_l k
    refine ⟨?_, ?_⟩
    · intro y0 y1 y2
      unfold regletlaw15_few.l0
      repeat' first | (with_reducible first | exact ih0 _ _ _ | exact ih1 _ _ _ _ | exact regletlaw15_line.mono _ _ _ _ _ _ _ _ _ _ | exact LeO.refl _ | exact LeO.none _ | refine LeO.ite ?_ ?_ | refine LeO.bind ?_ (fun _ => ?_)) | exact ih0 _ _ _ | exact ih1 _ _ _ _ | exact regletlaw15_line.mono _ _ _ _ _ _ _ _ _ _ | exact LeO.none _ | refine LeO.ite ?_ ?_ | refine LeO.bind ?_ (fun _ => ?_)
    · intro y0 y1 y2 y3
      unfold regletlaw15_few.l1
      repeat' first | (with_reducible first | exact ih0 _ _ _ | exact ih1 _ _ _ _ | exact regletlaw15_line.mono _ _ _ _ _ _ _ _ _ _ | exact LeO.refl _ | exact LeO.none _ | refine LeO.ite ?_ ?_ | refine LeO.bind ?_ (fun _ => ?_)) | exact ih0 _ _ _ | exact ih1 _ _ _ _ | exact regletlaw15_line.mono _ _ _ _ _ _ _ _ _ _ | exact LeO.none _ | refine LeO.ite ?_ ?_ | refine LeO.bind ?_ (fun _ => ?_)
theorem regletlaw15_few.mono : ∀ a0 k, LeO (regletlaw15_few.f k a0) (regletlaw15_few.f (k + 1) a0) := by
  intro a0 k
  obtain ⟨ih0, ih1⟩ := regletlaw15_few.mono_l k
  unfold regletlaw15_few.f
  repeat' first | (with_reducible first | exact ih0 _ _ _ | exact ih1 _ _ _ _ | exact regletlaw15_line.mono _ _ _ _ _ _ _ _ _ _ | exact LeO.refl _ | exact LeO.none _ | refine LeO.ite ?_ ?_ | refine LeO.bind ?_ (fun _ => ?_)) | exact ih0 _ _ _ | exact ih1 _ _ _ _ | exact regletlaw15_line.mono _ _ _ _ _ _ _ _ _ _ | exact LeO.none _ | refine LeO.ite ?_ ?_ | refine LeO.bind ?_ (fun _ => ?_)
set_option maxHeartbeats 8000000 in
set_option maxRecDepth 100000 in
theorem regletlaw15_few.calls (k : Nat) (A0 : Option Addr) (c0 : Nat) (l0 : List (S24)) (r : Bool) (w : World) (hr0 : Kd.C k24 w A0 l0.length l0) (hc0 : l0.length ≤ c0) (h : regletlaw15_few.f k l0 = some r) :
    Calls Try.prog 17 #[.slice A0 l0.length c0] w fun e w' => e = .returned (.bool r) ∧ Below w.heap.size w w' := by
  have hu28 := Try.underlying28
  have HR0 := Aside0.mk hr0
  have HC0 := Aside0.mk hc0
  clear hr0 hc0
  have HB := Aside0.mk (Below.refl w.heap.size w)
  have H : (regletlaw15_few.l0 k l0 0 0) = some r := h
  clear h
  have H' := Aside0.mk H
  clear H
  go_enter Try.func17, Try.ntmps17
  go_wp2
  go_loopg [3, 4] k (fun kq v3 v4 w' => ∃ (x3_1 : Int) (x4_1 : Int), v3 = .int .i64 x3_1 ∧ v4 = .int .i64 x4_1 ∧ Aside0 (regletlaw15_few.l0 kq l0 x3_1 x4_1 = some r) ∧ Aside0 (kq ≤ k) ∧ Aside0 (Below w.heap.size w w'))
  case atStart => exact ⟨(0), (0), z180_, z180_, H', ⟨Nat.le_refl _⟩, ⟨z103_⟩⟩
  case round =>
    clear H'; (try clear c1)
    obtain ⟨x3_1, x4_1, rfl, rfl, HA, HK1, HB⟩ := hrel
    cases gk with
    | zero => exact absurd HA.out (by simp [regletlaw15_few.l0])
    | succ k1 =>
      have H := HA.out
      clear HA
      simp only [regletlaw15_few.l0] at H
      by_cases c2 : x4_1 < (l0.length : Int)
      rotate_left
      · rw [if_neg c2] at H
        have c2b0 : decide (x4_1 < (l0.length : Int)) = false := decide_eq_false c2
        clear c2
        obtain rfl := Option.some.inj H
        go_wp2
        go_ret
        exact ⟨z155_, z103_⟩
      rw [if_pos c2] at H
      have c2b0 : decide (x4_1 < (l0.length : Int)) = true := decide_eq_true c2
      clear c2
      have H' := Aside0.mk H
      clear H
      go_wp2
      go_loopg [3, 5] k1 (fun kq v3 v5 w' => ∃ (x3_2 : Int) (x5_2 : Int), v3 = .int .i64 x3_2 ∧ v5 = .int .i64 x5_2 ∧ Aside0 (regletlaw15_few.l1 kq l0 x3_2 x4_1 x5_2 = some r) ∧ Aside0 (kq ≤ k1) ∧ Aside0 (Below w.heap.size w w'))
      case atStart => exact ⟨(x3_1), (0), z180_, z180_, H', ⟨Nat.le_refl _⟩, ⟨z103_⟩⟩
      case round =>
        clear H'; (try clear c1); (try clear c2); (try clear c2b0); (try clear p2)
        obtain ⟨x3_2, x5_2, rfl, rfl, HA, HK2, HB⟩ := hrel
        cases gk with
        | zero => exact absurd HA.out (by simp [regletlaw15_few.l1])
        | succ k2 =>
          have H := HA.out
          clear HA
          simp only [regletlaw15_few.l1] at H
          by_cases c3 : 0 ≤ x4_1
          rotate_left
          · rw [if_neg c3] at H
            exact absurd H (by simp)
          rw [if_pos c3] at H
          have c3b0 : decide (0 ≤ x4_1) = true := decide_eq_true c3
          clear c3
          by_cases c4 : x4_1 < (l0.length : Int)
          rotate_left
          · rw [if_neg c4] at H
            exact absurd H (by simp)
          rw [if_pos c4] at H
          have c4b0 : decide (x4_1 < (l0.length : Int)) = true := decide_eq_true c4
          clear c4
          by_cases c5 : x5_2 < (((rd_T24 l0 x4_1).f0).length : Int)
          rotate_left
          · rw [if_neg c5] at H
            have c5b0 : decide (x5_2 < (((rd_T24 l0 x4_1).f0).length : Int)) = false := decide_eq_false c5
            clear c5
            have H' := Aside0.mk H
            clear H
            have p285 : 0 ≤ (x4_1 : Int) := of_decide_eq_true z178_
            have q285 : x4_1 < (l0.length : Int) := of_decide_eq_true z178_
            obtain ⟨ad285, A285_0, c285_0, e285, hx285_0, hl285_0, hi285_0⟩ := at_T24 HR0.out x4_1 p285 q285
            cases e285
            replace hx285_0 := (HB.out.cell (World.block_lt_of_cell? w _ hx285_0)).trans hx285_0
            have HR285_0 := Aside0.mk hi285_0
            have HC285_0 := Aside0.mk hl285_0
            clear hi285_0 hl285_0
            replace p285 := eq_true p285
            replace q285 := eq_true q285
            go_wp2
            go_roundg k2
            case measure => have := HK1.out; have := HK2.out; omega
            case rel => exact ⟨(x3_2), (wrap64 (x4_1 + 1)), z180_, z180_, H', ⟨z182_⟩, ⟨z103_⟩⟩
          rw [if_pos c5] at H
          have c5b0 : decide (x5_2 < (((rd_T24 l0 x4_1).f0).length : Int)) = true := decide_eq_true c5
          clear c5
          by_cases c6 : (wrap64 (x3_2 + 1)) > 60
          · rw [if_pos c6] at H
            have c6b0 : decide (60 < (wrap64 (x3_2 + 1))) = true := decide_eq_true c6
            clear c6
            obtain rfl := Option.some.inj H
            have p285 : 0 ≤ (x4_1 : Int) := of_decide_eq_true z178_
            have q285 : x4_1 < (l0.length : Int) := of_decide_eq_true z178_
            obtain ⟨ad285, A285_0, c285_0, e285, hx285_0, hl285_0, hi285_0⟩ := at_T24 HR0.out x4_1 p285 q285
            cases e285
            replace hx285_0 := (HB.out.cell (World.block_lt_of_cell? w _ hx285_0)).trans hx285_0
            have HR285_0 := Aside0.mk hi285_0
            have HC285_0 := Aside0.mk hl285_0
            clear hi285_0 hl285_0
            replace p285 := eq_true p285
            replace q285 := eq_true q285
            go_wp2
            go_ret
            exact ⟨z155_, z103_⟩
          rw [if_neg c6] at H
          have c6b0 : decide (60 < (wrap64 (x3_2 + 1))) = false := decide_eq_false c6
          clear c6
          by_cases c7 : 0 ≤ x5_2
          rotate_left
          · rw [if_neg c7] at H
            exact absurd H (by simp)
          rw [if_pos c7] at H
          have c7b0 : decide (0 ≤ x5_2) = true := decide_eq_true c7
          clear c7
          replace H := Option.bind_eq_some_iff.mp H
          obtain ⟨t288, A80, H⟩ := H
          replace H : (if t288 = true then (regletlaw15_few.l1 k2 l0 (wrap64 (x3_2 + 1)) x4_1 (wrap64 (x5_2 + 1))) else (some false)) = some r := H
          have A8 := Aside0.mk A80
          clear A80
          by_cases c9 : t288 = true
          rotate_left
          · replace c9 := Bool.eq_false_iff.mpr c9
            subst c9
            have H1 : (some false) = some r := by rw [if_neg (show ¬ (false = true) by decide)] at H; exact H
            clear H
            have H := H1
            clear H1
            obtain rfl := Option.some.inj H
            have p285 : 0 ≤ (x4_1 : Int) := of_decide_eq_true z178_
            have q285 : x4_1 < (l0.length : Int) := of_decide_eq_true z178_
            obtain ⟨ad285, A285_0, c285_0, e285, hx285_0, hl285_0, hi285_0⟩ := at_T24 HR0.out x4_1 p285 q285
            cases e285
            replace hx285_0 := (HB.out.cell (World.block_lt_of_cell? w _ hx285_0)).trans hx285_0
            have HR285_0 := Aside0.mk hi285_0
            have HC285_0 := Aside0.mk hl285_0
            clear hi285_0 hl285_0
            replace p285 := eq_true p285
            replace q285 := eq_true q285
            have p286 : 0 ≤ (x4_1 : Int) := of_decide_eq_true z178_
            have q286 : x4_1 < (l0.length : Int) := of_decide_eq_true z178_
            obtain ⟨ad286, A286_0, c286_0, e286, hx286_0, hl286_0, hi286_0⟩ := at_T24 HR0.out x4_1 p286 q286
            obtain rfl : ad285 = ad286 := (by injection e286)
            replace hx286_0 := (HB.out.cell (World.block_lt_of_cell? w _ hx286_0)).trans hx286_0
            have HR286_0 := Aside0.mk hi286_0
            have HC286_0 := Aside0.mk hl286_0
            clear hi286_0 hl286_0
            replace p286 := eq_true p286
            replace q286 := eq_true q286
            have ea_ := Option.some.inj (hx285_0.symm.trans hx286_0)
            injection ea_ with ea_ en_ ec_
            subst ea_
            subst ec_
            clear en_
            have p287 : 0 ≤ (x5_2 : Int) := of_decide_eq_true z178_
            have q287 : x5_2 < (((rd_T24 l0 x4_1).f0).length : Int) := of_decide_eq_true z178_
            obtain ⟨ad287, A287_1, c287_1, e287, hx287_0, hx287_1, hx287_2, hx287_3, hx287_4, hx287_5, hx287_6, hx287_7, hx287_8, hl287_1, hi287_1⟩ := at_T28 HR286_0.out x5_2 p287 q287
            cases e287
            replace hx287_0 := (HB.out.cell (World.block_lt_of_cell? w _ hx287_0)).trans hx287_0
            replace hx287_1 := (HB.out.cell (World.block_lt_of_cell? w _ hx287_1)).trans hx287_1
            replace hx287_2 := (HB.out.cell (World.block_lt_of_cell? w _ hx287_2)).trans hx287_2
            replace hx287_3 := (HB.out.cell (World.block_lt_of_cell? w _ hx287_3)).trans hx287_3
            replace hx287_4 := (HB.out.cell (World.block_lt_of_cell? w _ hx287_4)).trans hx287_4
            replace hx287_5 := (HB.out.cell (World.block_lt_of_cell? w _ hx287_5)).trans hx287_5
            replace hx287_6 := (HB.out.cell (World.block_lt_of_cell? w _ hx287_6)).trans hx287_6
            replace hx287_7 := (HB.out.cell (World.block_lt_of_cell? w _ hx287_7)).trans hx287_7
            replace hx287_8 := (HB.out.cell (World.block_lt_of_cell? w _ hx287_8)).trans hx287_8
            have HR287_1 := Aside0.mk hi287_1
            have HC287_1 := Aside0.mk hl287_1
            clear hi287_1 hl287_1
            replace p287 := eq_true p287
            replace q287 := eq_true q287
            go_wp2_with (first | (go_at_call 12; (with_reducible refine (regletlaw15_line.calls k2 ((rd_T28 ((rd_T24 l0 x4_1).f0) x5_2).f0) _ _ ((rd_T28 ((rd_T24 l0 x4_1).f0) x5_2).f1) ((rd_T28 ((rd_T24 l0 x4_1).f0) x5_2).f2) ((rd_T28 ((rd_T24 l0 x4_1).f0) x5_2).f3) ((rd_T28 ((rd_T24 l0 x4_1).f0) x5_2).f4) ((rd_T28 ((rd_T24 l0 x4_1).f0) x5_2).f5) ((rd_T28 ((rd_T24 l0 x4_1).f0) x5_2).f6) ((rd_T28 ((rd_T24 l0 x4_1).f0) x5_2).f7) ((rd_T28 ((rd_T24 l0 x4_1).f0) x5_2).f8) false _ ?side1 ?side2 A8.out).mono ?_); (case side1 => exact z62_); (case side2 => exact HC287_1.out); rintro e w11 ⟨rfl, hb⟩; replace HB := Aside0.mk (below_step z103_ hb); (try clear hb); (try clear hb2); (try clear hk); (try clear hi)))
            go_ret
            exact ⟨z155_, z103_⟩
          subst c9
          have H1 : (regletlaw15_few.l1 k2 l0 (wrap64 (x3_2 + 1)) x4_1 (wrap64 (x5_2 + 1))) = some r := by rw [if_pos rfl] at H; exact H
          clear H
          have H := H1
          clear H1
          have H' := Aside0.mk H
          clear H
          have p285 : 0 ≤ (x4_1 : Int) := of_decide_eq_true z178_
          have q285 : x4_1 < (l0.length : Int) := of_decide_eq_true z178_
          obtain ⟨ad285, A285_0, c285_0, e285, hx285_0, hl285_0, hi285_0⟩ := at_T24 HR0.out x4_1 p285 q285
          cases e285
          replace hx285_0 := (HB.out.cell (World.block_lt_of_cell? w _ hx285_0)).trans hx285_0
          have HR285_0 := Aside0.mk hi285_0
          have HC285_0 := Aside0.mk hl285_0
          clear hi285_0 hl285_0
          replace p285 := eq_true p285
          replace q285 := eq_true q285
          have p286 : 0 ≤ (x4_1 : Int) := of_decide_eq_true z178_
          have q286 : x4_1 < (l0.length : Int) := of_decide_eq_true z178_
          obtain ⟨ad286, A286_0, c286_0, e286, hx286_0, hl286_0, hi286_0⟩ := at_T24 HR0.out x4_1 p286 q286
          obtain rfl : ad285 = ad286 := (by injection e286)
          replace hx286_0 := (HB.out.cell (World.block_lt_of_cell? w _ hx286_0)).trans hx286_0
          have HR286_0 := Aside0.mk hi286_0
          have HC286_0 := Aside0.mk hl286_0
          clear hi286_0 hl286_0
          replace p286 := eq_true p286
          replace q286 := eq_true q286
          have ea_ := Option.some.inj (hx285_0.symm.trans hx286_0)
          injection ea_ with ea_ en_ ec_
          subst ea_
          subst ec_
          clear en_
          have p287 : 0 ≤ (x5_2 : Int) := of_decide_eq_true z178_
          have q287 : x5_2 < (((rd_T24 l0 x4_1).f0).length : Int) := of_decide_eq_true z178_
          obtain ⟨ad287, A287_1, c287_1, e287, hx287_0, hx287_1, hx287_2, hx287_3, hx287_4, hx287_5, hx287_6, hx287_7, hx287_8, hl287_1, hi287_1⟩ := at_T28 HR286_0.out x5_2 p287 q287
          cases e287
          replace hx287_0 := (HB.out.cell (World.block_lt_of_cell? w _ hx287_0)).trans hx287_0
          replace hx287_1 := (HB.out.cell (World.block_lt_of_cell? w _ hx287_1)).trans hx287_1
          replace hx287_2 := (HB.out.cell (World.block_lt_of_cell? w _ hx287_2)).trans hx287_2
          replace hx287_3 := (HB.out.cell (World.block_lt_of_cell? w _ hx287_3)).trans hx287_3
          replace hx287_4 := (HB.out.cell (World.block_lt_of_cell? w _ hx287_4)).trans hx287_4
          replace hx287_5 := (HB.out.cell (World.block_lt_of_cell? w _ hx287_5)).trans hx287_5
          replace hx287_6 := (HB.out.cell (World.block_lt_of_cell? w _ hx287_6)).trans hx287_6
          replace hx287_7 := (HB.out.cell (World.block_lt_of_cell? w _ hx287_7)).trans hx287_7
          replace hx287_8 := (HB.out.cell (World.block_lt_of_cell? w _ hx287_8)).trans hx287_8
          have HR287_1 := Aside0.mk hi287_1
          have HC287_1 := Aside0.mk hl287_1
          clear hi287_1 hl287_1
          replace p287 := eq_true p287
          replace q287 := eq_true q287
          go_wp2_with (first | (go_at_call 12; (with_reducible refine (regletlaw15_line.calls k2 ((rd_T28 ((rd_T24 l0 x4_1).f0) x5_2).f0) _ _ ((rd_T28 ((rd_T24 l0 x4_1).f0) x5_2).f1) ((rd_T28 ((rd_T24 l0 x4_1).f0) x5_2).f2) ((rd_T28 ((rd_T24 l0 x4_1).f0) x5_2).f3) ((rd_T28 ((rd_T24 l0 x4_1).f0) x5_2).f4) ((rd_T28 ((rd_T24 l0 x4_1).f0) x5_2).f5) ((rd_T28 ((rd_T24 l0 x4_1).f0) x5_2).f6) ((rd_T28 ((rd_T24 l0 x4_1).f0) x5_2).f7) ((rd_T28 ((rd_T24 l0 x4_1).f0) x5_2).f8) true _ ?side1 ?side2 A8.out).mono ?_); (case side1 => exact z62_); (case side2 => exact HC287_1.out); rintro e w10 ⟨rfl, hb⟩; replace HB := Aside0.mk (below_step z103_ hb); (try clear hb); (try clear hb2); (try clear hk); (try clear hi)))
          go_roundg k2
          case measure => have := HK1.out; have := HK2.out; omega
          case rel => exact ⟨(wrap64 (x3_2 + 1)), (wrap64 (x5_2 + 1)), z180_, z180_, H', ⟨z182_⟩, ⟨z103_⟩⟩
end Go.Proofs.Ytiabffkfabmlpaa.PLocateBack
