-- WRITTEN BY wip/xprint.py of this repo, over the kit's print; functions the print does not take are by hand
import Derived.Test.YtiabffkfabmlpaaPLocateBackx0
import Derived.Test.YtiabffkfabmlpaaPLocateBackx11
namespace Go.Proofs.Ytiabffkfabmlpaa.PLocateBack
open Go.RowKit Go.Proofs.YtiabffkfabmlpaaW.PrintWords Go.Proofs.YtiabffkfabmlpaaW.PrintLast Go.Proofs.YtiabffkfabmlpaaW.PrintMore
attribute [local go_sem] max2_int min2_int max_two min_two max_three min_three max_four min_four   -- for this text's walks alone
set_option linter.unusedVariables false
set_option linter.unusedSimpArgs false
/-! ### locate_Line: function 22 -/
mutual
def locate_Line.l0 : Nat → Int → Int → Int → Int → Bool → List (S24) → Int → Int → Option (Int × Int × Int × Bool)
  | 0, _, _, _, _, _, _, _, _ => none
  | k + 1, x1, x8, x9, x10, x11, x18, x19, x20 => if x20 < x19 then (if 0 ≤ x20 then (if x20 < (x18.length : Int) then (locate_Line.l1 k x1 x8 x9 x10 x11 x20 x18 x19 x20 ((rd_T24 x18 x20).f0) (((rd_T24 x18 x20).f0).length : Int) 0) else (none)) else (none)) else (if x1 = 0 then (if x11 = true then (some (x8, x9, x10, true)) else (some (0, 0, 0, false))) else (some (0, 0, 0, false)))
def locate_Line.l1 : Nat → Int → Int → Int → Int → Bool → Int → List (S24) → Int → Int → List (S28) → Int → Int → Option (Int × Int × Int × Bool)
  | 0, _, _, _, _, _, _, _, _, _, _, _, _ => none
  | k + 1, x1, x8, x9, x10, x11, x12, x18, x19, x20, x26, x27, x28 => if x28 < x27 then (if 0 ≤ x28 then (if x28 < (x26.length : Int) then (if x1 < (((rd_T28 x26 x28).f0).size : Int) then (some (x12, x28, x1, true)) else (locate_Line.l1 k (wrap64 (x1 - (((rd_T28 x26 x28).f0).size : Int))) x12 x28 (((rd_T28 x26 x28).f0).size : Int) true x12 x18 x19 x20 x26 x27 (wrap64 (x28 + 1)))) else (none)) else (none)) else (locate_Line.l0 k x1 x8 x9 x10 x11 x18 x19 (wrap64 (x20 + 1)))
end
def locate_Line.f (k : Nat) (l0 : List (S24)) (a1 : Int) : Option (Int × Int × Int × Bool) := if a1 < 0 then (some (0, 0, 0, false)) else (locate_Line.l0 k a1 0 0 0 false l0 (l0.length : Int) 0)
theorem locate_Line.mono_l : ∀ k, (∀ y0 y1 y2 y3 y4 y5 y6 y7, LeO (locate_Line.l0 k y0 y1 y2 y3 y4 y5 y6 y7) (locate_Line.l0 (k + 1) y0 y1 y2 y3 y4 y5 y6 y7)) ∧ (∀ y0 y1 y2 y3 y4 y5 y6 y7 y8 y9 y10 y11, LeO (locate_Line.l1 k y0 y1 y2 y3 y4 y5 y6 y7 y8 y9 y10 y11) (locate_Line.l1 (k + 1) y0 y1 y2 y3 y4 y5 y6 y7 y8 y9 y10 y11))
  | 0 => ⟨fun _ _ _ _ _ _ _ _ r h => by simp [locate_Line.l0] at h, fun _ _ _ _ _ _ _ _ _ _ _ _ r h => by simp [locate_Line.l1] at h⟩
  | k + 1 => by
    obtain ⟨ih0, ih1⟩ := locate_Line.mono_l k
    refine ⟨?_, ?_⟩
    · intro y0 y1 y2 y3 y4 y5 y6 y7
      unfold locate_Line.l0
      repeat' first | (with_reducible first | exact ih0 _ _ _ _ _ _ _ _ | exact ih1 _ _ _ _ _ _ _ _ _ _ _ _ | exact LeO.refl _ | exact LeO.none _ | refine LeO.ite ?_ ?_ | refine LeO.bind ?_ (fun _ => ?_)) | exact ih0 _ _ _ _ _ _ _ _ | exact ih1 _ _ _ _ _ _ _ _ _ _ _ _ | exact LeO.none _ | refine LeO.ite ?_ ?_ | refine LeO.bind ?_ (fun _ => ?_)
    · intro y0 y1 y2 y3 y4 y5 y6 y7 y8 y9 y10 y11
      unfold locate_Line.l1
      repeat' first | (with_reducible first | exact ih0 _ _ _ _ _ _ _ _ | exact ih1 _ _ _ _ _ _ _ _ _ _ _ _ | exact LeO.refl _ | exact LeO.none _ | refine LeO.ite ?_ ?_ | refine LeO.bind ?_ (fun _ => ?_)) | exact ih0 _ _ _ _ _ _ _ _ | exact ih1 _ _ _ _ _ _ _ _ _ _ _ _ | exact LeO.none _ | refine LeO.ite ?_ ?_ | refine LeO.bind ?_ (fun _ => ?_)
theorem locate_Line.mono : ∀ a0 a1 k, LeO (locate_Line.f k a0 a1) (locate_Line.f (k + 1) a0 a1) := by
  intro a0 a1 k
  obtain ⟨ih0, ih1⟩ := locate_Line.mono_l k
  unfold locate_Line.f
  repeat' first | (with_reducible first | exact ih0 _ _ _ _ _ _ _ _ | exact ih1 _ _ _ _ _ _ _ _ _ _ _ _ | exact LeO.refl _ | exact LeO.none _ | refine LeO.ite ?_ ?_ | refine LeO.bind ?_ (fun _ => ?_)) | exact ih0 _ _ _ _ _ _ _ _ | exact ih1 _ _ _ _ _ _ _ _ _ _ _ _ | exact LeO.none _ | refine LeO.ite ?_ ?_ | refine LeO.bind ?_ (fun _ => ?_)
set_option maxHeartbeats 8000000 in
set_option maxRecDepth 100000 in
theorem locate_Line.calls (k : Nat) (A0 : Option Addr) (c0 : Nat) (l0 : List (S24)) (a1 : Int) (r1 : Int) (r2 : Int) (r3 : Int) (r4 : Bool) (w : World) (hr0 : Kd.C k24 w A0 l0.length l0) (hc0 : l0.length ≤ c0) (h : locate_Line.f k l0 a1 = some (r1, r2, r3, r4)) :
    Calls Try.prog 22 #[.slice A0 l0.length c0, .int .i64 a1] w fun e w' => e = .returned (.tuple #[.int .i64 r1, .int .i64 r2, .int .i64 r3, .bool r4]) ∧ Below w.heap.size w w' := by
  have hu24 := Try.underlying24
  have hu28 := Try.underlying28
  have HR0 := Aside0.mk hr0
  have HC0 := Aside0.mk hc0
  clear hr0 hc0
  have HB := Aside0.mk (Below.refl w.heap.size w)
  have H : (if a1 < 0 then (some (0, 0, 0, false)) else (locate_Line.l0 k a1 0 0 0 false l0 (l0.length : Int) 0)) = some (r1, r2, r3, r4) := h
  clear h
  by_cases c3 : a1 < 0
  · rw [if_pos c3] at H
    have c3b0 : decide (a1 < 0) = true := decide_eq_true c3
    clear c3
    simp only [Option.some.injEq, Prod.mk.injEq] at H
    obtain ⟨rfl, rfl, rfl, rfl⟩ := H
    go_enter Try.func22, Try.ntmps22
    go_wp2
    repeat (go_quiet (fail); try go_wp2)
    refine bodyPost_ret (results_list (rs := [.tmp 4, .tmp 5, .tmp 6, .tmp 7]) rfl (by simp) (.tmp (.tmp (.tmp (.tmp .nil))))) rfl ?_
    exact ⟨z155_, z103_⟩
  rw [if_neg c3] at H
  have c3b0 : decide (a1 < 0) = false := decide_eq_false c3
  clear c3
  have H' := Aside0.mk H
  clear H
  go_enter Try.func22, Try.ntmps22
  go_wp2
  repeat (go_quiet (fail); try go_wp2)
  go_loopg [1, 8, 9, 10, 11, 20] k (fun kq v1 v8 v9 v10 v11 v20 w' => ∃ (x1_1 : Int) (x8_1 : Int) (x9_1 : Int) (x10_1 : Int) (x11_1 : Bool) (x20_1 : Int), v1 = .int .i64 x1_1 ∧ v8 = .int .i64 x8_1 ∧ v9 = .int .i64 x9_1 ∧ v10 = .int .i64 x10_1 ∧ v11 = .bool x11_1 ∧ v20 = .int .i64 x20_1 ∧ Aside0 (locate_Line.l0 kq x1_1 x8_1 x9_1 x10_1 x11_1 l0 (l0.length : Int) x20_1 = some (r1, r2, r3, r4)) ∧ Aside0 (kq ≤ k) ∧ Aside0 (Below w.heap.size w w'))
  case atStart => exact ⟨(a1), (0), (0), (0), (false), (0), z180_, z180_, z180_, z180_, z180_, z180_, H', ⟨Nat.le_refl _⟩, ⟨z103_⟩⟩
  case round =>
    clear H'; (try clear c2); (try clear p2); (try clear c3); (try clear c3b0)
    obtain ⟨x1_1, x8_1, x9_1, x10_1, x11_1, x20_1, rfl, rfl, rfl, rfl, rfl, rfl, HA, HK1, HB⟩ := hrel
    cases gk with
    | zero => exact absurd HA.out (by simp [locate_Line.l0])
    | succ k1 =>
      have H := HA.out
      clear HA
      simp only [locate_Line.l0] at H
      by_cases c4 : x20_1 < (l0.length : Int)
      rotate_left
      · rw [if_neg c4] at H
        have c4b0 : decide (x20_1 < (l0.length : Int)) = false := decide_eq_false c4
        clear c4
        by_cases c19 : x1_1 = 0
        rotate_left
        · rw [if_neg c19] at H
          have c19b0 : (x1_1 == 0) = false := beq_eq_false_iff_ne.mpr c19
          have c19b1 : (x1_1 != 0) = true := bne_iff_ne.mpr c19
          simp only [Option.some.injEq, Prod.mk.injEq] at H
          obtain ⟨rfl, rfl, rfl, rfl⟩ := H
          go_wp2
          repeat (go_quiet (fail); try go_wp2)
          refine bodyPost_ret (results_list (rs := [.tmp 4, .tmp 5, .tmp 6, .tmp 7]) rfl (by simp) (.tmp (.tmp (.tmp (.tmp .nil))))) rfl ?_
          exact ⟨z155_, z103_⟩
        rw [if_pos c19] at H
        have c19b0 : (x1_1 == 0) = true := beq_iff_eq.mpr c19
        have c19b1 : (x1_1 != 0) = false := bne_eq_false_iff_eq.mpr c19
        clear c19
        by_cases c20 : x11_1 = true
        · subst c20
          have H1 : (some (x8_1, x9_1, x10_1, true)) = some (r1, r2, r3, r4) := by rw [if_pos rfl] at H; exact H
          clear H
          have H := H1
          clear H1
          simp only [Option.some.injEq, Prod.mk.injEq] at H
          obtain ⟨rfl, rfl, rfl, rfl⟩ := H
          go_wp2
          repeat (go_quiet (fail); try go_wp2)
          refine bodyPost_ret (results_list (rs := [.tmp 4, .tmp 5, .tmp 6, .tmp 7]) rfl (by simp) (.tmp (.tmp (.tmp (.tmp .nil))))) rfl ?_
          exact ⟨z155_, z103_⟩
        replace c20 := Bool.eq_false_iff.mpr c20
        subst c20
        have H1 : (some (0, 0, 0, false)) = some (r1, r2, r3, r4) := by rw [if_neg (show ¬ (false = true) by decide)] at H; exact H
        clear H
        have H := H1
        clear H1
        simp only [Option.some.injEq, Prod.mk.injEq] at H
        obtain ⟨rfl, rfl, rfl, rfl⟩ := H
        go_wp2
        repeat (go_quiet (fail); try go_wp2)
        refine bodyPost_ret (results_list (rs := [.tmp 4, .tmp 5, .tmp 6, .tmp 7]) rfl (by simp) (.tmp (.tmp (.tmp (.tmp .nil))))) rfl ?_
        exact ⟨z155_, z103_⟩
      rw [if_pos c4] at H
      have c4b0 : decide (x20_1 < (l0.length : Int)) = true := decide_eq_true c4
      clear c4
      by_cases c5 : 0 ≤ x20_1
      rotate_left
      · rw [if_neg c5] at H
        exact absurd H (by simp)
      rw [if_pos c5] at H
      have c5b0 : decide (0 ≤ x20_1) = true := decide_eq_true c5
      clear c5
      by_cases c6 : x20_1 < (l0.length : Int)
      rotate_left
      · rw [if_neg c6] at H
        exact absurd H (by simp)
      rw [if_pos c6] at H
      have c6b0 : decide (x20_1 < (l0.length : Int)) = true := decide_eq_true c6
      clear c6
      have H' := Aside0.mk H
      clear H
      have p289 : 0 ≤ (x20_1 : Int) := of_decide_eq_true z178_
      have q289 : x20_1 < (l0.length : Int) := of_decide_eq_true z178_
      obtain ⟨ad289, A289_0, c289_0, e289, hx289_0, hl289_0, hi289_0⟩ := at_T24 HR0.out x20_1 p289 q289
      cases e289
      replace hx289_0 := (HB.out.cell (World.block_lt_of_cell? w _ hx289_0)).trans hx289_0
      have HR289_0 := Aside0.mk hi289_0
      have HC289_0 := Aside0.mk hl289_0
      clear hi289_0 hl289_0
      replace p289 := eq_true p289
      replace q289 := eq_true q289
      go_wp2_with (first | ((with_reducible refine gate_dst (N := 13) rfl ?_); refine box_event ?hg (N := 13) ?hd (cs := #[.slice none 0 0]) (t := 24) ?hr ?_; (case hd => rfl); (case hg => rfl); (case hr => exact z181_); intro gb290 hg w7 hbox hb; have BK290 := Aside0.mk (hbox); have GW290 := Aside0.mk ((z74_ : w.heap.size ≤ gb290)); have GE290 := Aside0.mk ((z74_ : w.heap.size ≤ gb290)); replace HB := Aside0.mk (below_step z103_ hb); clear hb hbox hg; have hcz8_0 : w7.cell? ⟨gb290, 0, none⟩ = some (.slice none 0 0) := (blk_cell BK290.out 0).trans rfl; have hfz8_0 := blk_frozen BK290.out 0))
      repeat (go_quiet (first | ((with_reducible refine gate_dst (N := 13) rfl ?_); refine box_event ?hg (N := 13) ?hd (cs := #[.slice none 0 0]) (t := 24) ?hr ?_; (case hd => rfl); (case hg => rfl); (case hr => exact z181_); intro gb290 hg w7 hbox hb; have BK290 := Aside0.mk (hbox); have GW290 := Aside0.mk ((z74_ : w.heap.size ≤ gb290)); have GE290 := Aside0.mk ((z74_ : w.heap.size ≤ gb290)); replace HB := Aside0.mk (below_step z103_ hb); clear hb hbox hg; have hcz8_0 : w7.cell? ⟨gb290, 0, none⟩ = some (.slice none 0 0) := (blk_cell BK290.out 0).trans rfl; have hfz8_0 := blk_frozen BK290.out 0)); try go_wp2_with (first | ((with_reducible refine gate_dst (N := 13) rfl ?_); refine box_event ?hg (N := 13) ?hd (cs := #[.slice none 0 0]) (t := 24) ?hr ?_; (case hd => rfl); (case hg => rfl); (case hr => exact z181_); intro gb290 hg w7 hbox hb; have BK290 := Aside0.mk (hbox); have GW290 := Aside0.mk ((z74_ : w.heap.size ≤ gb290)); have GE290 := Aside0.mk ((z74_ : w.heap.size ≤ gb290)); replace HB := Aside0.mk (below_step z103_ hb); clear hb hbox hg; have hcz8_0 : w7.cell? ⟨gb290, 0, none⟩ = some (.slice none 0 0) := (blk_cell BK290.out 0).trans rfl; have hfz8_0 := blk_frozen BK290.out 0)))
      go_loopg [1, 8, 9, 10, 11, 28] k1 (fun kq v1 v8 v9 v10 v11 v28 w' => ∃ (x1_2 : Int) (x8_2 : Int) (x9_2 : Int) (x10_2 : Int) (x11_2 : Bool) (x28_2 : Int), v1 = .int .i64 x1_2 ∧ v8 = .int .i64 x8_2 ∧ v9 = .int .i64 x9_2 ∧ v10 = .int .i64 x10_2 ∧ v11 = .bool x11_2 ∧ v28 = .int .i64 x28_2 ∧ Aside0 (locate_Line.l1 kq x1_2 x8_2 x9_2 x10_2 x11_2 x20_1 l0 (l0.length : Int) x20_1 ((rd_T24 l0 x20_1).f0) (((rd_T24 l0 x20_1).f0).length : Int) x28_2 = some (r1, r2, r3, r4)) ∧ Aside0 (kq ≤ k1) ∧ Aside0 (w'.heap[gb290]? = some (.cells #[(.slice A289_0 ((rd_T24 l0 x20_1).f0).length c289_0)] 24 (0, 0))) ∧ Aside0 (Below w.heap.size w w'))
      case atStart => exact ⟨(x1_1), (x8_1), (x9_1), (x10_1), (x11_1), (0), z180_, z180_, z180_, z180_, z180_, z180_, H', ⟨Nat.le_refl _⟩, ⟨y26_ BK290.out⟩, ⟨z87_⟩⟩
      case round =>
        clear H'; (try clear c2); (try clear p2); (try clear q2); (try clear hx2); (try clear c3); (try clear c3b0); (try clear c4); (try clear c4b0); (try clear c5); (try clear c5b0); (try clear c6); (try clear c6b0); (try clear hcz8_0); (try clear hfz8_0); (try clear hx289_0); (try clear p2); (try clear p289); (try clear q289)
        obtain ⟨x1_2, x8_2, x9_2, x10_2, x11_2, x28_2, rfl, rfl, rfl, rfl, rfl, rfl, HA, HK2, BK290, HB⟩ := hrel
        cases gk with
        | zero => exact absurd HA.out (by simp [locate_Line.l1])
        | succ k2 =>
          have H := HA.out
          clear HA
          simp only [locate_Line.l1] at H
          by_cases c9 : x28_2 < (((rd_T24 l0 x20_1).f0).length : Int)
          rotate_left
          · rw [if_neg c9] at H
            have c9b0 : decide (x28_2 < (((rd_T24 l0 x20_1).f0).length : Int)) = false := decide_eq_false c9
            clear c9
            have H' := Aside0.mk H
            clear H
            go_wp2
            repeat (go_quiet (fail); try go_wp2)
            go_roundg k2
            case measure => have := HK1.out; have := HK2.out; omega
            case rel => exact ⟨(x1_2), (x8_2), (x9_2), (x10_2), (x11_2), (wrap64 (x20_1 + 1)), z180_, z180_, z180_, z180_, z180_, z180_, H', ⟨z182_⟩, ⟨z87_⟩⟩
          rw [if_pos c9] at H
          have c9b0 : decide (x28_2 < (((rd_T24 l0 x20_1).f0).length : Int)) = true := decide_eq_true c9
          clear c9
          by_cases c10 : 0 ≤ x28_2
          rotate_left
          · rw [if_neg c10] at H
            exact absurd H (by simp)
          rw [if_pos c10] at H
          have c10b0 : decide (0 ≤ x28_2) = true := decide_eq_true c10
          clear c10
          by_cases c11 : x28_2 < (((rd_T24 l0 x20_1).f0).length : Int)
          rotate_left
          · rw [if_neg c11] at H
            exact absurd H (by simp)
          rw [if_pos c11] at H
          have c11b0 : decide (x28_2 < (((rd_T24 l0 x20_1).f0).length : Int)) = true := decide_eq_true c11
          clear c11
          by_cases c12 : x1_2 < (((rd_T28 ((rd_T24 l0 x20_1).f0) x28_2).f0).size : Int)
          · rw [if_pos c12] at H
            have c12b0 : decide (x1_2 < (((rd_T28 ((rd_T24 l0 x20_1).f0) x28_2).f0).size : Int)) = true := decide_eq_true c12
            clear c12
            simp only [Option.some.injEq, Prod.mk.injEq] at H
            obtain ⟨rfl, rfl, rfl, rfl⟩ := H
            have p291 : 0 ≤ (x28_2 : Int) := of_decide_eq_true z178_
            have q291 : x28_2 < (((rd_T24 l0 x20_1).f0).length : Int) := of_decide_eq_true z178_
            obtain ⟨ad291, A291_1, c291_1, e291, hx291_0, hx291_1, hx291_2, hx291_3, hx291_4, hx291_5, hx291_6, hx291_7, hx291_8, hl291_1, hi291_1⟩ := at_T28 HR289_0.out x28_2 p291 q291
            cases e291
            replace hx291_0 := (HB.out.cell (World.block_lt_of_cell? w _ hx291_0)).trans hx291_0
            replace hx291_1 := (HB.out.cell (World.block_lt_of_cell? w _ hx291_1)).trans hx291_1
            replace hx291_2 := (HB.out.cell (World.block_lt_of_cell? w _ hx291_2)).trans hx291_2
            replace hx291_3 := (HB.out.cell (World.block_lt_of_cell? w _ hx291_3)).trans hx291_3
            replace hx291_4 := (HB.out.cell (World.block_lt_of_cell? w _ hx291_4)).trans hx291_4
            replace hx291_5 := (HB.out.cell (World.block_lt_of_cell? w _ hx291_5)).trans hx291_5
            replace hx291_6 := (HB.out.cell (World.block_lt_of_cell? w _ hx291_6)).trans hx291_6
            replace hx291_7 := (HB.out.cell (World.block_lt_of_cell? w _ hx291_7)).trans hx291_7
            replace hx291_8 := (HB.out.cell (World.block_lt_of_cell? w _ hx291_8)).trans hx291_8
            have HR291_1 := Aside0.mk hi291_1
            have HC291_1 := Aside0.mk hl291_1
            clear hi291_1 hl291_1
            replace p291 := eq_true p291
            replace q291 := eq_true q291
            go_wp2_with (first | ((with_reducible refine gate_dst (N := 15) rfl ?_); refine box_event ?hg (N := 15) ?hd (cs := #[.string (⟨#[]⟩ : ByteArray), .slice none 0 0, .int .i64 0, .int .i64 0, .int .i64 0, .bool false, .int .i64 0, .bool false, .bool false]) (t := 28) ?hr ?_; (case hd => rfl); (case hg => rfl); (case hr => exact z181_); intro gb292 hg w13 hbox hb; have BK292 := Aside0.mk (hbox); have GW292 := Aside0.mk ((z46_ : w.heap.size ≤ gb292)); have GE292 := Aside0.mk ((z46_ : w.heap.size ≤ gb292)); replace HB := Aside0.mk (below_step z87_ hb); have NB290_292 := Aside0.mk ((z28_ : gb290 ≠ gb292)); have NB292_290 := Aside0.mk ((z27_ : gb292 ≠ gb290)); replace BK290 := Aside0.mk (blk_below (g := gb290) (o := .cells #[.slice (some ad291) ((rd_T24 l0 x20_1).f0).length c289_0] 24 (0, 0)) z130_ hb); clear hb hbox hg; have hnb14 := NB292_290.out; have hnc14 := NB290_292.out; have hcz15_0 : w13.cell? ⟨gb292, 0, none⟩ = some (.string (⟨#[]⟩ : ByteArray)) := (blk_cell BK292.out 0).trans rfl; have hcz15_1 : w13.cell? ⟨gb292, 1, none⟩ = some (.slice none 0 0) := (blk_cell BK292.out 1).trans rfl; have hcz15_2 : w13.cell? ⟨gb292, 2, none⟩ = some (.int .i64 0) := (blk_cell BK292.out 2).trans rfl; have hcz15_3 : w13.cell? ⟨gb292, 3, none⟩ = some (.int .i64 0) := (blk_cell BK292.out 3).trans rfl; have hcz15_4 : w13.cell? ⟨gb292, 4, none⟩ = some (.int .i64 0) := (blk_cell BK292.out 4).trans rfl; have hcz15_5 : w13.cell? ⟨gb292, 5, none⟩ = some (.bool false) := (blk_cell BK292.out 5).trans rfl; have hcz15_6 : w13.cell? ⟨gb292, 6, none⟩ = some (.int .i64 0) := (blk_cell BK292.out 6).trans rfl; have hcz15_7 : w13.cell? ⟨gb292, 7, none⟩ = some (.bool false) := (blk_cell BK292.out 7).trans rfl; have hcz15_8 : w13.cell? ⟨gb292, 8, none⟩ = some (.bool false) := (blk_cell BK292.out 8).trans rfl; have hfz15_0 := blk_frozen BK292.out 0; have hfz15_1 := blk_frozen BK292.out 1; have hfz15_2 := blk_frozen BK292.out 2; have hfz15_3 := blk_frozen BK292.out 3; have hfz15_4 := blk_frozen BK292.out 4; have hfz15_5 := blk_frozen BK292.out 5; have hfz15_6 := blk_frozen BK292.out 6; have hfz15_7 := blk_frozen BK292.out 7; have hfz15_8 := blk_frozen BK292.out 8))
            repeat (go_quiet (first | ((with_reducible refine gate_dst (N := 15) rfl ?_); refine box_event ?hg (N := 15) ?hd (cs := #[.string (⟨#[]⟩ : ByteArray), .slice none 0 0, .int .i64 0, .int .i64 0, .int .i64 0, .bool false, .int .i64 0, .bool false, .bool false]) (t := 28) ?hr ?_; (case hd => rfl); (case hg => rfl); (case hr => exact z181_); intro gb292 hg w13 hbox hb; have BK292 := Aside0.mk (hbox); have GW292 := Aside0.mk ((z46_ : w.heap.size ≤ gb292)); have GE292 := Aside0.mk ((z46_ : w.heap.size ≤ gb292)); replace HB := Aside0.mk (below_step z87_ hb); have NB290_292 := Aside0.mk ((z28_ : gb290 ≠ gb292)); have NB292_290 := Aside0.mk ((z27_ : gb292 ≠ gb290)); replace BK290 := Aside0.mk (blk_below (g := gb290) (o := .cells #[.slice (some ad291) ((rd_T24 l0 x20_1).f0).length c289_0] 24 (0, 0)) z130_ hb); clear hb hbox hg; have hnb14 := NB292_290.out; have hnc14 := NB290_292.out; have hcz15_0 : w13.cell? ⟨gb292, 0, none⟩ = some (.string (⟨#[]⟩ : ByteArray)) := (blk_cell BK292.out 0).trans rfl; have hcz15_1 : w13.cell? ⟨gb292, 1, none⟩ = some (.slice none 0 0) := (blk_cell BK292.out 1).trans rfl; have hcz15_2 : w13.cell? ⟨gb292, 2, none⟩ = some (.int .i64 0) := (blk_cell BK292.out 2).trans rfl; have hcz15_3 : w13.cell? ⟨gb292, 3, none⟩ = some (.int .i64 0) := (blk_cell BK292.out 3).trans rfl; have hcz15_4 : w13.cell? ⟨gb292, 4, none⟩ = some (.int .i64 0) := (blk_cell BK292.out 4).trans rfl; have hcz15_5 : w13.cell? ⟨gb292, 5, none⟩ = some (.bool false) := (blk_cell BK292.out 5).trans rfl; have hcz15_6 : w13.cell? ⟨gb292, 6, none⟩ = some (.int .i64 0) := (blk_cell BK292.out 6).trans rfl; have hcz15_7 : w13.cell? ⟨gb292, 7, none⟩ = some (.bool false) := (blk_cell BK292.out 7).trans rfl; have hcz15_8 : w13.cell? ⟨gb292, 8, none⟩ = some (.bool false) := (blk_cell BK292.out 8).trans rfl; have hfz15_0 := blk_frozen BK292.out 0; have hfz15_1 := blk_frozen BK292.out 1; have hfz15_2 := blk_frozen BK292.out 2; have hfz15_3 := blk_frozen BK292.out 3; have hfz15_4 := blk_frozen BK292.out 4; have hfz15_5 := blk_frozen BK292.out 5; have hfz15_6 := blk_frozen BK292.out 6; have hfz15_7 := blk_frozen BK292.out 7; have hfz15_8 := blk_frozen BK292.out 8)); try go_wp2_with (first | ((with_reducible refine gate_dst (N := 15) rfl ?_); refine box_event ?hg (N := 15) ?hd (cs := #[.string (⟨#[]⟩ : ByteArray), .slice none 0 0, .int .i64 0, .int .i64 0, .int .i64 0, .bool false, .int .i64 0, .bool false, .bool false]) (t := 28) ?hr ?_; (case hd => rfl); (case hg => rfl); (case hr => exact z181_); intro gb292 hg w13 hbox hb; have BK292 := Aside0.mk (hbox); have GW292 := Aside0.mk ((z46_ : w.heap.size ≤ gb292)); have GE292 := Aside0.mk ((z46_ : w.heap.size ≤ gb292)); replace HB := Aside0.mk (below_step z87_ hb); have NB290_292 := Aside0.mk ((z28_ : gb290 ≠ gb292)); have NB292_290 := Aside0.mk ((z27_ : gb292 ≠ gb290)); replace BK290 := Aside0.mk (blk_below (g := gb290) (o := .cells #[.slice (some ad291) ((rd_T24 l0 x20_1).f0).length c289_0] 24 (0, 0)) z130_ hb); clear hb hbox hg; have hnb14 := NB292_290.out; have hnc14 := NB290_292.out; have hcz15_0 : w13.cell? ⟨gb292, 0, none⟩ = some (.string (⟨#[]⟩ : ByteArray)) := (blk_cell BK292.out 0).trans rfl; have hcz15_1 : w13.cell? ⟨gb292, 1, none⟩ = some (.slice none 0 0) := (blk_cell BK292.out 1).trans rfl; have hcz15_2 : w13.cell? ⟨gb292, 2, none⟩ = some (.int .i64 0) := (blk_cell BK292.out 2).trans rfl; have hcz15_3 : w13.cell? ⟨gb292, 3, none⟩ = some (.int .i64 0) := (blk_cell BK292.out 3).trans rfl; have hcz15_4 : w13.cell? ⟨gb292, 4, none⟩ = some (.int .i64 0) := (blk_cell BK292.out 4).trans rfl; have hcz15_5 : w13.cell? ⟨gb292, 5, none⟩ = some (.bool false) := (blk_cell BK292.out 5).trans rfl; have hcz15_6 : w13.cell? ⟨gb292, 6, none⟩ = some (.int .i64 0) := (blk_cell BK292.out 6).trans rfl; have hcz15_7 : w13.cell? ⟨gb292, 7, none⟩ = some (.bool false) := (blk_cell BK292.out 7).trans rfl; have hcz15_8 : w13.cell? ⟨gb292, 8, none⟩ = some (.bool false) := (blk_cell BK292.out 8).trans rfl; have hfz15_0 := blk_frozen BK292.out 0; have hfz15_1 := blk_frozen BK292.out 1; have hfz15_2 := blk_frozen BK292.out 2; have hfz15_3 := blk_frozen BK292.out 3; have hfz15_4 := blk_frozen BK292.out 4; have hfz15_5 := blk_frozen BK292.out 5; have hfz15_6 := blk_frozen BK292.out 6; have hfz15_7 := blk_frozen BK292.out 7; have hfz15_8 := blk_frozen BK292.out 8)))
            refine bodyPost_ret (results_list (rs := [.tmp 4, .tmp 5, .tmp 6, .tmp 7]) rfl (by simp) (.tmp (.tmp (.tmp (.tmp .nil))))) rfl ?_
            exact ⟨z155_, z55_⟩
          rw [if_neg c12] at H
          have c12b0 : decide (x1_2 < (((rd_T28 ((rd_T24 l0 x20_1).f0) x28_2).f0).size : Int)) = false := decide_eq_false c12
          clear c12
          have H' := Aside0.mk H
          clear H
          have p291 : 0 ≤ (x28_2 : Int) := of_decide_eq_true z178_
          have q291 : x28_2 < (((rd_T24 l0 x20_1).f0).length : Int) := of_decide_eq_true z178_
          obtain ⟨ad291, A291_1, c291_1, e291, hx291_0, hx291_1, hx291_2, hx291_3, hx291_4, hx291_5, hx291_6, hx291_7, hx291_8, hl291_1, hi291_1⟩ := at_T28 HR289_0.out x28_2 p291 q291
          cases e291
          replace hx291_0 := (HB.out.cell (World.block_lt_of_cell? w _ hx291_0)).trans hx291_0
          replace hx291_1 := (HB.out.cell (World.block_lt_of_cell? w _ hx291_1)).trans hx291_1
          replace hx291_2 := (HB.out.cell (World.block_lt_of_cell? w _ hx291_2)).trans hx291_2
          replace hx291_3 := (HB.out.cell (World.block_lt_of_cell? w _ hx291_3)).trans hx291_3
          replace hx291_4 := (HB.out.cell (World.block_lt_of_cell? w _ hx291_4)).trans hx291_4
          replace hx291_5 := (HB.out.cell (World.block_lt_of_cell? w _ hx291_5)).trans hx291_5
          replace hx291_6 := (HB.out.cell (World.block_lt_of_cell? w _ hx291_6)).trans hx291_6
          replace hx291_7 := (HB.out.cell (World.block_lt_of_cell? w _ hx291_7)).trans hx291_7
          replace hx291_8 := (HB.out.cell (World.block_lt_of_cell? w _ hx291_8)).trans hx291_8
          have HR291_1 := Aside0.mk hi291_1
          have HC291_1 := Aside0.mk hl291_1
          clear hi291_1 hl291_1
          replace p291 := eq_true p291
          replace q291 := eq_true q291
          go_wp2_with (first | ((with_reducible refine gate_dst (N := 15) rfl ?_); refine box_event ?hg (N := 15) ?hd (cs := #[.string (⟨#[]⟩ : ByteArray), .slice none 0 0, .int .i64 0, .int .i64 0, .int .i64 0, .bool false, .int .i64 0, .bool false, .bool false]) (t := 28) ?hr ?_; (case hd => rfl); (case hg => rfl); (case hr => exact z181_); intro gb292 hg w16 hbox hb; have BK292 := Aside0.mk (hbox); have GW292 := Aside0.mk ((z46_ : w.heap.size ≤ gb292)); have GE292 := Aside0.mk ((z46_ : w.heap.size ≤ gb292)); replace HB := Aside0.mk (below_step z87_ hb); have NB290_292 := Aside0.mk ((z28_ : gb290 ≠ gb292)); have NB292_290 := Aside0.mk ((z27_ : gb292 ≠ gb290)); replace BK290 := Aside0.mk (blk_below (g := gb290) (o := .cells #[.slice (some ad291) ((rd_T24 l0 x20_1).f0).length c289_0] 24 (0, 0)) z130_ hb); clear hb hbox hg; have hnb17 := NB292_290.out; have hnc17 := NB290_292.out; have hcz18_0 : w16.cell? ⟨gb292, 0, none⟩ = some (.string (⟨#[]⟩ : ByteArray)) := (blk_cell BK292.out 0).trans rfl; have hcz18_1 : w16.cell? ⟨gb292, 1, none⟩ = some (.slice none 0 0) := (blk_cell BK292.out 1).trans rfl; have hcz18_2 : w16.cell? ⟨gb292, 2, none⟩ = some (.int .i64 0) := (blk_cell BK292.out 2).trans rfl; have hcz18_3 : w16.cell? ⟨gb292, 3, none⟩ = some (.int .i64 0) := (blk_cell BK292.out 3).trans rfl; have hcz18_4 : w16.cell? ⟨gb292, 4, none⟩ = some (.int .i64 0) := (blk_cell BK292.out 4).trans rfl; have hcz18_5 : w16.cell? ⟨gb292, 5, none⟩ = some (.bool false) := (blk_cell BK292.out 5).trans rfl; have hcz18_6 : w16.cell? ⟨gb292, 6, none⟩ = some (.int .i64 0) := (blk_cell BK292.out 6).trans rfl; have hcz18_7 : w16.cell? ⟨gb292, 7, none⟩ = some (.bool false) := (blk_cell BK292.out 7).trans rfl; have hcz18_8 : w16.cell? ⟨gb292, 8, none⟩ = some (.bool false) := (blk_cell BK292.out 8).trans rfl; have hfz18_0 := blk_frozen BK292.out 0; have hfz18_1 := blk_frozen BK292.out 1; have hfz18_2 := blk_frozen BK292.out 2; have hfz18_3 := blk_frozen BK292.out 3; have hfz18_4 := blk_frozen BK292.out 4; have hfz18_5 := blk_frozen BK292.out 5; have hfz18_6 := blk_frozen BK292.out 6; have hfz18_7 := blk_frozen BK292.out 7; have hfz18_8 := blk_frozen BK292.out 8))
          repeat (go_quiet (first | ((with_reducible refine gate_dst (N := 15) rfl ?_); refine box_event ?hg (N := 15) ?hd (cs := #[.string (⟨#[]⟩ : ByteArray), .slice none 0 0, .int .i64 0, .int .i64 0, .int .i64 0, .bool false, .int .i64 0, .bool false, .bool false]) (t := 28) ?hr ?_; (case hd => rfl); (case hg => rfl); (case hr => exact z181_); intro gb292 hg w16 hbox hb; have BK292 := Aside0.mk (hbox); have GW292 := Aside0.mk ((z46_ : w.heap.size ≤ gb292)); have GE292 := Aside0.mk ((z46_ : w.heap.size ≤ gb292)); replace HB := Aside0.mk (below_step z87_ hb); have NB290_292 := Aside0.mk ((z28_ : gb290 ≠ gb292)); have NB292_290 := Aside0.mk ((z27_ : gb292 ≠ gb290)); replace BK290 := Aside0.mk (blk_below (g := gb290) (o := .cells #[.slice (some ad291) ((rd_T24 l0 x20_1).f0).length c289_0] 24 (0, 0)) z130_ hb); clear hb hbox hg; have hnb17 := NB292_290.out; have hnc17 := NB290_292.out; have hcz18_0 : w16.cell? ⟨gb292, 0, none⟩ = some (.string (⟨#[]⟩ : ByteArray)) := (blk_cell BK292.out 0).trans rfl; have hcz18_1 : w16.cell? ⟨gb292, 1, none⟩ = some (.slice none 0 0) := (blk_cell BK292.out 1).trans rfl; have hcz18_2 : w16.cell? ⟨gb292, 2, none⟩ = some (.int .i64 0) := (blk_cell BK292.out 2).trans rfl; have hcz18_3 : w16.cell? ⟨gb292, 3, none⟩ = some (.int .i64 0) := (blk_cell BK292.out 3).trans rfl; have hcz18_4 : w16.cell? ⟨gb292, 4, none⟩ = some (.int .i64 0) := (blk_cell BK292.out 4).trans rfl; have hcz18_5 : w16.cell? ⟨gb292, 5, none⟩ = some (.bool false) := (blk_cell BK292.out 5).trans rfl; have hcz18_6 : w16.cell? ⟨gb292, 6, none⟩ = some (.int .i64 0) := (blk_cell BK292.out 6).trans rfl; have hcz18_7 : w16.cell? ⟨gb292, 7, none⟩ = some (.bool false) := (blk_cell BK292.out 7).trans rfl; have hcz18_8 : w16.cell? ⟨gb292, 8, none⟩ = some (.bool false) := (blk_cell BK292.out 8).trans rfl; have hfz18_0 := blk_frozen BK292.out 0; have hfz18_1 := blk_frozen BK292.out 1; have hfz18_2 := blk_frozen BK292.out 2; have hfz18_3 := blk_frozen BK292.out 3; have hfz18_4 := blk_frozen BK292.out 4; have hfz18_5 := blk_frozen BK292.out 5; have hfz18_6 := blk_frozen BK292.out 6; have hfz18_7 := blk_frozen BK292.out 7; have hfz18_8 := blk_frozen BK292.out 8)); try go_wp2_with (first | ((with_reducible refine gate_dst (N := 15) rfl ?_); refine box_event ?hg (N := 15) ?hd (cs := #[.string (⟨#[]⟩ : ByteArray), .slice none 0 0, .int .i64 0, .int .i64 0, .int .i64 0, .bool false, .int .i64 0, .bool false, .bool false]) (t := 28) ?hr ?_; (case hd => rfl); (case hg => rfl); (case hr => exact z181_); intro gb292 hg w16 hbox hb; have BK292 := Aside0.mk (hbox); have GW292 := Aside0.mk ((z46_ : w.heap.size ≤ gb292)); have GE292 := Aside0.mk ((z46_ : w.heap.size ≤ gb292)); replace HB := Aside0.mk (below_step z87_ hb); have NB290_292 := Aside0.mk ((z28_ : gb290 ≠ gb292)); have NB292_290 := Aside0.mk ((z27_ : gb292 ≠ gb290)); replace BK290 := Aside0.mk (blk_below (g := gb290) (o := .cells #[.slice (some ad291) ((rd_T24 l0 x20_1).f0).length c289_0] 24 (0, 0)) z130_ hb); clear hb hbox hg; have hnb17 := NB292_290.out; have hnc17 := NB290_292.out; have hcz18_0 : w16.cell? ⟨gb292, 0, none⟩ = some (.string (⟨#[]⟩ : ByteArray)) := (blk_cell BK292.out 0).trans rfl; have hcz18_1 : w16.cell? ⟨gb292, 1, none⟩ = some (.slice none 0 0) := (blk_cell BK292.out 1).trans rfl; have hcz18_2 : w16.cell? ⟨gb292, 2, none⟩ = some (.int .i64 0) := (blk_cell BK292.out 2).trans rfl; have hcz18_3 : w16.cell? ⟨gb292, 3, none⟩ = some (.int .i64 0) := (blk_cell BK292.out 3).trans rfl; have hcz18_4 : w16.cell? ⟨gb292, 4, none⟩ = some (.int .i64 0) := (blk_cell BK292.out 4).trans rfl; have hcz18_5 : w16.cell? ⟨gb292, 5, none⟩ = some (.bool false) := (blk_cell BK292.out 5).trans rfl; have hcz18_6 : w16.cell? ⟨gb292, 6, none⟩ = some (.int .i64 0) := (blk_cell BK292.out 6).trans rfl; have hcz18_7 : w16.cell? ⟨gb292, 7, none⟩ = some (.bool false) := (blk_cell BK292.out 7).trans rfl; have hcz18_8 : w16.cell? ⟨gb292, 8, none⟩ = some (.bool false) := (blk_cell BK292.out 8).trans rfl; have hfz18_0 := blk_frozen BK292.out 0; have hfz18_1 := blk_frozen BK292.out 1; have hfz18_2 := blk_frozen BK292.out 2; have hfz18_3 := blk_frozen BK292.out 3; have hfz18_4 := blk_frozen BK292.out 4; have hfz18_5 := blk_frozen BK292.out 5; have hfz18_6 := blk_frozen BK292.out 6; have hfz18_7 := blk_frozen BK292.out 7; have hfz18_8 := blk_frozen BK292.out 8)))
          go_roundg k2
          case measure => have := HK1.out; have := HK2.out; omega
          case rel => exact ⟨(wrap64 (x1_2 - (((rd_T28 ((rd_T24 l0 x20_1).f0) x28_2).f0).size : Int))), (x20_1), (x28_2), ((((rd_T28 ((rd_T24 l0 x20_1).f0) x28_2).f0).size : Int)), (true), (wrap64 (x28_2 + 1)), z180_, z180_, z180_, z180_, z180_, z180_, H', ⟨z182_⟩, ⟨by (with_reducible repeat (first | refine blk_drewN ?_ _ | refine blk_drew ?_ | refine blk_alloc ?_ _)); refine blk_far ?_ NB290_292.out _; (with_reducible repeat (first | refine blk_drewN ?_ _ | refine blk_drew ?_ | refine blk_alloc ?_ _)); refine blk_far ?_ NB290_292.out _; (with_reducible repeat (first | refine blk_drewN ?_ _ | refine blk_drew ?_ | refine blk_alloc ?_ _)); refine blk_far ?_ NB290_292.out _; (with_reducible repeat (first | refine blk_drewN ?_ _ | refine blk_drew ?_ | refine blk_alloc ?_ _)); refine blk_far ?_ NB290_292.out _; (with_reducible repeat (first | refine blk_drewN ?_ _ | refine blk_drew ?_ | refine blk_alloc ?_ _)); refine blk_far ?_ NB290_292.out _; (with_reducible repeat (first | refine blk_drewN ?_ _ | refine blk_drew ?_ | refine blk_alloc ?_ _)); refine blk_far ?_ NB290_292.out _; (with_reducible repeat (first | refine blk_drewN ?_ _ | refine blk_drew ?_ | refine blk_alloc ?_ _)); refine blk_far ?_ NB290_292.out _; (with_reducible repeat (first | refine blk_drewN ?_ _ | refine blk_drew ?_ | refine blk_alloc ?_ _)); refine blk_far ?_ NB290_292.out _; (with_reducible repeat (first | refine blk_drewN ?_ _ | refine blk_drew ?_ | refine blk_alloc ?_ _)); refine blk_far ?_ NB290_292.out _; (with_reducible repeat (first | refine blk_drewN ?_ _ | refine blk_drew ?_ | refine blk_alloc ?_ _)); exact BK290.out⟩, ⟨z55_⟩⟩
/-! ### locate_Spot: function 18 -/
def locate_Spot.l0 : Nat → Int → Int → Int → List (S43) → Int → Int → Option (Int × Int × Int × Int)
  | 0, _, _, _, _, _, _ => none
  | k + 1, x8, x9, x10, x34, x35, x36 => if x36 < x35 then (if 0 ≤ x36 then (if x36 < (x34.length : Int) then (if ((rd_T43 x34 x36).f0) = x10 then (some (x8, x9, (rd_T43 x34 x36).f1, 0)) else (locate_Spot.l0 k x8 x9 x10 x34 x35 (wrap64 (x36 + 1)))) else (none)) else (none)) else (some (0, 0, 0, 21))
def locate_Spot.f (k : Nat) (l0 : List (S98)) (l1 : List (S24)) (a2 : Int) : Option (Int × Int × Int × Int) := (locate_Line.f k l1 a2).bind fun bt294 => (if bt294.2.2.2 = true then (if 0 ≤ bt294.1 then (if bt294.1 < (l1.length : Int) then (if 0 ≤ bt294.2.1 then (if bt294.2.1 < (((rd_T24 l1 bt294.1).f0).length : Int) then ((locate_Stops.f k l0 ((rd_T28 ((rd_T24 l1 bt294.1).f0) bt294.2.1).f0) ((rd_T28 ((rd_T24 l1 bt294.1).f0) bt294.2.1).f1) ((rd_T28 ((rd_T24 l1 bt294.1).f0) bt294.2.1).f2) ((rd_T28 ((rd_T24 l1 bt294.1).f0) bt294.2.1).f3) ((rd_T28 ((rd_T24 l1 bt294.1).f0) bt294.2.1).f4) ((rd_T28 ((rd_T24 l1 bt294.1).f0) bt294.2.1).f5) ((rd_T28 ((rd_T24 l1 bt294.1).f0) bt294.2.1).f6) ((rd_T28 ((rd_T24 l1 bt294.1).f0) bt294.2.1).f7) ((rd_T28 ((rd_T24 l1 bt294.1).f0) bt294.2.1).f8)).bind fun t300 => (locate_Spot.l0 k bt294.1 bt294.2.1 bt294.2.2.1 t300 (t300.length : Int) 0)) else (none)) else (none)) else (none)) else (none)) else (some (0, 0, 0, 30)))
theorem locate_Spot.mono_l : ∀ k, (∀ y0 y1 y2 y3 y4 y5, LeO (locate_Spot.l0 k y0 y1 y2 y3 y4 y5) (locate_Spot.l0 (k + 1) y0 y1 y2 y3 y4 y5))
  | 0 => fun _ _ _ _ _ _ r h => by simp [locate_Spot.l0] at h
  | k + 1 => by
    have ih0 := locate_Spot.mono_l k
    · intro y0 y1 y2 y3 y4 y5
      unfold locate_Spot.l0
      repeat' first | (with_reducible first | exact ih0 _ _ _ _ _ _ | exact locate_Line.mono _ _ _ | exact locate_Stops.mono _ _ _ _ _ _ _ _ _ _ _ | exact LeO.refl _ | exact LeO.none _ | refine LeO.ite ?_ ?_ | refine LeO.bind ?_ (fun _ => ?_)) | exact ih0 _ _ _ _ _ _ | exact locate_Line.mono _ _ _ | exact locate_Stops.mono _ _ _ _ _ _ _ _ _ _ _ | exact LeO.none _ | refine LeO.ite ?_ ?_ | refine LeO.bind ?_ (fun _ => ?_)
theorem locate_Spot.mono : ∀ a0 a1 a2 k, LeO (locate_Spot.f k a0 a1 a2) (locate_Spot.f (k + 1) a0 a1 a2) := by
  intro a0 a1 a2 k
  have ih0 := locate_Spot.mono_l k
  unfold locate_Spot.f
  repeat' first | (with_reducible first | exact ih0 _ _ _ _ _ _ | exact locate_Line.mono _ _ _ | exact locate_Stops.mono _ _ _ _ _ _ _ _ _ _ _ | exact LeO.refl _ | exact LeO.none _ | refine LeO.ite ?_ ?_ | refine LeO.bind ?_ (fun _ => ?_)) | exact ih0 _ _ _ _ _ _ | exact locate_Line.mono _ _ _ | exact locate_Stops.mono _ _ _ _ _ _ _ _ _ _ _ | exact LeO.none _ | refine LeO.ite ?_ ?_ | refine LeO.bind ?_ (fun _ => ?_)
set_option maxHeartbeats 8000000 in
set_option maxRecDepth 100000 in
theorem locate_Spot.calls (k : Nat) (A0 : Option Addr) (c0 : Nat) (l0 : List (S98)) (A1 : Option Addr) (c1 : Nat) (l1 : List (S24)) (a2 : Int) (r1 : Int) (r2 : Int) (r3 : Int) (r4 : Int) (w : World) (hr0 : Kd.C k98 w A0 l0.length l0) (hc0 : l0.length ≤ c0) (hr1 : Kd.C k24 w A1 l1.length l1) (hc1 : l1.length ≤ c1) (h : locate_Spot.f k l0 l1 a2 = some (r1, r2, r3, r4)) :
    Calls Try.prog 18 #[.pointer A0, .slice A1 l1.length c1, .int .i64 a2] w fun e w' => e = .returned (.tuple #[.agg #[.int .i64 r1, .int .i64 r2, .int .i64 r3], .int .i64 r4]) ∧ Below w.heap.size w w' := by
  have hu49 := Try.underlying49
  have hu28 := Try.underlying28
  have hu43 := Try.underlying43
  have HR0 := Aside0.mk hr0
  have HC0 := Aside0.mk hc0
  clear hr0 hc0
  have HR1 := Aside0.mk hr1
  have HC1 := Aside0.mk hc1
  clear hr1 hc1
  have HB := Aside0.mk (Below.refl w.heap.size w)
  have H : ((locate_Line.f k l1 a2).bind fun bt294 => (if bt294.2.2.2 = true then (if 0 ≤ bt294.1 then (if bt294.1 < (l1.length : Int) then (if 0 ≤ bt294.2.1 then (if bt294.2.1 < (((rd_T24 l1 bt294.1).f0).length : Int) then ((locate_Stops.f k l0 ((rd_T28 ((rd_T24 l1 bt294.1).f0) bt294.2.1).f0) ((rd_T28 ((rd_T24 l1 bt294.1).f0) bt294.2.1).f1) ((rd_T28 ((rd_T24 l1 bt294.1).f0) bt294.2.1).f2) ((rd_T28 ((rd_T24 l1 bt294.1).f0) bt294.2.1).f3) ((rd_T28 ((rd_T24 l1 bt294.1).f0) bt294.2.1).f4) ((rd_T28 ((rd_T24 l1 bt294.1).f0) bt294.2.1).f5) ((rd_T28 ((rd_T24 l1 bt294.1).f0) bt294.2.1).f6) ((rd_T28 ((rd_T24 l1 bt294.1).f0) bt294.2.1).f7) ((rd_T28 ((rd_T24 l1 bt294.1).f0) bt294.2.1).f8)).bind fun t300 => (locate_Spot.l0 k bt294.1 bt294.2.1 bt294.2.2.1 t300 (t300.length : Int) 0)) else (none)) else (none)) else (none)) else (none)) else (some (0, 0, 0, 30)))) = some (r1, r2, r3, r4) := h
  clear h
  replace H := Option.bind_eq_some_iff.mp H
  obtain ⟨⟨t294, t295, t296, t297⟩, A40, H⟩ := H
  replace H : (if t297 = true then (if 0 ≤ t294 then (if t294 < (l1.length : Int) then (if 0 ≤ t295 then (if t295 < (((rd_T24 l1 t294).f0).length : Int) then ((locate_Stops.f k l0 ((rd_T28 ((rd_T24 l1 t294).f0) t295).f0) ((rd_T28 ((rd_T24 l1 t294).f0) t295).f1) ((rd_T28 ((rd_T24 l1 t294).f0) t295).f2) ((rd_T28 ((rd_T24 l1 t294).f0) t295).f3) ((rd_T28 ((rd_T24 l1 t294).f0) t295).f4) ((rd_T28 ((rd_T24 l1 t294).f0) t295).f5) ((rd_T28 ((rd_T24 l1 t294).f0) t295).f6) ((rd_T28 ((rd_T24 l1 t294).f0) t295).f7) ((rd_T28 ((rd_T24 l1 t294).f0) t295).f8)).bind fun t300 => (locate_Spot.l0 k t294 t295 t296 t300 (t300.length : Int) 0)) else (none)) else (none)) else (none)) else (none)) else (some (0, 0, 0, 30))) = some (r1, r2, r3, r4) := H
  have A4 := Aside0.mk A40
  clear A40
  by_cases c5 : t297 = true
  rotate_left
  · replace c5 := Bool.eq_false_iff.mpr c5
    subst c5
    have H1 : (some (0, 0, 0, 30)) = some (r1, r2, r3, r4) := by rw [if_neg (show ¬ (false = true) by decide)] at H; exact H
    clear H
    have H := H1
    clear H1
    simp only [Option.some.injEq, Prod.mk.injEq] at H
    obtain ⟨rfl, rfl, rfl, rfl⟩ := H
    go_enter Try.func18, Try.ntmps18
    go_wp2_with (first | ((with_reducible refine gate_dst (N := 6) rfl ?_); refine box_event ?hg (N := 6) ?hd (cs := #[.int .i64 0, .int .i64 0, .int .i64 0]) (t := 49) ?hr ?_; (case hd => rfl); (case hg => rfl); (case hr => exact z181_); intro gb293 hg w27 hbox hb; have BK293 := Aside0.mk (hbox); have GW293 := Aside0.mk ((z74_ : w.heap.size ≤ gb293)); have GE293 := Aside0.mk ((z74_ : w.heap.size ≤ gb293)); replace HB := Aside0.mk (below_step z103_ hb); clear hb hbox hg) | ((with_reducible refine gate_callee (f := 22) rfl ?_); refine goesL_ (some 17) rfl rfl Try.func22 (by kernel_rfl) rfl #[.slice A1 l1.length c1, .int .i64 a2] rfl z99_ ?_; (with_reducible refine (locate_Line.calls k _ _ l1 a2 t294 t295 t296 false _ ?side1 ?side2 A4.out).mono ?_); (case side1 => exact z68_); (case side2 => exact HC1.out); rintro e w28 ⟨rfl, hb⟩; refine ⟨_, rfl, ?_⟩; replace BK293 := Aside0.mk (blk_below (g := gb293) (o := .cells #[.int .i64 0, .int .i64 0, .int .i64 0] 49 (0, 0)) z131_ hb); replace HB := Aside0.mk (below_step z88_ hb); (try clear hb); (try clear hb2); (try clear hk); (try clear hi); have hcz29_0 : w28.cell? ⟨gb293, 0, none⟩ = some (.int .i64 0) := (blk_cell BK293.out 0).trans rfl; have hcz29_1 : w28.cell? ⟨gb293, 1, none⟩ = some (.int .i64 0) := (blk_cell BK293.out 1).trans rfl; have hcz29_2 : w28.cell? ⟨gb293, 2, none⟩ = some (.int .i64 0) := (blk_cell BK293.out 2).trans rfl; have hfz29_0 := blk_frozen BK293.out 0; have hfz29_1 := blk_frozen BK293.out 1; have hfz29_2 := blk_frozen BK293.out 2))
    refine bodyPost_ret (results_ct rfl _ _ gb293 49 #[.int .i64 0, .int .i64 0, .int .i64 0] (0, 0) _ rfl (by (with_reducible repeat (first | refine blk_drewN ?_ _ | refine blk_drew ?_ | refine blk_alloc ?_ _)); refine blk_put (cs := #[.int .i64 0, .int .i64 0, .int .i64 0]) ?_ 2 _ rfl; (with_reducible repeat (first | refine blk_drewN ?_ _ | refine blk_drew ?_ | refine blk_alloc ?_ _)); refine blk_put (cs := #[.int .i64 0, .int .i64 0, .int .i64 0]) ?_ 1 _ rfl; (with_reducible repeat (first | refine blk_drewN ?_ _ | refine blk_drew ?_ | refine blk_alloc ?_ _)); refine blk_put (cs := #[.int .i64 0, .int .i64 0, .int .i64 0]) ?_ 0 _ rfl; (with_reducible repeat (first | refine blk_drewN ?_ _ | refine blk_drew ?_ | refine blk_alloc ?_ _)); exact BK293.out) Try.underlying49 rfl (by kernel_rfl)) rfl ?_
    exact ⟨z155_, z88_⟩
  subst c5
  have H1 : (if 0 ≤ t294 then (if t294 < (l1.length : Int) then (if 0 ≤ t295 then (if t295 < (((rd_T24 l1 t294).f0).length : Int) then ((locate_Stops.f k l0 ((rd_T28 ((rd_T24 l1 t294).f0) t295).f0) ((rd_T28 ((rd_T24 l1 t294).f0) t295).f1) ((rd_T28 ((rd_T24 l1 t294).f0) t295).f2) ((rd_T28 ((rd_T24 l1 t294).f0) t295).f3) ((rd_T28 ((rd_T24 l1 t294).f0) t295).f4) ((rd_T28 ((rd_T24 l1 t294).f0) t295).f5) ((rd_T28 ((rd_T24 l1 t294).f0) t295).f6) ((rd_T28 ((rd_T24 l1 t294).f0) t295).f7) ((rd_T28 ((rd_T24 l1 t294).f0) t295).f8)).bind fun t300 => (locate_Spot.l0 k t294 t295 t296 t300 (t300.length : Int) 0)) else (none)) else (none)) else (none)) else (none)) = some (r1, r2, r3, r4) := by rw [if_pos rfl] at H; exact H
  clear H
  have H := H1
  clear H1
  by_cases c6 : 0 ≤ t294
  rotate_left
  · rw [if_neg c6] at H
    exact absurd H (by simp)
  rw [if_pos c6] at H
  have c6b0 : decide (0 ≤ t294) = true := decide_eq_true c6
  clear c6
  by_cases c7 : t294 < (l1.length : Int)
  rotate_left
  · rw [if_neg c7] at H
    exact absurd H (by simp)
  rw [if_pos c7] at H
  have c7b0 : decide (t294 < (l1.length : Int)) = true := decide_eq_true c7
  clear c7
  by_cases c8 : 0 ≤ t295
  rotate_left
  · rw [if_neg c8] at H
    exact absurd H (by simp)
  rw [if_pos c8] at H
  have c8b0 : decide (0 ≤ t295) = true := decide_eq_true c8
  clear c8
  by_cases c9 : t295 < (((rd_T24 l1 t294).f0).length : Int)
  rotate_left
  · rw [if_neg c9] at H
    exact absurd H (by simp)
  rw [if_pos c9] at H
  have c9b0 : decide (t295 < (((rd_T24 l1 t294).f0).length : Int)) = true := decide_eq_true c9
  clear c9
  replace H := Option.bind_eq_some_iff.mp H
  obtain ⟨t300, A100, H⟩ := H
  replace H : (locate_Spot.l0 k t294 t295 t296 t300 (t300.length : Int) 0) = some (r1, r2, r3, r4) := H
  have A10 := Aside0.mk A100
  clear A100
  have H' := Aside0.mk H
  clear H
  go_enter Try.func18, Try.ntmps18
  go_wp2_with (first | ((with_reducible refine gate_dst (N := 6) rfl ?_); refine box_event ?hg (N := 6) ?hd (cs := #[.int .i64 0, .int .i64 0, .int .i64 0]) (t := 49) ?hr ?_; (case hd => rfl); (case hg => rfl); (case hr => exact z181_); intro gb293 hg w11 hbox hb; have BK293 := Aside0.mk (hbox); have GW293 := Aside0.mk ((z74_ : w.heap.size ≤ gb293)); have GE293 := Aside0.mk ((z74_ : w.heap.size ≤ gb293)); replace HB := Aside0.mk (below_step z103_ hb); clear hb hbox hg) | ((with_reducible refine gate_callee (f := 22) rfl ?_); refine goesL_ (some 17) rfl rfl Try.func22 (by kernel_rfl) rfl #[.slice A1 l1.length c1, .int .i64 a2] rfl z99_ ?_; (with_reducible refine (locate_Line.calls k _ _ l1 a2 t294 t295 t296 true _ ?side1 ?side2 A4.out).mono ?_); (case side1 => exact z68_); (case side2 => exact HC1.out); rintro e w12 ⟨rfl, hb⟩; refine ⟨_, rfl, ?_⟩; replace BK293 := Aside0.mk (blk_below (g := gb293) (o := .cells #[.int .i64 0, .int .i64 0, .int .i64 0] 49 (0, 0)) z131_ hb); replace HB := Aside0.mk (below_step z88_ hb); (try clear hb); (try clear hb2); (try clear hk); (try clear hi); have p298 : 0 ≤ (t294 : Int) := of_decide_eq_true z178_; have q298 : t294 < (l1.length : Int) := of_decide_eq_true z178_; obtain ⟨ad298, A298_0, c298_0, e298, hx298_0, hl298_0, hi298_0⟩ := at_T24 HR1.out t294 p298 q298; cases e298; replace hx298_0 := (HB.out.cell (World.block_lt_of_cell? w _ hx298_0)).trans hx298_0; have HR298_0 := Aside0.mk hi298_0; have HC298_0 := Aside0.mk hl298_0; clear hi298_0 hl298_0; replace p298 := eq_true p298; replace q298 := eq_true q298; have p299 : 0 ≤ (t295 : Int) := of_decide_eq_true z178_; have q299 : t295 < (((rd_T24 l1 t294).f0).length : Int) := of_decide_eq_true z178_; obtain ⟨ad299, A299_1, c299_1, e299, hx299_0, hx299_1, hx299_2, hx299_3, hx299_4, hx299_5, hx299_6, hx299_7, hx299_8, hl299_1, hi299_1⟩ := at_T28 HR298_0.out t295 p299 q299; cases e299; replace hx299_0 := (HB.out.cell (World.block_lt_of_cell? w _ hx299_0)).trans hx299_0; replace hx299_1 := (HB.out.cell (World.block_lt_of_cell? w _ hx299_1)).trans hx299_1; replace hx299_2 := (HB.out.cell (World.block_lt_of_cell? w _ hx299_2)).trans hx299_2; replace hx299_3 := (HB.out.cell (World.block_lt_of_cell? w _ hx299_3)).trans hx299_3; replace hx299_4 := (HB.out.cell (World.block_lt_of_cell? w _ hx299_4)).trans hx299_4; replace hx299_5 := (HB.out.cell (World.block_lt_of_cell? w _ hx299_5)).trans hx299_5; replace hx299_6 := (HB.out.cell (World.block_lt_of_cell? w _ hx299_6)).trans hx299_6; replace hx299_7 := (HB.out.cell (World.block_lt_of_cell? w _ hx299_7)).trans hx299_7; replace hx299_8 := (HB.out.cell (World.block_lt_of_cell? w _ hx299_8)).trans hx299_8; have HR299_1 := Aside0.mk hi299_1; have HC299_1 := Aside0.mk hl299_1; clear hi299_1 hl299_1; replace p299 := eq_true p299; replace q299 := eq_true q299) | ((with_reducible refine gate_callee (f := 13) rfl ?_); refine goesL_ (some 34) rfl rfl Try.func13 (by kernel_rfl) rfl #[.pointer A0, .agg #[.string ((rd_T28 ((rd_T24 l1 t294).f0) t295).f0), .slice A299_1 ((rd_T28 ((rd_T24 l1 t294).f0) t295).f1).length c299_1, .int .i64 ((rd_T28 ((rd_T24 l1 t294).f0) t295).f2), .int .i64 ((rd_T28 ((rd_T24 l1 t294).f0) t295).f3), .int .i64 ((rd_T28 ((rd_T24 l1 t294).f0) t295).f4), .bool ((rd_T28 ((rd_T24 l1 t294).f0) t295).f5), .int .i64 ((rd_T28 ((rd_T24 l1 t294).f0) t295).f6), .bool ((rd_T28 ((rd_T24 l1 t294).f0) t295).f7), .bool ((rd_T28 ((rd_T24 l1 t294).f0) t295).f8)]] rfl z99_ ?_; (with_reducible refine (locate_Stops.calls k _ c0 l0 ((rd_T28 ((rd_T24 l1 t294).f0) t295).f0) _ _ ((rd_T28 ((rd_T24 l1 t294).f0) t295).f1) ((rd_T28 ((rd_T24 l1 t294).f0) t295).f2) ((rd_T28 ((rd_T24 l1 t294).f0) t295).f3) ((rd_T28 ((rd_T24 l1 t294).f0) t295).f4) ((rd_T28 ((rd_T24 l1 t294).f0) t295).f5) ((rd_T28 ((rd_T24 l1 t294).f0) t295).f6) ((rd_T28 ((rd_T24 l1 t294).f0) t295).f7) ((rd_T28 ((rd_T24 l1 t294).f0) t295).f8) t300 _ ?side1 ?side2 ?side3 ?side4 A10.out).mono ?_); (case side1 => exact z67_); (case side2 => exact HC0.out); (case side3 => repeat (first | exact (Kd.C_below HR299_1.out HB.out) | (with_reducible refine Kd.C_alloc ?_ _) | (with_reducible refine Kd.C_drewN ?_ _) | (with_reducible refine Kd.C_drew ?_))); (case side4 => exact HC299_1.out); rintro e w13 ⟨v301, rfl, ho0, hb⟩; refine ⟨_, rfl, ?_⟩; have HO302 := Aside0.mk (Kd.R_lower ho0 (below_size z88_)); replace BK293 := Aside0.mk (blk_below (g := gb293) (o := .cells #[.int .i64 0, .int .i64 0, .int .i64 0] 49 (0, 0)) z131_ hb); replace HB := Aside0.mk (below_step z88_ hb); (try clear hb); (try clear hb2); (try clear hk); (try clear hi); (try clear ho0); obtain ⟨Ao14, co14, eo14⟩ := Kd.R_slice HO302.out; subst eo14))
  go_loopg [36] k (fun kq v36 w' => ∃ (x36_1 : Int) (x294000_1 : Int) (x294001_1 : Int) (x294002_1 : Int), v36 = .int .i64 x36_1 ∧ Aside0 (locate_Spot.l0 kq t294 t295 t296 t300 (t300.length : Int) x36_1 = some (r1, r2, r3, r4)) ∧ Aside0 (kq ≤ k) ∧ Aside0 (Kd.R k43 43 w' w.heap.size (fun _ => True) (.slice Ao14 t300.length co14) t300) ∧ Aside0 (w'.heap[gb293]? = some (.cells #[.int .i64 x294000_1, .int .i64 x294001_1, .int .i64 x294002_1] 49 (0, 0))) ∧ Aside0 (Below w.heap.size w w'))
  case atStart => exact ⟨(0), (0), (0), (0), z180_, H', ⟨Nat.le_refl _⟩, ⟨y161_ HO302.out⟩, ⟨z131_⟩, ⟨z88_⟩⟩
  case round =>
    clear H'; (try clear c1); (try clear c2); (try clear p2); (try clear q2); (try clear hx2); (try clear c5); (try clear c6); (try clear c6b0); (try clear c7); (try clear c7b0); (try clear c8); (try clear c8b0); (try clear c9); (try clear c9b0); (try clear c13); (try clear hx298_0); (try clear hx299_0); (try clear hx299_1); (try clear hx299_2); (try clear hx299_3); (try clear hx299_4); (try clear hx299_5); (try clear hx299_6); (try clear hx299_7); (try clear hx299_8); (try clear p298); (try clear p299); (try clear q298); (try clear q299)
    obtain ⟨x36_1, x294000_1, x294001_1, x294002_1, rfl, HA, HK1, HO_34, BK293, HB⟩ := hrel
    cases gk with
    | zero => exact absurd HA.out (by simp [locate_Spot.l0])
    | succ k1 =>
      have H := HA.out
      clear HA
      simp only [locate_Spot.l0] at H
      by_cases c15 : x36_1 < (t300.length : Int)
      rotate_left
      · rw [if_neg c15] at H
        have c15b0 : decide (x36_1 < (t300.length : Int)) = false := decide_eq_false c15
        clear c15
        simp only [Option.some.injEq, Prod.mk.injEq] at H
        obtain ⟨rfl, rfl, rfl, rfl⟩ := H
        have hcz26_0 : wr.cell? ⟨gb293, 0, none⟩ = some (.int .i64 x294000_1) := (blk_cell BK293.out 0).trans rfl
        have hcz26_1 : wr.cell? ⟨gb293, 1, none⟩ = some (.int .i64 x294001_1) := (blk_cell BK293.out 1).trans rfl
        have hcz26_2 : wr.cell? ⟨gb293, 2, none⟩ = some (.int .i64 x294002_1) := (blk_cell BK293.out 2).trans rfl
        have hfz26_0 := blk_frozen BK293.out 0
        have hfz26_1 := blk_frozen BK293.out 1
        have hfz26_2 := blk_frozen BK293.out 2
        go_wp2
        refine bodyPost_ret (results_ct rfl _ _ gb293 49 #[.int .i64 0, .int .i64 0, .int .i64 0] (0, 0) _ rfl (by (with_reducible repeat (first | refine blk_drewN ?_ _ | refine blk_drew ?_ | refine blk_alloc ?_ _)); refine blk_put (cs := #[.int .i64 0, .int .i64 0, .int .i64 x294002_1]) ?_ 2 _ rfl; (with_reducible repeat (first | refine blk_drewN ?_ _ | refine blk_drew ?_ | refine blk_alloc ?_ _)); refine blk_put (cs := #[.int .i64 0, .int .i64 x294001_1, .int .i64 x294002_1]) ?_ 1 _ rfl; (with_reducible repeat (first | refine blk_drewN ?_ _ | refine blk_drew ?_ | refine blk_alloc ?_ _)); refine blk_put (cs := #[.int .i64 x294000_1, .int .i64 x294001_1, .int .i64 x294002_1]) ?_ 0 _ rfl; (with_reducible repeat (first | refine blk_drewN ?_ _ | refine blk_drew ?_ | refine blk_alloc ?_ _)); exact BK293.out) Try.underlying49 rfl (by kernel_rfl)) rfl ?_
        exact ⟨z155_, z88_⟩
      rw [if_pos c15] at H
      have c15b0 : decide (x36_1 < (t300.length : Int)) = true := decide_eq_true c15
      clear c15
      by_cases c16 : 0 ≤ x36_1
      rotate_left
      · rw [if_neg c16] at H
        exact absurd H (by simp)
      rw [if_pos c16] at H
      have c16b0 : decide (0 ≤ x36_1) = true := decide_eq_true c16
      clear c16
      by_cases c17 : x36_1 < (t300.length : Int)
      rotate_left
      · rw [if_neg c17] at H
        exact absurd H (by simp)
      rw [if_pos c17] at H
      have c17b0 : decide (x36_1 < (t300.length : Int)) = true := decide_eq_true c17
      clear c17
      by_cases c18 : ((rd_T43 t300 x36_1).f0) = t296
      rotate_left
      · rw [if_neg c18] at H
        have c18b0 : (((rd_T43 t300 x36_1).f0) == t296) = false := beq_eq_false_iff_ne.mpr c18
        have c18b1 : (((rd_T43 t300 x36_1).f0) != t296) = true := bne_iff_ne.mpr c18
        have H' := Aside0.mk H
        clear H
        have p303 : 0 ≤ (x36_1 : Int) := of_decide_eq_true z178_
        have q303 : x36_1 < (t300.length : Int) := of_decide_eq_true z178_
        obtain ⟨ad303, e303, hx303_0, hx303_1⟩ := at_T43 (Kd.R_reads' HO_34.out).2.2 x36_1 p303 q303
        cases e303
        replace p303 := eq_true p303
        replace q303 := eq_true q303
        go_wp2_with (first | ((with_reducible refine gate_dst (N := 13) rfl ?_); refine box_event ?hg (N := 13) ?hd (cs := #[.int .i64 0, .int .i64 0]) (t := 43) ?hr ?_; (case hd => rfl); (case hg => rfl); (case hr => exact z181_); intro gb304 hg w23 hbox hb; replace HO_34 := Aside0.mk (Kd.R_below (Kd.R_elderB z144_ gb304 (Nat.le_of_eq hg.symm)) hb); have BK304 := Aside0.mk (hbox); have GW304 := Aside0.mk ((z47_ : w.heap.size ≤ gb304)); have GE304 := Aside0.mk ((z47_ : w.heap.size ≤ gb304)); replace HB := Aside0.mk (below_step z88_ hb); have NB293_304 := Aside0.mk ((z25_ : gb293 ≠ gb304)); have NB304_293 := Aside0.mk ((z24_ : gb304 ≠ gb293)); replace BK293 := Aside0.mk (blk_below (g := gb293) (o := .cells #[.int .i64 x294000_1, .int .i64 x294001_1, .int .i64 x294002_1] 49 (0, 0)) z131_ hb); clear hb hbox hg; have hnb24 := NB304_293.out; have hnc24 := NB293_304.out; have hcz25_0 : w23.cell? ⟨gb304, 0, none⟩ = some (.int .i64 0) := (blk_cell BK304.out 0).trans rfl; have hcz25_1 : w23.cell? ⟨gb304, 1, none⟩ = some (.int .i64 0) := (blk_cell BK304.out 1).trans rfl; have hfz25_0 := blk_frozen BK304.out 0; have hfz25_1 := blk_frozen BK304.out 1))
        go_roundg k1
        case measure => have := HK1.out; omega
        case rel => exact ⟨(wrap64 (x36_1 + 1)), (x294000_1), (x294001_1), (x294002_1), z180_, H', ⟨z191_⟩, ⟨by (with_reducible repeat (first | apply Kd.R_alloc | apply Kd.R_drewN | apply Kd.R_drew)); exact Kd.R_mono (Kd.R_far (p := ⟨gb304, 1, none⟩) (Kd.R_far (p := ⟨gb304, 0, none⟩) (Kd.R_mono HO_34.out (fun k_ hk => (⟨hk, hk.2⟩ : _ ∧ k_ ≠ gb304))) (fun _ hk => hk.2) (.int .i64 ((rd_T43 t300 x36_1).f0))) (fun _ hk => hk.2) (.int .i64 ((rd_T43 t300 x36_1).f1))) (fun _ hk => trivial)⟩, ⟨by (with_reducible repeat (first | refine blk_drewN ?_ _ | refine blk_drew ?_ | refine blk_alloc ?_ _)); refine blk_far ?_ NB293_304.out _; (with_reducible repeat (first | refine blk_drewN ?_ _ | refine blk_drew ?_ | refine blk_alloc ?_ _)); refine blk_far ?_ NB293_304.out _; (with_reducible repeat (first | refine blk_drewN ?_ _ | refine blk_drew ?_ | refine blk_alloc ?_ _)); exact BK293.out⟩, ⟨z56_⟩⟩
      rw [if_pos c18] at H
      have c18b0 : (((rd_T43 t300 x36_1).f0) == t296) = true := beq_iff_eq.mpr c18
      have c18b1 : (((rd_T43 t300 x36_1).f0) != t296) = false := bne_eq_false_iff_eq.mpr c18
      clear c18
      simp only [Option.some.injEq, Prod.mk.injEq] at H
      obtain ⟨rfl, rfl, rfl, rfl⟩ := H
      have p303 : 0 ≤ (x36_1 : Int) := of_decide_eq_true z178_
      have q303 : x36_1 < (t300.length : Int) := of_decide_eq_true z178_
      obtain ⟨ad303, e303, hx303_0, hx303_1⟩ := at_T43 (Kd.R_reads' HO_34.out).2.2 x36_1 p303 q303
      cases e303
      replace p303 := eq_true p303
      replace q303 := eq_true q303
      go_wp2_with (first | ((with_reducible refine gate_dst (N := 13) rfl ?_); refine box_event ?hg (N := 13) ?hd (cs := #[.int .i64 0, .int .i64 0]) (t := 43) ?hr ?_; (case hd => rfl); (case hg => rfl); (case hr => exact z181_); intro gb304 hg w19 hbox hb; replace HO_34 := Aside0.mk (Kd.R_below (Kd.R_elderB z144_ gb304 (Nat.le_of_eq hg.symm)) hb); have BK304 := Aside0.mk (hbox); have GW304 := Aside0.mk ((z47_ : w.heap.size ≤ gb304)); have GE304 := Aside0.mk ((z47_ : w.heap.size ≤ gb304)); replace HB := Aside0.mk (below_step z88_ hb); have NB293_304 := Aside0.mk ((z25_ : gb293 ≠ gb304)); have NB304_293 := Aside0.mk ((z24_ : gb304 ≠ gb293)); replace BK293 := Aside0.mk (blk_below (g := gb293) (o := .cells #[.int .i64 x294000_1, .int .i64 x294001_1, .int .i64 x294002_1] 49 (0, 0)) z131_ hb); clear hb hbox hg; have hnb20 := NB304_293.out; have hnc20 := NB293_304.out; have hcz21_0 : w19.cell? ⟨gb304, 0, none⟩ = some (.int .i64 0) := (blk_cell BK304.out 0).trans rfl; have hcz21_1 : w19.cell? ⟨gb304, 1, none⟩ = some (.int .i64 0) := (blk_cell BK304.out 1).trans rfl; have hfz21_0 := blk_frozen BK304.out 0; have hfz21_1 := blk_frozen BK304.out 1; have hcz22_0 : w19.cell? ⟨gb293, 0, none⟩ = some (.int .i64 x294000_1) := (blk_cell BK293.out 0).trans rfl; have hcz22_1 : w19.cell? ⟨gb293, 1, none⟩ = some (.int .i64 x294001_1) := (blk_cell BK293.out 1).trans rfl; have hcz22_2 : w19.cell? ⟨gb293, 2, none⟩ = some (.int .i64 x294002_1) := (blk_cell BK293.out 2).trans rfl; have hfz22_0 := blk_frozen BK293.out 0; have hfz22_1 := blk_frozen BK293.out 1; have hfz22_2 := blk_frozen BK293.out 2))
      refine bodyPost_ret (results_ct rfl _ _ gb293 49 #[.int .i64 t294, .int .i64 t295, .int .i64 ((rd_T43 t300 x36_1).f1)] (0, 0) _ rfl (by (with_reducible repeat (first | refine blk_drewN ?_ _ | refine blk_drew ?_ | refine blk_alloc ?_ _)); refine blk_put (cs := #[.int .i64 t294, .int .i64 t295, .int .i64 x294002_1]) ?_ 2 _ rfl; (with_reducible repeat (first | refine blk_drewN ?_ _ | refine blk_drew ?_ | refine blk_alloc ?_ _)); refine blk_put (cs := #[.int .i64 t294, .int .i64 x294001_1, .int .i64 x294002_1]) ?_ 1 _ rfl; (with_reducible repeat (first | refine blk_drewN ?_ _ | refine blk_drew ?_ | refine blk_alloc ?_ _)); refine blk_put (cs := #[.int .i64 x294000_1, .int .i64 x294001_1, .int .i64 x294002_1]) ?_ 0 _ rfl; (with_reducible repeat (first | refine blk_drewN ?_ _ | refine blk_drew ?_ | refine blk_alloc ?_ _)); refine blk_far ?_ NB293_304.out _; (with_reducible repeat (first | refine blk_drewN ?_ _ | refine blk_drew ?_ | refine blk_alloc ?_ _)); refine blk_far ?_ NB293_304.out _; (with_reducible repeat (first | refine blk_drewN ?_ _ | refine blk_drew ?_ | refine blk_alloc ?_ _)); exact BK293.out) Try.underlying49 rfl (by kernel_rfl)) rfl ?_
      exact ⟨z155_, z56_⟩
/-! ### locate_pageSize: function 46 -/
def locate_pageSize.l0 : Nat → Int → List (S28) → Int → Int → Option (Int)
  | 0, _, _, _, _ => none
  | k + 1, x3, x7, x8, x9 => if x9 < x8 then (if 0 ≤ x9 then (if x9 < (x7.length : Int) then (locate_pageSize.l0 k (wrap64 (x3 + (((rd_T28 x7 x9).f0).size : Int))) x7 x8 (wrap64 (x9 + 1))) else (none)) else (none)) else (some x3)
def locate_pageSize.f (k : Nat) (l0_0 : List (S28)) : Option (Int) := locate_pageSize.l0 k 0 l0_0 (l0_0.length : Int) 0
theorem locate_pageSize.mono_l : ∀ k, (∀ y0 y1 y2 y3, LeO (locate_pageSize.l0 k y0 y1 y2 y3) (locate_pageSize.l0 (k + 1) y0 y1 y2 y3))
  | 0 => fun _ _ _ _ r h => by simp [locate_pageSize.l0] at h
  | k + 1 => by
    have ih0 := locate_pageSize.mono_l k
    · intro y0 y1 y2 y3
      unfold locate_pageSize.l0
      repeat' first | (with_reducible first | exact ih0 _ _ _ _ | exact LeO.refl _ | exact LeO.none _ | refine LeO.ite ?_ ?_ | refine LeO.bind ?_ (fun _ => ?_)) | exact ih0 _ _ _ _ | exact LeO.none _ | refine LeO.ite ?_ ?_ | refine LeO.bind ?_ (fun _ => ?_)
theorem locate_pageSize.mono : ∀ a0 k, LeO (locate_pageSize.f k a0) (locate_pageSize.f (k + 1) a0) := by
  intro a0 k
  have ih0 := locate_pageSize.mono_l k
  unfold locate_pageSize.f
  repeat' first | (with_reducible first | exact ih0 _ _ _ _ | exact LeO.refl _ | exact LeO.none _ | refine LeO.ite ?_ ?_ | refine LeO.bind ?_ (fun _ => ?_)) | exact ih0 _ _ _ _ | exact LeO.none _ | refine LeO.ite ?_ ?_ | refine LeO.bind ?_ (fun _ => ?_)
set_option maxHeartbeats 8000000 in
set_option maxRecDepth 100000 in
theorem locate_pageSize.calls (k : Nat) (A0_0 : Option Addr) (c0_0 : Nat) (l0_0 : List (S28)) (r : Int) (w : World) (hr0_0 : Kd.C k28 w A0_0 l0_0.length l0_0) (hc0_0 : l0_0.length ≤ c0_0) (h : locate_pageSize.f k l0_0 = some r) :
    Calls Try.prog 46 #[.agg #[.slice A0_0 l0_0.length c0_0]] w fun e w' => e = .returned (.int .i64 r) ∧ Below w.heap.size w w' := by
  have hu24 := Try.underlying24
  have hu28 := Try.underlying28
  have HR0_0 := Aside0.mk hr0_0
  have HC0_0 := Aside0.mk hc0_0
  clear hr0_0 hc0_0
  have HB := Aside0.mk (Below.refl w.heap.size w)
  have H : (locate_pageSize.l0 k 0 l0_0 (l0_0.length : Int) 0) = some r := h
  clear h
  have H' := Aside0.mk H
  clear H
  go_enter Try.func46, Try.ntmps46
  go_wp2_with (first | ((with_reducible refine gate_dst (N := 1) rfl ?_); refine box_event ?hg (N := 1) ?hd (cs := #[.slice A0_0 l0_0.length c0_0]) (t := 24) ?hr ?_; (case hd => rfl); (case hg => rfl); (case hr => exact z181_); intro gb305 hg w2 hbox hb; have BK305 := Aside0.mk (hbox); have GW305 := Aside0.mk ((z74_ : w.heap.size ≤ gb305)); have GE305 := Aside0.mk ((z74_ : w.heap.size ≤ gb305)); replace HB := Aside0.mk (below_step z103_ hb); clear hb hbox hg; have hcz3_0 : w2.cell? ⟨gb305, 0, none⟩ = some (.slice A0_0 l0_0.length c0_0) := (blk_cell BK305.out 0).trans rfl; have hfz3_0 := blk_frozen BK305.out 0))
  go_loopg [3, 9] k (fun kq v3 v9 w' => ∃ (x3_1 : Int) (x9_1 : Int), v3 = .int .i64 x3_1 ∧ v9 = .int .i64 x9_1 ∧ Aside0 (locate_pageSize.l0 kq x3_1 l0_0 (l0_0.length : Int) x9_1 = some r) ∧ Aside0 (kq ≤ k) ∧ Aside0 (w'.heap[gb305]? = some (.cells #[(.slice A0_0 l0_0.length c0_0)] 24 (0, 0))) ∧ Aside0 (Below w.heap.size w w'))
  case atStart => exact ⟨(0), (0), z180_, z180_, H', ⟨Nat.le_refl _⟩, ⟨z132_⟩, ⟨z89_⟩⟩
  case round =>
    clear H'; (try clear p2); (try clear hcz3_0); (try clear hfz3_0)
    obtain ⟨x3_1, x9_1, rfl, rfl, HA, HK1, BK305, HB⟩ := hrel
    cases gk with
    | zero => exact absurd HA.out (by simp [locate_pageSize.l0])
    | succ k1 =>
      have H := HA.out
      clear HA
      simp only [locate_pageSize.l0] at H
      by_cases c4 : x9_1 < (l0_0.length : Int)
      rotate_left
      · rw [if_neg c4] at H
        have c4b0 : decide (x9_1 < (l0_0.length : Int)) = false := decide_eq_false c4
        clear c4
        obtain rfl := Option.some.inj H
        go_wp2
        go_ret
        exact ⟨z155_, z89_⟩
      rw [if_pos c4] at H
      have c4b0 : decide (x9_1 < (l0_0.length : Int)) = true := decide_eq_true c4
      clear c4
      by_cases c5 : 0 ≤ x9_1
      rotate_left
      · rw [if_neg c5] at H
        exact absurd H (by simp)
      rw [if_pos c5] at H
      have c5b0 : decide (0 ≤ x9_1) = true := decide_eq_true c5
      clear c5
      by_cases c6 : x9_1 < (l0_0.length : Int)
      rotate_left
      · rw [if_neg c6] at H
        exact absurd H (by simp)
      rw [if_pos c6] at H
      have c6b0 : decide (x9_1 < (l0_0.length : Int)) = true := decide_eq_true c6
      clear c6
      have H' := Aside0.mk H
      clear H
      have p306 : 0 ≤ (x9_1 : Int) := of_decide_eq_true z178_
      have q306 : x9_1 < (l0_0.length : Int) := of_decide_eq_true z178_
      obtain ⟨ad306, A306_1, c306_1, e306, hx306_0, hx306_1, hx306_2, hx306_3, hx306_4, hx306_5, hx306_6, hx306_7, hx306_8, hl306_1, hi306_1⟩ := at_T28 HR0_0.out x9_1 p306 q306
      cases e306
      replace hx306_0 := (HB.out.cell (World.block_lt_of_cell? w _ hx306_0)).trans hx306_0
      replace hx306_1 := (HB.out.cell (World.block_lt_of_cell? w _ hx306_1)).trans hx306_1
      replace hx306_2 := (HB.out.cell (World.block_lt_of_cell? w _ hx306_2)).trans hx306_2
      replace hx306_3 := (HB.out.cell (World.block_lt_of_cell? w _ hx306_3)).trans hx306_3
      replace hx306_4 := (HB.out.cell (World.block_lt_of_cell? w _ hx306_4)).trans hx306_4
      replace hx306_5 := (HB.out.cell (World.block_lt_of_cell? w _ hx306_5)).trans hx306_5
      replace hx306_6 := (HB.out.cell (World.block_lt_of_cell? w _ hx306_6)).trans hx306_6
      replace hx306_7 := (HB.out.cell (World.block_lt_of_cell? w _ hx306_7)).trans hx306_7
      replace hx306_8 := (HB.out.cell (World.block_lt_of_cell? w _ hx306_8)).trans hx306_8
      have HR306_1 := Aside0.mk hi306_1
      have HC306_1 := Aside0.mk hl306_1
      clear hi306_1 hl306_1
      replace p306 := eq_true p306
      replace q306 := eq_true q306
      go_wp2_with (first | ((with_reducible refine gate_dst (N := 5) rfl ?_); refine box_event ?hg (N := 5) ?hd (cs := #[.string (⟨#[]⟩ : ByteArray), .slice none 0 0, .int .i64 0, .int .i64 0, .int .i64 0, .bool false, .int .i64 0, .bool false, .bool false]) (t := 28) ?hr ?_; (case hd => rfl); (case hg => rfl); (case hr => exact z181_); intro gb307 hg w7 hbox hb; have BK307 := Aside0.mk (hbox); have GW307 := Aside0.mk ((z48_ : w.heap.size ≤ gb307)); have GE307 := Aside0.mk ((z48_ : w.heap.size ≤ gb307)); replace HB := Aside0.mk (below_step z89_ hb); have NB305_307 := Aside0.mk ((by rw [hg]; exact Nat.ne_of_lt (blk_lt (g := gb305) (o := .cells #[.slice (some ad306) l0_0.length c0_0] 24 (0, 0)) z132_) : gb305 ≠ gb307)); have NB307_305 := Aside0.mk ((by rw [hg]; exact Nat.ne_of_gt (blk_lt (g := gb305) (o := .cells #[.slice (some ad306) l0_0.length c0_0] 24 (0, 0)) z132_) : gb307 ≠ gb305)); replace BK305 := Aside0.mk (blk_below (g := gb305) (o := .cells #[.slice (some ad306) l0_0.length c0_0] 24 (0, 0)) z132_ hb); clear hb hbox hg; have hnb8 := NB307_305.out; have hnc8 := NB305_307.out; have hcz9_0 : w7.cell? ⟨gb307, 0, none⟩ = some (.string (⟨#[]⟩ : ByteArray)) := (blk_cell BK307.out 0).trans rfl; have hcz9_1 : w7.cell? ⟨gb307, 1, none⟩ = some (.slice none 0 0) := (blk_cell BK307.out 1).trans rfl; have hcz9_2 : w7.cell? ⟨gb307, 2, none⟩ = some (.int .i64 0) := (blk_cell BK307.out 2).trans rfl; have hcz9_3 : w7.cell? ⟨gb307, 3, none⟩ = some (.int .i64 0) := (blk_cell BK307.out 3).trans rfl; have hcz9_4 : w7.cell? ⟨gb307, 4, none⟩ = some (.int .i64 0) := (blk_cell BK307.out 4).trans rfl; have hcz9_5 : w7.cell? ⟨gb307, 5, none⟩ = some (.bool false) := (blk_cell BK307.out 5).trans rfl; have hcz9_6 : w7.cell? ⟨gb307, 6, none⟩ = some (.int .i64 0) := (blk_cell BK307.out 6).trans rfl; have hcz9_7 : w7.cell? ⟨gb307, 7, none⟩ = some (.bool false) := (blk_cell BK307.out 7).trans rfl; have hcz9_8 : w7.cell? ⟨gb307, 8, none⟩ = some (.bool false) := (blk_cell BK307.out 8).trans rfl; have hfz9_0 := blk_frozen BK307.out 0; have hfz9_1 := blk_frozen BK307.out 1; have hfz9_2 := blk_frozen BK307.out 2; have hfz9_3 := blk_frozen BK307.out 3; have hfz9_4 := blk_frozen BK307.out 4; have hfz9_5 := blk_frozen BK307.out 5; have hfz9_6 := blk_frozen BK307.out 6; have hfz9_7 := blk_frozen BK307.out 7; have hfz9_8 := blk_frozen BK307.out 8))
      go_roundg k1
      case measure => have := HK1.out; omega
      case rel => exact ⟨(wrap64 (x3_1 + (((rd_T28 l0_0 x9_1).f0).size : Int))), (wrap64 (x9_1 + 1)), z180_, z180_, H', ⟨z191_⟩, ⟨by (with_reducible repeat (first | refine blk_drewN ?_ _ | refine blk_drew ?_ | refine blk_alloc ?_ _)); refine blk_far ?_ NB305_307.out _; (with_reducible repeat (first | refine blk_drewN ?_ _ | refine blk_drew ?_ | refine blk_alloc ?_ _)); refine blk_far ?_ NB305_307.out _; (with_reducible repeat (first | refine blk_drewN ?_ _ | refine blk_drew ?_ | refine blk_alloc ?_ _)); refine blk_far ?_ NB305_307.out _; (with_reducible repeat (first | refine blk_drewN ?_ _ | refine blk_drew ?_ | refine blk_alloc ?_ _)); refine blk_far ?_ NB305_307.out _; (with_reducible repeat (first | refine blk_drewN ?_ _ | refine blk_drew ?_ | refine blk_alloc ?_ _)); refine blk_far ?_ NB305_307.out _; (with_reducible repeat (first | refine blk_drewN ?_ _ | refine blk_drew ?_ | refine blk_alloc ?_ _)); refine blk_far ?_ NB305_307.out _; (with_reducible repeat (first | refine blk_drewN ?_ _ | refine blk_drew ?_ | refine blk_alloc ?_ _)); refine blk_far ?_ NB305_307.out _; (with_reducible repeat (first | refine blk_drewN ?_ _ | refine blk_drew ?_ | refine blk_alloc ?_ _)); refine blk_far ?_ NB305_307.out _; (with_reducible repeat (first | refine blk_drewN ?_ _ | refine blk_drew ?_ | refine blk_alloc ?_ _)); refine blk_far ?_ NB305_307.out _; (with_reducible repeat (first | refine blk_drewN ?_ _ | refine blk_drew ?_ | refine blk_alloc ?_ _)); exact BK305.out⟩, ⟨by repeat (first | (with_reducible first | exact HB.out | apply below_alloc | apply pw_below_drewN | apply below_drew1 | refine below_set ?_ GE305.out | refine below_set ?_ GE307.out) | exact HB.out)⟩⟩
end Go.Proofs.Ytiabffkfabmlpaa.PLocateBack
