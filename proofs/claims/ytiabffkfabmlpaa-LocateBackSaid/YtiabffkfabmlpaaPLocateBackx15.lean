-- WRITTEN BY wip/xprint.py of this repo, over the kit's print; functions the print does not take are by hand
import Derived.Test.YtiabffkfabmlpaaPLocateBackx0
import Derived.Test.YtiabffkfabmlpaaPLocateBackx7
import Derived.Test.YtiabffkfabmlpaaPLocateBackx11
import Derived.Test.YtiabffkfabmlpaaPLocateBackx14
namespace Go.Proofs.Ytiabffkfabmlpaa.PLocateBack
open Go.RowKit Go.Proofs.YtiabffkfabmlpaaW.PrintWords Go.Proofs.YtiabffkfabmlpaaW.PrintLast Go.Proofs.YtiabffkfabmlpaaW.PrintMore
attribute [local go_sem] max2_int min2_int max_two min_two max_three min_three max_four min_four   -- for this text's walks alone
set_option linter.unusedVariables false
set_option linter.unusedSimpArgs false
/-! ### locate_Offset: function 25 -/
mutual
def locate_Offset.j0 : Nat → List (S24) → Int → Int → Bool → Option (Int × Bool)
  | 0, _, _, _, _ => none
  | k + 1, x0, x1, x2, x34 => if x34 = true then (some (0, false)) else (if 0 ≤ x1 then (if x1 ≤ (x0.length : Int) then ((some (x0.take (x1 : Int).toNat : List (S24))).bind fun y309 => (locate_Offset.l0 k x0 x1 x2 0 y309 (y309.length : Int) 0)) else (none)) else (none))
def locate_Offset.l0 : Nat → List (S24) → Int → Int → Int → List (S24) → Int → Int → Option (Int × Bool)
  | 0, _, _, _, _, _, _, _ => none
  | k + 1, x0, x1, x2, x8, x37, x38, x39 => if x39 < x38 then (if 0 ≤ x39 then (if x39 < (x37.length : Int) then ((locate_pageSize.f k ((rd_T24 x37 x39).f0)).bind fun t315 => (locate_Offset.l0 k x0 x1 x2 (wrap64 (x8 + t315)) x37 x38 (wrap64 (x39 + 1)))) else (none)) else (none)) else (if 0 ≤ x1 then (if x1 < (x0.length : Int) then (if 0 ≤ x2 then (if x2 ≤ (((rd_T24 x0 x1).f0).length : Int) then ((some (((rd_T24 x0 x1).f0).take (x2 : Int).toNat : List (S28))).bind fun y317 => (locate_Offset.l1 k x8 y317 (y317.length : Int) 0)) else (none)) else (none)) else (none)) else (none))
def locate_Offset.l1 : Nat → Int → List (S28) → Int → Int → Option (Int × Bool)
  | 0, _, _, _, _ => none
  | k + 1, x8, x54, x55, x56 => if x56 < x55 then (if 0 ≤ x56 then (if x56 < (x54.length : Int) then (locate_Offset.l1 k (wrap64 (x8 + (((rd_T28 x54 x56).f0).size : Int))) x54 x55 (wrap64 (x56 + 1))) else (none)) else (none)) else (some (x8, true))
end
def locate_Offset.f (k : Nat) (l0 : List (S24)) (a1 : Int) (a2 : Int) : Option (Int × Bool) := if a1 < 0 then (locate_Offset.j0 k l0 a1 a2 true) else (if a1 ≥ (l0.length : Int) then (locate_Offset.j0 k l0 a1 a2 true) else (if a2 < 0 then (locate_Offset.j0 k l0 a1 a2 true) else (if 0 ≤ a1 then (if a1 < (l0.length : Int) then (locate_Offset.j0 k l0 a1 a2 (decide (a2 ≥ (((rd_T24 l0 a1).f0).length : Int)))) else (none)) else (none))))
theorem locate_Offset.mono_l : ∀ k, (∀ y0 y1 y2 y3, LeO (locate_Offset.j0 k y0 y1 y2 y3) (locate_Offset.j0 (k + 1) y0 y1 y2 y3)) ∧ (∀ y0 y1 y2 y3 y4 y5 y6, LeO (locate_Offset.l0 k y0 y1 y2 y3 y4 y5 y6) (locate_Offset.l0 (k + 1) y0 y1 y2 y3 y4 y5 y6)) ∧ (∀ y0 y1 y2 y3, LeO (locate_Offset.l1 k y0 y1 y2 y3) (locate_Offset.l1 (k + 1) y0 y1 y2 y3))
  | 0 => ⟨fun _ _ _ _ r h => by simp [locate_Offset.j0] at h, fun _ _ _ _ _ _ _ r h => by simp [locate_Offset.l0] at h, fun _ _ _ _ r h => by simp [locate_Offset.l1] at h⟩
  | k + 1 => by
    obtain ⟨ih0, ih1, ih2⟩ := locate_Offset.mono_l k
    refine ⟨?_, ?_, ?_⟩
    · intro y0 y1 y2 y3
      unfold locate_Offset.j0
      repeat' first | (with_reducible first | exact ih0 _ _ _ _ | exact ih1 _ _ _ _ _ _ _ | exact ih2 _ _ _ _ | exact locate_pageSize.mono _ _ | exact LeO.refl _ | exact LeO.none _ | refine LeO.ite ?_ ?_ | refine LeO.bind ?_ (fun _ => ?_)) | exact ih0 _ _ _ _ | exact ih1 _ _ _ _ _ _ _ | exact ih2 _ _ _ _ | exact locate_pageSize.mono _ _ | exact LeO.none _ | refine LeO.ite ?_ ?_ | refine LeO.bind ?_ (fun _ => ?_)
    · intro y0 y1 y2 y3 y4 y5 y6
      unfold locate_Offset.l0
      repeat' first | (with_reducible first | exact ih0 _ _ _ _ | exact ih1 _ _ _ _ _ _ _ | exact ih2 _ _ _ _ | exact locate_pageSize.mono _ _ | exact LeO.refl _ | exact LeO.none _ | refine LeO.ite ?_ ?_ | refine LeO.bind ?_ (fun _ => ?_)) | exact ih0 _ _ _ _ | exact ih1 _ _ _ _ _ _ _ | exact ih2 _ _ _ _ | exact locate_pageSize.mono _ _ | exact LeO.none _ | refine LeO.ite ?_ ?_ | refine LeO.bind ?_ (fun _ => ?_)
    · intro y0 y1 y2 y3
      unfold locate_Offset.l1
      repeat' first | (with_reducible first | exact ih0 _ _ _ _ | exact ih1 _ _ _ _ _ _ _ | exact ih2 _ _ _ _ | exact locate_pageSize.mono _ _ | exact LeO.refl _ | exact LeO.none _ | refine LeO.ite ?_ ?_ | refine LeO.bind ?_ (fun _ => ?_)) | exact ih0 _ _ _ _ | exact ih1 _ _ _ _ _ _ _ | exact ih2 _ _ _ _ | exact locate_pageSize.mono _ _ | exact LeO.none _ | refine LeO.ite ?_ ?_ | refine LeO.bind ?_ (fun _ => ?_)
theorem locate_Offset.mono : ∀ a0 a1 a2 k, LeO (locate_Offset.f k a0 a1 a2) (locate_Offset.f (k + 1) a0 a1 a2) := by
  intro a0 a1 a2 k
  obtain ⟨ih0, ih1, ih2⟩ := locate_Offset.mono_l k
  unfold locate_Offset.f
  repeat' first | (with_reducible first | exact ih0 _ _ _ _ | exact ih1 _ _ _ _ _ _ _ | exact ih2 _ _ _ _ | exact locate_pageSize.mono _ _ | exact LeO.refl _ | exact LeO.none _ | refine LeO.ite ?_ ?_ | refine LeO.bind ?_ (fun _ => ?_)) | exact ih0 _ _ _ _ | exact ih1 _ _ _ _ _ _ _ | exact ih2 _ _ _ _ | exact locate_pageSize.mono _ _ | exact LeO.none _ | refine LeO.ite ?_ ?_ | refine LeO.bind ?_ (fun _ => ?_)
set_option maxHeartbeats 8000000 in
set_option maxRecDepth 100000 in
theorem locate_Offset.calls (k : Nat) (A0 : Option Addr) (c0 : Nat) (l0 : List (S24)) (a1 : Int) (a2 : Int) (r1 : Int) (r2 : Bool) (w : World) (hr0 : Kd.C k24 w A0 l0.length l0) (hc0 : l0.length ≤ c0) (h : locate_Offset.f k l0 a1 a2 = some (r1, r2)) :
    Calls Try.prog 25 #[.slice A0 l0.length c0, .int .i64 a1, .int .i64 a2] w fun e w' => e = .returned (.tuple #[.int .i64 r1, .bool r2]) ∧ Below w.heap.size w w' := by
  have hu24 := Try.underlying24
  have hu28 := Try.underlying28
  have HR0 := Aside0.mk hr0
  have HC0 := Aside0.mk hc0
  clear hr0 hc0
  have HB := Aside0.mk (Below.refl w.heap.size w)
  have H : (if a1 < 0 then (locate_Offset.j0 k l0 a1 a2 true) else (if a1 ≥ (l0.length : Int) then (locate_Offset.j0 k l0 a1 a2 true) else (if a2 < 0 then (locate_Offset.j0 k l0 a1 a2 true) else (if 0 ≤ a1 then (if a1 < (l0.length : Int) then (locate_Offset.j0 k l0 a1 a2 (decide (a2 ≥ (((rd_T24 l0 a1).f0).length : Int)))) else (none)) else (none))))) = some (r1, r2) := h
  clear h
  have HC4 := Aside0.mk H
  clear H
  go_enter Try.func25, Try.ntmps25
  go_upto_region 1 with (fail)
  go_cut [34] (fun v34 wc => ∃ (kq : Nat) (x34_3 : Bool), v34 = .bool x34_3 ∧ Aside0 (locate_Offset.j0 kq l0 a1 a2 x34_3 = some (r1, r2)) ∧ Aside0 (kq ≤ k) ∧ Aside0 (Below w.heap.size w wc))
  case first =>
    have H := HC4.out
    clear HC4
    by_cases c5 : a1 < 0
    · rw [if_pos c5] at H
      have c5b0 : decide (a1 < 0) = true := decide_eq_true c5
      clear c5
      (first | rw [c5b0] | (simp only [i64_w, i32_w]; rw [c5b0]) | skip)
      have H' := Aside0.mk H
      clear H
      go_wp2
      go_meet
      case rel => exact ⟨_, (true), z180_, H', ⟨z183_⟩, ⟨z103_⟩⟩
    rw [if_neg c5] at H
    have c5b0 : decide (a1 < 0) = false := decide_eq_false c5
    clear c5
    (first | rw [c5b0] | (simp only [i64_w, i32_w]; rw [c5b0]) | skip)
    by_cases c6 : a1 ≥ (l0.length : Int)
    · rw [if_pos c6] at H
      have c6b0 : decide ((l0.length : Int) ≤ a1) = true := decide_eq_true c6
      clear c6
      have H' := Aside0.mk H
      clear H
      go_wp2
      go_meet
      case rel => exact ⟨_, (true), z180_, H', ⟨z183_⟩, ⟨z103_⟩⟩
    rw [if_neg c6] at H
    have c6b0 : decide ((l0.length : Int) ≤ a1) = false := decide_eq_false c6
    clear c6
    by_cases c7 : a2 < 0
    · rw [if_pos c7] at H
      have c7b0 : decide (a2 < 0) = true := decide_eq_true c7
      clear c7
      have H' := Aside0.mk H
      clear H
      go_wp2
      go_meet
      case rel => exact ⟨_, (true), z180_, H', ⟨z183_⟩, ⟨z103_⟩⟩
    rw [if_neg c7] at H
    have c7b0 : decide (a2 < 0) = false := decide_eq_false c7
    clear c7
    by_cases c8 : 0 ≤ a1
    rotate_left
    · rw [if_neg c8] at H
      exact absurd H (by simp)
    rw [if_pos c8] at H
    have c8b0 : decide (0 ≤ a1) = true := decide_eq_true c8
    clear c8
    by_cases c9 : a1 < (l0.length : Int)
    rotate_left
    · rw [if_neg c9] at H
      exact absurd H (by simp)
    rw [if_pos c9] at H
    have c9b0 : decide (a1 < (l0.length : Int)) = true := decide_eq_true c9
    clear c9
    have H' := Aside0.mk H
    clear H
    have p308 : 0 ≤ (a1 : Int) := of_decide_eq_true z178_
    have q308 : a1 < (l0.length : Int) := of_decide_eq_true z178_
    obtain ⟨ad308, A308_0, c308_0, e308, hx308_0, hl308_0, hi308_0⟩ := at_T24 HR0.out a1 p308 q308
    cases e308
    replace hx308_0 := (HB.out.cell (World.block_lt_of_cell? w _ hx308_0)).trans hx308_0
    have HR308_0 := Aside0.mk hi308_0
    have HC308_0 := Aside0.mk hl308_0
    clear hi308_0 hl308_0
    replace p308 := eq_true p308
    replace q308 := eq_true q308
    go_wp2
    go_meet
    case rel => exact ⟨_, (decide (a2 ≥ (((rd_T24 l0 a1).f0).length : Int))), z180_, H', ⟨z183_⟩, ⟨z103_⟩⟩
  case rest =>
    clear HC4; (try clear c2); (try clear p2); (try clear c3); (try clear p3); (try clear q3); (try clear hx3); (try clear c5); (try clear c5b0); (try clear c6); (try clear c6b0); (try clear c7); (try clear c7b0); (try clear c8); (try clear c8b0); (try clear c9); (try clear c9b0); (try clear hx308_0); (try clear p308); (try clear q308)
    obtain ⟨kq, x34_3, rfl, HA, HJ3, HB⟩ := hcut
    cases kq with
    | zero => exact absurd HA.out (by simp [locate_Offset.j0])
    | succ kj3 =>
      have H := HA.out
      clear HA
      simp only [locate_Offset.j0] at H
      by_cases c10 : x34_3 = true
      · subst c10
        have H1 : (some (0, false)) = some (r1, r2) := by rw [if_pos rfl] at H; exact H
        clear H
        have H := H1
        clear H1
        simp only [Option.some.injEq, Prod.mk.injEq] at H
        obtain ⟨rfl, rfl⟩ := H
        go_wp2
        go_ret2
        exact ⟨z155_, z103_⟩
      replace c10 := Bool.eq_false_iff.mpr c10
      subst c10
      have H1 : (if 0 ≤ a1 then (if a1 ≤ (l0.length : Int) then ((some (l0.take (a1 : Int).toNat : List (S24))).bind fun y309 => (locate_Offset.l0 kj3 l0 a1 a2 0 y309 (y309.length : Int) 0)) else (none)) else (none)) = some (r1, r2) := by rw [if_neg (show ¬ (false = true) by decide)] at H; exact H
      clear H
      have H := H1
      clear H1
      by_cases c11 : 0 ≤ a1
      rotate_left
      · rw [if_neg c11] at H
        exact absurd H (by simp)
      rw [if_pos c11] at H
      have c11b0 := eq_true c11
      have c11b1 : decide (0 ≤ a1) = true := decide_eq_true c11
      clear c11
      by_cases c12 : a1 ≤ (l0.length : Int)
      rotate_left
      · rw [if_neg c12] at H
        exact absurd H (by simp)
      rw [if_pos c12] at H
      have c12b0 := eq_true c12
      have c12b1 : decide (a1 ≤ (l0.length : Int)) = true := decide_eq_true c12
      clear c12
      obtain ⟨y309, hy309⟩ : ∃ y_ : List (S24), y_ = (l0.take (a1 : Int).toNat) := ⟨_, rfl⟩
      replace H : (locate_Offset.l0 kj3 l0 a1 a2 0 y309 (y309.length : Int) 0) = some (r1, r2) := by first | (rw [hy309]; with_reducible exact H) | (have H2_ := (Option.bind_some _ _).symm.trans H; rw [hy309]; with_reducible exact H2_) | (have H2_ := (Option.bind_some _ _).symm.trans H; with_reducible exact H2_) | with_reducible exact H | (rw [hy309]; exact H) | exact H
      have Ny309 := Aside0.mk hy309
      clear hy309
      have H' := Aside0.mk H
      clear H
      have q13 : (a1 : Int) ≤ ((l0.length : Int) : Int) := of_decide_eq_true z178_
      obtain ⟨i013, hi013, _, hsz13, _⟩ := info_parts info24
      have hroom13 : l0.length ≤ c0 := HC0.out
      have hC13 : Kd.C k24 _ A0 l0.length l0 := HR0.out
      have hcut13 := cut_to (P := Try.prog) 46 24 .i64 Try.underlying46 hi013 A0 l0.length c0 a1 (of_decide_eq_true z178_) q13 hroom13
      have hr13 := Kd.C_take (m := (a1 : Int).toNat) hC13 (by omega)
      have hy13 : y309.length = (a1 : Int).toNat := (by rw [Ny309.out, List.length_take]; omega)
      rw [← Ny309.out] at hr13
      rw [← hy13] at hcut13
      have HR312 := Aside0.mk hr13
      have HC312 := Aside0.mk (show y309.length ≤ c0 from by omega)
      clear hr13 hC13 hroom13 hi013 hsz13
      have KY13 := Aside0.mk hy13
      clear hy13
      replace q13 := eq_true q13
      go_wp2
      go_loopg [8, 39] kj3 (fun kq v8 v39 w' => ∃ (x8_2 : Int) (x39_2 : Int), v8 = .int .i64 x8_2 ∧ v39 = .int .i64 x39_2 ∧ Aside0 (locate_Offset.l0 kq l0 a1 a2 x8_2 y309 (y309.length : Int) x39_2 = some (r1, r2)) ∧ Aside0 (kq ≤ kj3) ∧ Aside0 (Below w.heap.size w w'))
      case atStart => exact ⟨(0), (0), z180_, z180_, H', ⟨Nat.le_refl _⟩, ⟨z103_⟩⟩
      case round =>
        clear H'; (try clear c1); (try clear q1); (try clear c2); (try clear p2); (try clear c3); (try clear p3); (try clear q3); (try clear hx3); (try clear c5); (try clear c5b0); (try clear c6); (try clear c6b0); (try clear c7); (try clear c7b0); (try clear c8); (try clear c8b0); (try clear c9); (try clear c9b0); (try clear c10); (try clear c11); (try clear c11b0); (try clear c11b1); (try clear c12); (try clear c12b0); (try clear c12b1); (try clear q13); (try clear hx308_0); (try clear p2); (try clear p3); (try clear p308); (try clear q13); (try clear q3); (try clear q308)
        obtain ⟨x8_2, x39_2, rfl, rfl, HA, HK2, HB⟩ := hrel
        cases gk with
        | zero => exact absurd HA.out (by simp [locate_Offset.l0])
        | succ k2 =>
          have H := HA.out
          clear HA
          simp only [locate_Offset.l0] at H
          by_cases c14 : x39_2 < (y309.length : Int)
          · rw [if_pos c14] at H
            have c14b0 : decide (x39_2 < (y309.length : Int)) = true := decide_eq_true c14
            clear c14
            by_cases c15 : 0 ≤ x39_2
            rotate_left
            · rw [if_neg c15] at H
              exact absurd H (by simp)
            rw [if_pos c15] at H
            have c15b0 : decide (0 ≤ x39_2) = true := decide_eq_true c15
            clear c15
            by_cases c16 : x39_2 < (y309.length : Int)
            rotate_left
            · rw [if_neg c16] at H
              exact absurd H (by simp)
            rw [if_pos c16] at H
            have c16b0 : decide (x39_2 < (y309.length : Int)) = true := decide_eq_true c16
            clear c16
            replace H := Option.bind_eq_some_iff.mp H
            obtain ⟨t315, A170, H⟩ := H
            replace H : (locate_Offset.l0 k2 l0 a1 a2 (wrap64 (x8_2 + t315)) y309 (y309.length : Int) (wrap64 (x39_2 + 1))) = some (r1, r2) := H
            have A17 := Aside0.mk A170
            clear A170
            have H' := Aside0.mk H
            clear H
            have p313 : 0 ≤ (x39_2 : Int) := of_decide_eq_true z178_
            have q313 : x39_2 < (y309.length : Int) := of_decide_eq_true z178_
            obtain ⟨ad313, A313_0, c313_0, e313, hx313_0, hl313_0, hi313_0⟩ := at_T24 HR312.out x39_2 p313 q313
            cases e313
            replace hx313_0 := (HB.out.cell (World.block_lt_of_cell? w _ hx313_0)).trans hx313_0
            have HR313_0 := Aside0.mk hi313_0
            have HC313_0 := Aside0.mk hl313_0
            clear hi313_0 hl313_0
            replace p313 := eq_true p313
            replace q313 := eq_true q313
            go_wp2_with (first | ((with_reducible refine gate_dst (N := 10) rfl ?_); (try (refine gate_guard (by rfl) ?_; dsimp only)); refine box_event ?hg (N := 10) ?hd (cs := #[.slice none 0 0]) (t := 24) ?hr ?_; (case hd => rfl); (case hg => rfl); (case hr => exact z181_); intro gb314 hg w18 hbox hb; have BK314 := Aside0.mk (hbox); have GW314 := Aside0.mk ((z74_ : w.heap.size ≤ gb314)); have GE314 := Aside0.mk ((z74_ : w.heap.size ≤ gb314)); replace HB := Aside0.mk (below_step z103_ hb); clear hb hbox hg; have hcz19_0 : w18.cell? ⟨gb314, 0, none⟩ = some (.slice none 0 0) := (blk_cell BK314.out 0).trans rfl; have hfz19_0 := blk_frozen BK314.out 0) | ((with_reducible refine gate_callee (f := 46) rfl ?_); refine goesL_ (some 45) rfl rfl Try.func46 (by kernel_rfl) rfl #[.agg #[.slice A313_0 ((rd_T24 y309 x39_2).f0).length c313_0]] rfl z99_ ?_; (with_reducible refine (locate_pageSize.calls k2 _ _ ((rd_T24 y309 x39_2).f0) t315 _ ?side1 ?side2 A17.out).mono ?_); (case side1 => exact Kd.C_below HR313_0.out z90_); (case side2 => exact HC313_0.out); rintro e w20 ⟨rfl, hb⟩; refine ⟨_, rfl, ?_⟩; replace BK314 := Aside0.mk (blk_below (g := gb314) (o := .cells #[.slice A313_0 ((rd_T24 y309 x39_2).f0).length c313_0] 24 (0, 0)) (y26_ BK314.out) hb); replace HB := Aside0.mk (below_step z90_ hb); (try clear hb); (try clear hb2); (try clear hk); (try clear hi)))
            go_roundg k2
            case measure => have := HJ3.out; have := HK2.out; omega
            case rel => exact ⟨(wrap64 (x8_2 + t315)), (wrap64 (x39_2 + 1)), z180_, z180_, H', ⟨by have := HJ3.out; have := HK2.out; omega⟩, ⟨z90_⟩⟩
          rw [if_neg c14] at H
          have c14b0 : decide (x39_2 < (y309.length : Int)) = false := decide_eq_false c14
          clear c14
          by_cases c21 : 0 ≤ a1
          rotate_left
          · rw [if_neg c21] at H
            exact absurd H (by simp)
          rw [if_pos c21] at H
          have c21b0 : decide (0 ≤ a1) = true := decide_eq_true c21
          clear c21
          by_cases c22 : a1 < (l0.length : Int)
          rotate_left
          · rw [if_neg c22] at H
            exact absurd H (by simp)
          rw [if_pos c22] at H
          have c22b0 : decide (a1 < (l0.length : Int)) = true := decide_eq_true c22
          clear c22
          by_cases c23 : 0 ≤ a2
          rotate_left
          · rw [if_neg c23] at H
            exact absurd H (by simp)
          rw [if_pos c23] at H
          have c23b0 := eq_true c23
          have c23b1 : decide (0 ≤ a2) = true := decide_eq_true c23
          clear c23
          by_cases c24 : a2 ≤ (((rd_T24 l0 a1).f0).length : Int)
          rotate_left
          · rw [if_neg c24] at H
            exact absurd H (by simp)
          rw [if_pos c24] at H
          have c24b0 := eq_true c24
          have c24b1 : decide (a2 ≤ (((rd_T24 l0 a1).f0).length : Int)) = true := decide_eq_true c24
          clear c24
          obtain ⟨y317, hy317⟩ : ∃ y_ : List (S28), y_ = (((rd_T24 l0 a1).f0).take (a2 : Int).toNat) := ⟨_, rfl⟩
          replace H : (locate_Offset.l1 k2 x8_2 y317 (y317.length : Int) 0) = some (r1, r2) := by first | (rw [hy317]; with_reducible exact H) | (have H2_ := (Option.bind_some _ _).symm.trans H; rw [hy317]; with_reducible exact H2_) | (have H2_ := (Option.bind_some _ _).symm.trans H; with_reducible exact H2_) | with_reducible exact H | (rw [hy317]; exact H) | exact H
          have Ny317 := Aside0.mk hy317
          clear hy317
          have H' := Aside0.mk H
          clear H
          have p316 : 0 ≤ (a1 : Int) := of_decide_eq_true z178_
          have q316 : a1 < (l0.length : Int) := of_decide_eq_true z178_
          obtain ⟨ad316, A316_0, c316_0, e316, hx316_0, hl316_0, hi316_0⟩ := at_T24 HR0.out a1 p316 q316
          cases e316
          replace hx316_0 := (HB.out.cell (World.block_lt_of_cell? w _ hx316_0)).trans hx316_0
          have HR316_0 := Aside0.mk hi316_0
          have HC316_0 := Aside0.mk hl316_0
          clear hi316_0 hl316_0
          replace p316 := eq_true p316
          replace q316 := eq_true q316
          have q25 : (a2 : Int) ≤ ((((rd_T24 l0 a1).f0).length : Int) : Int) := of_decide_eq_true z178_
          obtain ⟨i025, hi025, _, hsz25, _⟩ := info_parts info28
          have hroom25 : ((rd_T24 l0 a1).f0).length ≤ c316_0 := HC316_0.out
          have hC25 : Kd.C k28 _ A316_0 ((rd_T24 l0 a1).f0).length ((rd_T24 l0 a1).f0) := HR316_0.out
          have hcut25 := cut_to (P := Try.prog) 22 28 .i64 Try.underlying22 hi025 A316_0 ((rd_T24 l0 a1).f0).length c316_0 a2 (of_decide_eq_true z178_) q25 hroom25
          have hr25 := Kd.C_take (m := (a2 : Int).toNat) hC25 (by omega)
          have hy25 : y317.length = (a2 : Int).toNat := (by rw [Ny317.out, List.length_take]; omega)
          rw [← Ny317.out] at hr25
          rw [← hy25] at hcut25
          have HR320 := Aside0.mk hr25
          have HC320 := Aside0.mk (show y317.length ≤ c316_0 from by omega)
          clear hr25 hC25 hroom25 hi025 hsz25
          have KY25 := Aside0.mk hy25
          clear hy25
          replace q25 := eq_true q25
          go_wp2
          go_loopg [8, 56] k2 (fun kq v8 v56 w' => ∃ (x8_3 : Int) (x56_3 : Int), v8 = .int .i64 x8_3 ∧ v56 = .int .i64 x56_3 ∧ Aside0 (locate_Offset.l1 kq x8_3 y317 (y317.length : Int) x56_3 = some (r1, r2)) ∧ Aside0 (kq ≤ k2) ∧ Aside0 (Below w.heap.size w w'))
          case atStart => exact ⟨(x8_2), (0), z180_, z180_, H', ⟨Nat.le_refl _⟩, ⟨z103_⟩⟩
          case round =>
            clear H'; (try clear c1); (try clear q1); (try clear c2); (try clear p2); (try clear q2); (try clear c3); (try clear p3); (try clear q3); (try clear hx3); (try clear c4); (try clear c5); (try clear c5b0); (try clear c6); (try clear c6b0); (try clear p6); (try clear c7); (try clear c7b0); (try clear c8); (try clear c8b0); (try clear c9); (try clear c9b0); (try clear c10); (try clear c11); (try clear c11b0); (try clear c11b1); (try clear c12); (try clear c12b0); (try clear c12b1); (try clear q13); (try clear c14); (try clear c14b0); (try clear c15); (try clear c15b0); (try clear c16); (try clear c16b0); (try clear c21); (try clear c21b0); (try clear c22); (try clear c22b0); (try clear c23); (try clear c23b0); (try clear c23b1); (try clear c24); (try clear c24b0); (try clear c24b1); (try clear c25); (try clear q25); (try clear hcz19_0); (try clear hfz19_0); (try clear hx308_0); (try clear hx313_0); (try clear hx316_0); (try clear p2); (try clear p3); (try clear p308); (try clear p313); (try clear p316); (try clear q1); (try clear q13); (try clear q25); (try clear q3); (try clear q308); (try clear q313); (try clear q316)
            obtain ⟨x8_3, x56_3, rfl, rfl, HA, HK3, HB⟩ := hrel
            cases gk with
            | zero => exact absurd HA.out (by simp [locate_Offset.l1])
            | succ k3 =>
              have H := HA.out
              clear HA
              simp only [locate_Offset.l1] at H
              by_cases c26 : x56_3 < (y317.length : Int)
              rotate_left
              · rw [if_neg c26] at H
                have c26b0 : decide (x56_3 < (y317.length : Int)) = false := decide_eq_false c26
                clear c26
                simp only [Option.some.injEq, Prod.mk.injEq] at H
                obtain ⟨rfl, rfl⟩ := H
                go_wp2
                go_ret2
                exact ⟨z155_, z103_⟩
              rw [if_pos c26] at H
              have c26b0 : decide (x56_3 < (y317.length : Int)) = true := decide_eq_true c26
              clear c26
              by_cases c27 : 0 ≤ x56_3
              rotate_left
              · rw [if_neg c27] at H
                exact absurd H (by simp)
              rw [if_pos c27] at H
              have c27b0 : decide (0 ≤ x56_3) = true := decide_eq_true c27
              clear c27
              by_cases c28 : x56_3 < (y317.length : Int)
              rotate_left
              · rw [if_neg c28] at H
                exact absurd H (by simp)
              rw [if_pos c28] at H
              have c28b0 : decide (x56_3 < (y317.length : Int)) = true := decide_eq_true c28
              clear c28
              have H' := Aside0.mk H
              clear H
              have p321 : 0 ≤ (x56_3 : Int) := of_decide_eq_true z178_
              have q321 : x56_3 < (y317.length : Int) := of_decide_eq_true z178_
              obtain ⟨ad321, A321_1, c321_1, e321, hx321_0, hx321_1, hx321_2, hx321_3, hx321_4, hx321_5, hx321_6, hx321_7, hx321_8, hl321_1, hi321_1⟩ := at_T28 HR320.out x56_3 p321 q321
              cases e321
              replace hx321_0 := (HB.out.cell (World.block_lt_of_cell? w _ hx321_0)).trans hx321_0
              replace hx321_1 := (HB.out.cell (World.block_lt_of_cell? w _ hx321_1)).trans hx321_1
              replace hx321_2 := (HB.out.cell (World.block_lt_of_cell? w _ hx321_2)).trans hx321_2
              replace hx321_3 := (HB.out.cell (World.block_lt_of_cell? w _ hx321_3)).trans hx321_3
              replace hx321_4 := (HB.out.cell (World.block_lt_of_cell? w _ hx321_4)).trans hx321_4
              replace hx321_5 := (HB.out.cell (World.block_lt_of_cell? w _ hx321_5)).trans hx321_5
              replace hx321_6 := (HB.out.cell (World.block_lt_of_cell? w _ hx321_6)).trans hx321_6
              replace hx321_7 := (HB.out.cell (World.block_lt_of_cell? w _ hx321_7)).trans hx321_7
              replace hx321_8 := (HB.out.cell (World.block_lt_of_cell? w _ hx321_8)).trans hx321_8
              have HR321_1 := Aside0.mk hi321_1
              have HC321_1 := Aside0.mk hl321_1
              clear hi321_1 hl321_1
              replace p321 := eq_true p321
              replace q321 := eq_true q321
              go_wp2_with (first | ((with_reducible refine gate_dst (N := 12) rfl ?_); (try (refine gate_guard (by rfl) ?_; dsimp only)); refine box_event ?hg (N := 12) ?hd (cs := #[.string (⟨#[]⟩ : ByteArray), .slice none 0 0, .int .i64 0, .int .i64 0, .int .i64 0, .bool false, .int .i64 0, .bool false, .bool false]) (t := 28) ?hr ?_; (case hd => rfl); (case hg => rfl); (case hr => exact z181_); intro gb322 hg w29 hbox hb; have BK322 := Aside0.mk (hbox); have GW322 := Aside0.mk ((z74_ : w.heap.size ≤ gb322)); have GE322 := Aside0.mk ((z74_ : w.heap.size ≤ gb322)); replace HB := Aside0.mk (below_step z103_ hb); clear hb hbox hg; have hcz30_0 : w29.cell? ⟨gb322, 0, none⟩ = some (.string (⟨#[]⟩ : ByteArray)) := (blk_cell BK322.out 0).trans rfl; have hcz30_1 : w29.cell? ⟨gb322, 1, none⟩ = some (.slice none 0 0) := (blk_cell BK322.out 1).trans rfl; have hcz30_2 : w29.cell? ⟨gb322, 2, none⟩ = some (.int .i64 0) := (blk_cell BK322.out 2).trans rfl; have hcz30_3 : w29.cell? ⟨gb322, 3, none⟩ = some (.int .i64 0) := (blk_cell BK322.out 3).trans rfl; have hcz30_4 : w29.cell? ⟨gb322, 4, none⟩ = some (.int .i64 0) := (blk_cell BK322.out 4).trans rfl; have hcz30_5 : w29.cell? ⟨gb322, 5, none⟩ = some (.bool false) := (blk_cell BK322.out 5).trans rfl; have hcz30_6 : w29.cell? ⟨gb322, 6, none⟩ = some (.int .i64 0) := (blk_cell BK322.out 6).trans rfl; have hcz30_7 : w29.cell? ⟨gb322, 7, none⟩ = some (.bool false) := (blk_cell BK322.out 7).trans rfl; have hcz30_8 : w29.cell? ⟨gb322, 8, none⟩ = some (.bool false) := (blk_cell BK322.out 8).trans rfl; have hfz30_0 := blk_frozen BK322.out 0; have hfz30_1 := blk_frozen BK322.out 1; have hfz30_2 := blk_frozen BK322.out 2; have hfz30_3 := blk_frozen BK322.out 3; have hfz30_4 := blk_frozen BK322.out 4; have hfz30_5 := blk_frozen BK322.out 5; have hfz30_6 := blk_frozen BK322.out 6; have hfz30_7 := blk_frozen BK322.out 7; have hfz30_8 := blk_frozen BK322.out 8))
              go_roundg k3
              case measure => have := HJ3.out; have := HK2.out; have := HK3.out; omega
              case rel => exact ⟨(wrap64 (x8_3 + (((rd_T28 y317 x56_3).f0).size : Int))), (wrap64 (x56_3 + 1)), z180_, z180_, H', ⟨by have := HJ3.out; have := HK2.out; have := HK3.out; omega⟩, ⟨by repeat (first | (with_reducible first | exact HB.out | apply below_alloc | apply pw_below_drewN | apply below_drew1 | refine below_set ?_ GE322.out) | exact HB.out)⟩⟩
/-! ### locate_Hit: function 20 -/
def locate_Hit.l0 : Nat → Int → List (S43) → Int → Int → Int → Int → ByteArray → List (S75) → Int → Int → Int → Bool → Int → Bool → Bool → Option (Int × Int)
  | 0, _, _, _, _, _, _, _, _, _, _, _, _, _, _, _ => none
  | k + 1, x10, x13, x14, x324000, x324001, x324002, x331000, x331001, x331002, x331003, x331004, x331005, x331006, x331007, x331008 => if (wrap64 (x14 + 1)) < (x13.length : Int) then (if 0 ≤ (wrap64 (x14 + 1)) then (if ((rd_T43 x13 (wrap64 (x14 + 1))).f1) > x324002 then (if 0 ≤ x14 then (if x14 < (x13.length : Int) then (some (wrap64 (x10 + ((rd_T43 x13 x14).f0)), 0)) else (none)) else (none)) else (locate_Hit.l0 k x10 x13 (wrap64 (x14 + 1)) x324000 x324001 x324002 x331000 x331001 x331002 x331003 x331004 x331005 x331006 x331007 x331008)) else (none)) else ((locate_shown.f k x331000).bind fun t336 => (some (wrap64 (x10 + t336), 0)))
def locate_Hit.f (k : Nat) (l0 : List (S98)) (l1 : List (S24)) (a2_0 : Int) (a2_1 : Int) (a2_2 : Int) : Option (Int × Int) := if (l1.length : Int) = 0 then (some (0, 30)) else (if 0 ≤ (mx 0 (mn a2_0 (wrap64 ((l1.length : Int) - 1)))) then (if (mx 0 (mn a2_0 (wrap64 ((l1.length : Int) - 1)))) < (l1.length : Int) then (if (((rd_T24 l1 (mx 0 (mn a2_0 (wrap64 ((l1.length : Int) - 1))))).f0).length : Int) = 0 then (some (0, 30)) else ((locate_Offset.f k l1 (mx 0 (mn a2_0 (wrap64 ((l1.length : Int) - 1)))) (mx 0 (mn a2_1 (wrap64 ((((rd_T24 l1 (mx 0 (mn a2_0 (wrap64 ((l1.length : Int) - 1))))).f0).length : Int) - 1))))).bind fun bt326 => (if 0 ≤ (mx 0 (mn a2_1 (wrap64 ((((rd_T24 l1 (mx 0 (mn a2_0 (wrap64 ((l1.length : Int) - 1))))).f0).length : Int) - 1)))) then (if (mx 0 (mn a2_1 (wrap64 ((((rd_T24 l1 (mx 0 (mn a2_0 (wrap64 ((l1.length : Int) - 1))))).f0).length : Int) - 1)))) < (((rd_T24 l1 (mx 0 (mn a2_0 (wrap64 ((l1.length : Int) - 1))))).f0).length : Int) then ((locate_Stops.f k l0 ((rd_T28 ((rd_T24 l1 (mx 0 (mn a2_0 (wrap64 ((l1.length : Int) - 1))))).f0) (mx 0 (mn a2_1 (wrap64 ((((rd_T24 l1 (mx 0 (mn a2_0 (wrap64 ((l1.length : Int) - 1))))).f0).length : Int) - 1))))).f0) ((rd_T28 ((rd_T24 l1 (mx 0 (mn a2_0 (wrap64 ((l1.length : Int) - 1))))).f0) (mx 0 (mn a2_1 (wrap64 ((((rd_T24 l1 (mx 0 (mn a2_0 (wrap64 ((l1.length : Int) - 1))))).f0).length : Int) - 1))))).f1) ((rd_T28 ((rd_T24 l1 (mx 0 (mn a2_0 (wrap64 ((l1.length : Int) - 1))))).f0) (mx 0 (mn a2_1 (wrap64 ((((rd_T24 l1 (mx 0 (mn a2_0 (wrap64 ((l1.length : Int) - 1))))).f0).length : Int) - 1))))).f2) ((rd_T28 ((rd_T24 l1 (mx 0 (mn a2_0 (wrap64 ((l1.length : Int) - 1))))).f0) (mx 0 (mn a2_1 (wrap64 ((((rd_T24 l1 (mx 0 (mn a2_0 (wrap64 ((l1.length : Int) - 1))))).f0).length : Int) - 1))))).f3) ((rd_T28 ((rd_T24 l1 (mx 0 (mn a2_0 (wrap64 ((l1.length : Int) - 1))))).f0) (mx 0 (mn a2_1 (wrap64 ((((rd_T24 l1 (mx 0 (mn a2_0 (wrap64 ((l1.length : Int) - 1))))).f0).length : Int) - 1))))).f4) ((rd_T28 ((rd_T24 l1 (mx 0 (mn a2_0 (wrap64 ((l1.length : Int) - 1))))).f0) (mx 0 (mn a2_1 (wrap64 ((((rd_T24 l1 (mx 0 (mn a2_0 (wrap64 ((l1.length : Int) - 1))))).f0).length : Int) - 1))))).f5) ((rd_T28 ((rd_T24 l1 (mx 0 (mn a2_0 (wrap64 ((l1.length : Int) - 1))))).f0) (mx 0 (mn a2_1 (wrap64 ((((rd_T24 l1 (mx 0 (mn a2_0 (wrap64 ((l1.length : Int) - 1))))).f0).length : Int) - 1))))).f6) ((rd_T28 ((rd_T24 l1 (mx 0 (mn a2_0 (wrap64 ((l1.length : Int) - 1))))).f0) (mx 0 (mn a2_1 (wrap64 ((((rd_T24 l1 (mx 0 (mn a2_0 (wrap64 ((l1.length : Int) - 1))))).f0).length : Int) - 1))))).f7) ((rd_T28 ((rd_T24 l1 (mx 0 (mn a2_0 (wrap64 ((l1.length : Int) - 1))))).f0) (mx 0 (mn a2_1 (wrap64 ((((rd_T24 l1 (mx 0 (mn a2_0 (wrap64 ((l1.length : Int) - 1))))).f0).length : Int) - 1))))).f8)).bind fun t331 => (locate_Hit.l0 k bt326.1 t331 0 a2_0 a2_1 a2_2 ((rd_T28 ((rd_T24 l1 (mx 0 (mn a2_0 (wrap64 ((l1.length : Int) - 1))))).f0) (mx 0 (mn a2_1 (wrap64 ((((rd_T24 l1 (mx 0 (mn a2_0 (wrap64 ((l1.length : Int) - 1))))).f0).length : Int) - 1))))).f0) ((rd_T28 ((rd_T24 l1 (mx 0 (mn a2_0 (wrap64 ((l1.length : Int) - 1))))).f0) (mx 0 (mn a2_1 (wrap64 ((((rd_T24 l1 (mx 0 (mn a2_0 (wrap64 ((l1.length : Int) - 1))))).f0).length : Int) - 1))))).f1) ((rd_T28 ((rd_T24 l1 (mx 0 (mn a2_0 (wrap64 ((l1.length : Int) - 1))))).f0) (mx 0 (mn a2_1 (wrap64 ((((rd_T24 l1 (mx 0 (mn a2_0 (wrap64 ((l1.length : Int) - 1))))).f0).length : Int) - 1))))).f2) ((rd_T28 ((rd_T24 l1 (mx 0 (mn a2_0 (wrap64 ((l1.length : Int) - 1))))).f0) (mx 0 (mn a2_1 (wrap64 ((((rd_T24 l1 (mx 0 (mn a2_0 (wrap64 ((l1.length : Int) - 1))))).f0).length : Int) - 1))))).f3) ((rd_T28 ((rd_T24 l1 (mx 0 (mn a2_0 (wrap64 ((l1.length : Int) - 1))))).f0) (mx 0 (mn a2_1 (wrap64 ((((rd_T24 l1 (mx 0 (mn a2_0 (wrap64 ((l1.length : Int) - 1))))).f0).length : Int) - 1))))).f4) ((rd_T28 ((rd_T24 l1 (mx 0 (mn a2_0 (wrap64 ((l1.length : Int) - 1))))).f0) (mx 0 (mn a2_1 (wrap64 ((((rd_T24 l1 (mx 0 (mn a2_0 (wrap64 ((l1.length : Int) - 1))))).f0).length : Int) - 1))))).f5) ((rd_T28 ((rd_T24 l1 (mx 0 (mn a2_0 (wrap64 ((l1.length : Int) - 1))))).f0) (mx 0 (mn a2_1 (wrap64 ((((rd_T24 l1 (mx 0 (mn a2_0 (wrap64 ((l1.length : Int) - 1))))).f0).length : Int) - 1))))).f6) ((rd_T28 ((rd_T24 l1 (mx 0 (mn a2_0 (wrap64 ((l1.length : Int) - 1))))).f0) (mx 0 (mn a2_1 (wrap64 ((((rd_T24 l1 (mx 0 (mn a2_0 (wrap64 ((l1.length : Int) - 1))))).f0).length : Int) - 1))))).f7) ((rd_T28 ((rd_T24 l1 (mx 0 (mn a2_0 (wrap64 ((l1.length : Int) - 1))))).f0) (mx 0 (mn a2_1 (wrap64 ((((rd_T24 l1 (mx 0 (mn a2_0 (wrap64 ((l1.length : Int) - 1))))).f0).length : Int) - 1))))).f8))) else (none)) else (none)))) else (none)) else (none))
theorem locate_Hit.mono_l : ∀ k, (∀ y0 y1 y2 y3 y4 y5 y6 y7 y8 y9 y10 y11 y12 y13 y14, LeO (locate_Hit.l0 k y0 y1 y2 y3 y4 y5 y6 y7 y8 y9 y10 y11 y12 y13 y14) (locate_Hit.l0 (k + 1) y0 y1 y2 y3 y4 y5 y6 y7 y8 y9 y10 y11 y12 y13 y14))
  | 0 => fun _ _ _ _ _ _ _ _ _ _ _ _ _ _ _ r h => by simp [locate_Hit.l0] at h
  | k + 1 => by
    have ih0 := locate_Hit.mono_l k
    · intro y0 y1 y2 y3 y4 y5 y6 y7 y8 y9 y10 y11 y12 y13 y14
      unfold locate_Hit.l0
      repeat' first | (with_reducible first | exact ih0 _ _ _ _ _ _ _ _ _ _ _ _ _ _ _ | exact locate_Offset.mono _ _ _ _ | exact locate_Stops.mono _ _ _ _ _ _ _ _ _ _ _ | exact locate_shown.mono _ _ | exact LeO.refl _ | exact LeO.none _ | refine LeO.ite ?_ ?_ | refine LeO.bind ?_ (fun _ => ?_)) | exact ih0 _ _ _ _ _ _ _ _ _ _ _ _ _ _ _ | exact locate_Offset.mono _ _ _ _ | exact locate_Stops.mono _ _ _ _ _ _ _ _ _ _ _ | exact locate_shown.mono _ _ | exact LeO.none _ | refine LeO.ite ?_ ?_ | refine LeO.bind ?_ (fun _ => ?_)
theorem locate_Hit.mono : ∀ a0 a1 a2 a3 a4 k, LeO (locate_Hit.f k a0 a1 a2 a3 a4) (locate_Hit.f (k + 1) a0 a1 a2 a3 a4) := by
  intro a0 a1 a2 a3 a4 k
  have ih0 := locate_Hit.mono_l k
  unfold locate_Hit.f
  repeat' first | (with_reducible first | exact ih0 _ _ _ _ _ _ _ _ _ _ _ _ _ _ _ | exact locate_Offset.mono _ _ _ _ | exact locate_Stops.mono _ _ _ _ _ _ _ _ _ _ _ | exact locate_shown.mono _ _ | exact LeO.refl _ | exact LeO.none _ | refine LeO.ite ?_ ?_ | refine LeO.bind ?_ (fun _ => ?_)) | exact ih0 _ _ _ _ _ _ _ _ _ _ _ _ _ _ _ | exact locate_Offset.mono _ _ _ _ | exact locate_Stops.mono _ _ _ _ _ _ _ _ _ _ _ | exact locate_shown.mono _ _ | exact LeO.none _ | refine LeO.ite ?_ ?_ | refine LeO.bind ?_ (fun _ => ?_)
set_option maxHeartbeats 8000000 in
set_option maxRecDepth 100000 in
theorem locate_Hit.calls (k : Nat) (A0 : Option Addr) (c0 : Nat) (l0 : List (S98)) (A1 : Option Addr) (c1 : Nat) (l1 : List (S24)) (a2_0 : Int) (a2_1 : Int) (a2_2 : Int) (r1 : Int) (r2 : Int) (w : World) (hr0 : Kd.C k98 w A0 l0.length l0) (hc0 : l0.length ≤ c0) (hr1 : Kd.C k24 w A1 l1.length l1) (hc1 : l1.length ≤ c1) (h : locate_Hit.f k l0 l1 a2_0 a2_1 a2_2 = some (r1, r2)) :
    Calls Try.prog 20 #[.pointer A0, .slice A1 l1.length c1, .agg #[.int .i64 a2_0, .int .i64 a2_1, .int .i64 a2_2]] w fun e w' => e = .returned (.tuple #[.int .i64 r1, .int .i64 r2]) ∧ Below w.heap.size w w' := by
  have hu49 := Try.underlying49
  have hu28 := Try.underlying28
  have HR0 := Aside0.mk hr0
  have HC0 := Aside0.mk hc0
  clear hr0 hc0
  have HR1 := Aside0.mk hr1
  have HC1 := Aside0.mk hc1
  clear hr1 hc1
  have HB := Aside0.mk (Below.refl w.heap.size w)
  have H : (if (l1.length : Int) = 0 then (some (0, 30)) else (if 0 ≤ (mx 0 (mn a2_0 (wrap64 ((l1.length : Int) - 1)))) then (if (mx 0 (mn a2_0 (wrap64 ((l1.length : Int) - 1)))) < (l1.length : Int) then (if (((rd_T24 l1 (mx 0 (mn a2_0 (wrap64 ((l1.length : Int) - 1))))).f0).length : Int) = 0 then (some (0, 30)) else ((locate_Offset.f k l1 (mx 0 (mn a2_0 (wrap64 ((l1.length : Int) - 1)))) (mx 0 (mn a2_1 (wrap64 ((((rd_T24 l1 (mx 0 (mn a2_0 (wrap64 ((l1.length : Int) - 1))))).f0).length : Int) - 1))))).bind fun bt326 => (if 0 ≤ (mx 0 (mn a2_1 (wrap64 ((((rd_T24 l1 (mx 0 (mn a2_0 (wrap64 ((l1.length : Int) - 1))))).f0).length : Int) - 1)))) then (if (mx 0 (mn a2_1 (wrap64 ((((rd_T24 l1 (mx 0 (mn a2_0 (wrap64 ((l1.length : Int) - 1))))).f0).length : Int) - 1)))) < (((rd_T24 l1 (mx 0 (mn a2_0 (wrap64 ((l1.length : Int) - 1))))).f0).length : Int) then ((locate_Stops.f k l0 ((rd_T28 ((rd_T24 l1 (mx 0 (mn a2_0 (wrap64 ((l1.length : Int) - 1))))).f0) (mx 0 (mn a2_1 (wrap64 ((((rd_T24 l1 (mx 0 (mn a2_0 (wrap64 ((l1.length : Int) - 1))))).f0).length : Int) - 1))))).f0) ((rd_T28 ((rd_T24 l1 (mx 0 (mn a2_0 (wrap64 ((l1.length : Int) - 1))))).f0) (mx 0 (mn a2_1 (wrap64 ((((rd_T24 l1 (mx 0 (mn a2_0 (wrap64 ((l1.length : Int) - 1))))).f0).length : Int) - 1))))).f1) ((rd_T28 ((rd_T24 l1 (mx 0 (mn a2_0 (wrap64 ((l1.length : Int) - 1))))).f0) (mx 0 (mn a2_1 (wrap64 ((((rd_T24 l1 (mx 0 (mn a2_0 (wrap64 ((l1.length : Int) - 1))))).f0).length : Int) - 1))))).f2) ((rd_T28 ((rd_T24 l1 (mx 0 (mn a2_0 (wrap64 ((l1.length : Int) - 1))))).f0) (mx 0 (mn a2_1 (wrap64 ((((rd_T24 l1 (mx 0 (mn a2_0 (wrap64 ((l1.length : Int) - 1))))).f0).length : Int) - 1))))).f3) ((rd_T28 ((rd_T24 l1 (mx 0 (mn a2_0 (wrap64 ((l1.length : Int) - 1))))).f0) (mx 0 (mn a2_1 (wrap64 ((((rd_T24 l1 (mx 0 (mn a2_0 (wrap64 ((l1.length : Int) - 1))))).f0).length : Int) - 1))))).f4) ((rd_T28 ((rd_T24 l1 (mx 0 (mn a2_0 (wrap64 ((l1.length : Int) - 1))))).f0) (mx 0 (mn a2_1 (wrap64 ((((rd_T24 l1 (mx 0 (mn a2_0 (wrap64 ((l1.length : Int) - 1))))).f0).length : Int) - 1))))).f5) ((rd_T28 ((rd_T24 l1 (mx 0 (mn a2_0 (wrap64 ((l1.length : Int) - 1))))).f0) (mx 0 (mn a2_1 (wrap64 ((((rd_T24 l1 (mx 0 (mn a2_0 (wrap64 ((l1.length : Int) - 1))))).f0).length : Int) - 1))))).f6) ((rd_T28 ((rd_T24 l1 (mx 0 (mn a2_0 (wrap64 ((l1.length : Int) - 1))))).f0) (mx 0 (mn a2_1 (wrap64 ((((rd_T24 l1 (mx 0 (mn a2_0 (wrap64 ((l1.length : Int) - 1))))).f0).length : Int) - 1))))).f7) ((rd_T28 ((rd_T24 l1 (mx 0 (mn a2_0 (wrap64 ((l1.length : Int) - 1))))).f0) (mx 0 (mn a2_1 (wrap64 ((((rd_T24 l1 (mx 0 (mn a2_0 (wrap64 ((l1.length : Int) - 1))))).f0).length : Int) - 1))))).f8)).bind fun t331 => (locate_Hit.l0 k bt326.1 t331 0 a2_0 a2_1 a2_2 ((rd_T28 ((rd_T24 l1 (mx 0 (mn a2_0 (wrap64 ((l1.length : Int) - 1))))).f0) (mx 0 (mn a2_1 (wrap64 ((((rd_T24 l1 (mx 0 (mn a2_0 (wrap64 ((l1.length : Int) - 1))))).f0).length : Int) - 1))))).f0) ((rd_T28 ((rd_T24 l1 (mx 0 (mn a2_0 (wrap64 ((l1.length : Int) - 1))))).f0) (mx 0 (mn a2_1 (wrap64 ((((rd_T24 l1 (mx 0 (mn a2_0 (wrap64 ((l1.length : Int) - 1))))).f0).length : Int) - 1))))).f1) ((rd_T28 ((rd_T24 l1 (mx 0 (mn a2_0 (wrap64 ((l1.length : Int) - 1))))).f0) (mx 0 (mn a2_1 (wrap64 ((((rd_T24 l1 (mx 0 (mn a2_0 (wrap64 ((l1.length : Int) - 1))))).f0).length : Int) - 1))))).f2) ((rd_T28 ((rd_T24 l1 (mx 0 (mn a2_0 (wrap64 ((l1.length : Int) - 1))))).f0) (mx 0 (mn a2_1 (wrap64 ((((rd_T24 l1 (mx 0 (mn a2_0 (wrap64 ((l1.length : Int) - 1))))).f0).length : Int) - 1))))).f3) ((rd_T28 ((rd_T24 l1 (mx 0 (mn a2_0 (wrap64 ((l1.length : Int) - 1))))).f0) (mx 0 (mn a2_1 (wrap64 ((((rd_T24 l1 (mx 0 (mn a2_0 (wrap64 ((l1.length : Int) - 1))))).f0).length : Int) - 1))))).f4) ((rd_T28 ((rd_T24 l1 (mx 0 (mn a2_0 (wrap64 ((l1.length : Int) - 1))))).f0) (mx 0 (mn a2_1 (wrap64 ((((rd_T24 l1 (mx 0 (mn a2_0 (wrap64 ((l1.length : Int) - 1))))).f0).length : Int) - 1))))).f5) ((rd_T28 ((rd_T24 l1 (mx 0 (mn a2_0 (wrap64 ((l1.length : Int) - 1))))).f0) (mx 0 (mn a2_1 (wrap64 ((((rd_T24 l1 (mx 0 (mn a2_0 (wrap64 ((l1.length : Int) - 1))))).f0).length : Int) - 1))))).f6) ((rd_T28 ((rd_T24 l1 (mx 0 (mn a2_0 (wrap64 ((l1.length : Int) - 1))))).f0) (mx 0 (mn a2_1 (wrap64 ((((rd_T24 l1 (mx 0 (mn a2_0 (wrap64 ((l1.length : Int) - 1))))).f0).length : Int) - 1))))).f7) ((rd_T28 ((rd_T24 l1 (mx 0 (mn a2_0 (wrap64 ((l1.length : Int) - 1))))).f0) (mx 0 (mn a2_1 (wrap64 ((((rd_T24 l1 (mx 0 (mn a2_0 (wrap64 ((l1.length : Int) - 1))))).f0).length : Int) - 1))))).f8))) else (none)) else (none)))) else (none)) else (none))) = some (r1, r2) := h
  clear h
  by_cases c4 : (l1.length : Int) = 0
  · rw [if_pos c4] at H
    have c4b0 : ((l1.length : Int) == 0) = true := beq_iff_eq.mpr c4
    have c4b1 : ((l1.length : Int) != 0) = false := bne_eq_false_iff_eq.mpr c4
    clear c4
    simp only [Option.some.injEq, Prod.mk.injEq] at H
    obtain ⟨rfl, rfl⟩ := H
    go_enter Try.func20, Try.ntmps20
    go_wp2_with (first | ((with_reducible refine gate_dst (N := 5) rfl ?_); refine box_event ?hg (N := 5) ?hd (cs := #[.int .i64 a2_0, .int .i64 a2_1, .int .i64 a2_2]) (t := 49) ?hr ?_; (case hd => rfl); (case hg => rfl); (case hr => exact z181_); intro gb323 hg w5 hbox hb; have BK323 := Aside0.mk (hbox); have GW323 := Aside0.mk ((z74_ : w.heap.size ≤ gb323)); have GE323 := Aside0.mk ((z74_ : w.heap.size ≤ gb323)); replace HB := Aside0.mk (below_step z103_ hb); clear hb hbox hg))
    repeat (go_quiet (first | ((with_reducible refine gate_dst (N := 5) rfl ?_); refine box_event ?hg (N := 5) ?hd (cs := #[.int .i64 a2_0, .int .i64 a2_1, .int .i64 a2_2]) (t := 49) ?hr ?_; (case hd => rfl); (case hg => rfl); (case hr => exact z181_); intro gb323 hg w5 hbox hb; have BK323 := Aside0.mk (hbox); have GW323 := Aside0.mk ((z74_ : w.heap.size ≤ gb323)); have GE323 := Aside0.mk ((z74_ : w.heap.size ≤ gb323)); replace HB := Aside0.mk (below_step z103_ hb); clear hb hbox hg)); try go_wp2_with (first | ((with_reducible refine gate_dst (N := 5) rfl ?_); refine box_event ?hg (N := 5) ?hd (cs := #[.int .i64 a2_0, .int .i64 a2_1, .int .i64 a2_2]) (t := 49) ?hr ?_; (case hd => rfl); (case hg => rfl); (case hr => exact z181_); intro gb323 hg w5 hbox hb; have BK323 := Aside0.mk (hbox); have GW323 := Aside0.mk ((z74_ : w.heap.size ≤ gb323)); have GE323 := Aside0.mk ((z74_ : w.heap.size ≤ gb323)); replace HB := Aside0.mk (below_step z103_ hb); clear hb hbox hg)))
    go_ret2
    exact ⟨z155_, z91_⟩
  rw [if_neg c4] at H
  have c4b0 : ((l1.length : Int) == 0) = false := beq_eq_false_iff_ne.mpr c4
  have c4b1 : ((l1.length : Int) != 0) = true := bne_iff_ne.mpr c4
  have c4b2 : ¬ (l1 = []) := fun h_ => c4 (by rw [h_]; rfl)
  obtain ⟨ji6, hji6⟩ : ∃ j_ : Int, (mn a2_0 (wrap64 ((l1.length : Int) - 1))) = j_ := ⟨_, rfl⟩
  replace H : (if 0 ≤ (mx 0 (ji6)) then (if (mx 0 (ji6)) < (l1.length : Int) then (if (((rd_T24 l1 (mx 0 (ji6))).f0).length : Int) = 0 then (some (0, 30)) else ((locate_Offset.f k l1 (mx 0 (ji6)) (mx 0 (mn a2_1 (wrap64 ((((rd_T24 l1 (mx 0 (ji6))).f0).length : Int) - 1))))).bind fun bt326 => (if 0 ≤ (mx 0 (mn a2_1 (wrap64 ((((rd_T24 l1 (mx 0 (ji6))).f0).length : Int) - 1)))) then (if (mx 0 (mn a2_1 (wrap64 ((((rd_T24 l1 (mx 0 (ji6))).f0).length : Int) - 1)))) < (((rd_T24 l1 (mx 0 (ji6))).f0).length : Int) then ((locate_Stops.f k l0 ((rd_T28 ((rd_T24 l1 (mx 0 (ji6))).f0) (mx 0 (mn a2_1 (wrap64 ((((rd_T24 l1 (mx 0 (ji6))).f0).length : Int) - 1))))).f0) ((rd_T28 ((rd_T24 l1 (mx 0 (ji6))).f0) (mx 0 (mn a2_1 (wrap64 ((((rd_T24 l1 (mx 0 (ji6))).f0).length : Int) - 1))))).f1) ((rd_T28 ((rd_T24 l1 (mx 0 (ji6))).f0) (mx 0 (mn a2_1 (wrap64 ((((rd_T24 l1 (mx 0 (ji6))).f0).length : Int) - 1))))).f2) ((rd_T28 ((rd_T24 l1 (mx 0 (ji6))).f0) (mx 0 (mn a2_1 (wrap64 ((((rd_T24 l1 (mx 0 (ji6))).f0).length : Int) - 1))))).f3) ((rd_T28 ((rd_T24 l1 (mx 0 (ji6))).f0) (mx 0 (mn a2_1 (wrap64 ((((rd_T24 l1 (mx 0 (ji6))).f0).length : Int) - 1))))).f4) ((rd_T28 ((rd_T24 l1 (mx 0 (ji6))).f0) (mx 0 (mn a2_1 (wrap64 ((((rd_T24 l1 (mx 0 (ji6))).f0).length : Int) - 1))))).f5) ((rd_T28 ((rd_T24 l1 (mx 0 (ji6))).f0) (mx 0 (mn a2_1 (wrap64 ((((rd_T24 l1 (mx 0 (ji6))).f0).length : Int) - 1))))).f6) ((rd_T28 ((rd_T24 l1 (mx 0 (ji6))).f0) (mx 0 (mn a2_1 (wrap64 ((((rd_T24 l1 (mx 0 (ji6))).f0).length : Int) - 1))))).f7) ((rd_T28 ((rd_T24 l1 (mx 0 (ji6))).f0) (mx 0 (mn a2_1 (wrap64 ((((rd_T24 l1 (mx 0 (ji6))).f0).length : Int) - 1))))).f8)).bind fun t331 => (locate_Hit.l0 k bt326.1 t331 0 a2_0 a2_1 a2_2 ((rd_T28 ((rd_T24 l1 (mx 0 (ji6))).f0) (mx 0 (mn a2_1 (wrap64 ((((rd_T24 l1 (mx 0 (ji6))).f0).length : Int) - 1))))).f0) ((rd_T28 ((rd_T24 l1 (mx 0 (ji6))).f0) (mx 0 (mn a2_1 (wrap64 ((((rd_T24 l1 (mx 0 (ji6))).f0).length : Int) - 1))))).f1) ((rd_T28 ((rd_T24 l1 (mx 0 (ji6))).f0) (mx 0 (mn a2_1 (wrap64 ((((rd_T24 l1 (mx 0 (ji6))).f0).length : Int) - 1))))).f2) ((rd_T28 ((rd_T24 l1 (mx 0 (ji6))).f0) (mx 0 (mn a2_1 (wrap64 ((((rd_T24 l1 (mx 0 (ji6))).f0).length : Int) - 1))))).f3) ((rd_T28 ((rd_T24 l1 (mx 0 (ji6))).f0) (mx 0 (mn a2_1 (wrap64 ((((rd_T24 l1 (mx 0 (ji6))).f0).length : Int) - 1))))).f4) ((rd_T28 ((rd_T24 l1 (mx 0 (ji6))).f0) (mx 0 (mn a2_1 (wrap64 ((((rd_T24 l1 (mx 0 (ji6))).f0).length : Int) - 1))))).f5) ((rd_T28 ((rd_T24 l1 (mx 0 (ji6))).f0) (mx 0 (mn a2_1 (wrap64 ((((rd_T24 l1 (mx 0 (ji6))).f0).length : Int) - 1))))).f6) ((rd_T28 ((rd_T24 l1 (mx 0 (ji6))).f0) (mx 0 (mn a2_1 (wrap64 ((((rd_T24 l1 (mx 0 (ji6))).f0).length : Int) - 1))))).f7) ((rd_T28 ((rd_T24 l1 (mx 0 (ji6))).f0) (mx 0 (mn a2_1 (wrap64 ((((rd_T24 l1 (mx 0 (ji6))).f0).length : Int) - 1))))).f8))) else (none)) else (none)))) else (none)) else (none)) = some (r1, r2) := by first | (rw [hji6] at H; exact H) | (simp only [hji6] at H ⊢; exact H)
  have hji6_ : (if (wrap64 ((l1.length : Int) - 1)) < a2_0 then (wrap64 ((l1.length : Int) - 1)) else a2_0) = ji6 := hji6
  obtain ⟨ji7, hji7⟩ : ∃ j_ : Int, (mx 0 (ji6)) = j_ := ⟨_, rfl⟩
  replace H : (if 0 ≤ (ji7) then (if (ji7) < (l1.length : Int) then (if (((rd_T24 l1 (ji7)).f0).length : Int) = 0 then (some (0, 30)) else ((locate_Offset.f k l1 (ji7) (mx 0 (mn a2_1 (wrap64 ((((rd_T24 l1 (ji7)).f0).length : Int) - 1))))).bind fun bt326 => (if 0 ≤ (mx 0 (mn a2_1 (wrap64 ((((rd_T24 l1 (ji7)).f0).length : Int) - 1)))) then (if (mx 0 (mn a2_1 (wrap64 ((((rd_T24 l1 (ji7)).f0).length : Int) - 1)))) < (((rd_T24 l1 (ji7)).f0).length : Int) then ((locate_Stops.f k l0 ((rd_T28 ((rd_T24 l1 (ji7)).f0) (mx 0 (mn a2_1 (wrap64 ((((rd_T24 l1 (ji7)).f0).length : Int) - 1))))).f0) ((rd_T28 ((rd_T24 l1 (ji7)).f0) (mx 0 (mn a2_1 (wrap64 ((((rd_T24 l1 (ji7)).f0).length : Int) - 1))))).f1) ((rd_T28 ((rd_T24 l1 (ji7)).f0) (mx 0 (mn a2_1 (wrap64 ((((rd_T24 l1 (ji7)).f0).length : Int) - 1))))).f2) ((rd_T28 ((rd_T24 l1 (ji7)).f0) (mx 0 (mn a2_1 (wrap64 ((((rd_T24 l1 (ji7)).f0).length : Int) - 1))))).f3) ((rd_T28 ((rd_T24 l1 (ji7)).f0) (mx 0 (mn a2_1 (wrap64 ((((rd_T24 l1 (ji7)).f0).length : Int) - 1))))).f4) ((rd_T28 ((rd_T24 l1 (ji7)).f0) (mx 0 (mn a2_1 (wrap64 ((((rd_T24 l1 (ji7)).f0).length : Int) - 1))))).f5) ((rd_T28 ((rd_T24 l1 (ji7)).f0) (mx 0 (mn a2_1 (wrap64 ((((rd_T24 l1 (ji7)).f0).length : Int) - 1))))).f6) ((rd_T28 ((rd_T24 l1 (ji7)).f0) (mx 0 (mn a2_1 (wrap64 ((((rd_T24 l1 (ji7)).f0).length : Int) - 1))))).f7) ((rd_T28 ((rd_T24 l1 (ji7)).f0) (mx 0 (mn a2_1 (wrap64 ((((rd_T24 l1 (ji7)).f0).length : Int) - 1))))).f8)).bind fun t331 => (locate_Hit.l0 k bt326.1 t331 0 a2_0 a2_1 a2_2 ((rd_T28 ((rd_T24 l1 (ji7)).f0) (mx 0 (mn a2_1 (wrap64 ((((rd_T24 l1 (ji7)).f0).length : Int) - 1))))).f0) ((rd_T28 ((rd_T24 l1 (ji7)).f0) (mx 0 (mn a2_1 (wrap64 ((((rd_T24 l1 (ji7)).f0).length : Int) - 1))))).f1) ((rd_T28 ((rd_T24 l1 (ji7)).f0) (mx 0 (mn a2_1 (wrap64 ((((rd_T24 l1 (ji7)).f0).length : Int) - 1))))).f2) ((rd_T28 ((rd_T24 l1 (ji7)).f0) (mx 0 (mn a2_1 (wrap64 ((((rd_T24 l1 (ji7)).f0).length : Int) - 1))))).f3) ((rd_T28 ((rd_T24 l1 (ji7)).f0) (mx 0 (mn a2_1 (wrap64 ((((rd_T24 l1 (ji7)).f0).length : Int) - 1))))).f4) ((rd_T28 ((rd_T24 l1 (ji7)).f0) (mx 0 (mn a2_1 (wrap64 ((((rd_T24 l1 (ji7)).f0).length : Int) - 1))))).f5) ((rd_T28 ((rd_T24 l1 (ji7)).f0) (mx 0 (mn a2_1 (wrap64 ((((rd_T24 l1 (ji7)).f0).length : Int) - 1))))).f6) ((rd_T28 ((rd_T24 l1 (ji7)).f0) (mx 0 (mn a2_1 (wrap64 ((((rd_T24 l1 (ji7)).f0).length : Int) - 1))))).f7) ((rd_T28 ((rd_T24 l1 (ji7)).f0) (mx 0 (mn a2_1 (wrap64 ((((rd_T24 l1 (ji7)).f0).length : Int) - 1))))).f8))) else (none)) else (none)))) else (none)) else (none)) = some (r1, r2) := by first | (rw [hji7] at H; exact H) | (simp only [hji7] at H ⊢; exact H)
  have hji7_ : (if 0 < (ji6) then (ji6) else 0) = ji7 := hji7
  by_cases c8 : 0 ≤ (ji7)
  rotate_left
  · rw [if_neg c8] at H
    exact absurd H (by simp)
  rw [if_pos c8] at H
  have c8b0 : decide (0 ≤ (ji7)) = true := decide_eq_true c8
  clear c8
  by_cases c9 : (ji7) < (l1.length : Int)
  rotate_left
  · rw [if_neg c9] at H
    exact absurd H (by simp)
  rw [if_pos c9] at H
  have c9b0 : decide ((ji7) < (l1.length : Int)) = true := decide_eq_true c9
  clear c9
  by_cases c10 : (((rd_T24 l1 (ji7)).f0).length : Int) = 0
  · rw [if_pos c10] at H
    have c10b0 : ((((rd_T24 l1 (ji7)).f0).length : Int) == 0) = true := beq_iff_eq.mpr c10
    have c10b1 : ((((rd_T24 l1 (ji7)).f0).length : Int) != 0) = false := bne_eq_false_iff_eq.mpr c10
    clear c10
    simp only [Option.some.injEq, Prod.mk.injEq] at H
    obtain ⟨rfl, rfl⟩ := H
    go_enter Try.func20, Try.ntmps20
    go_wp2_with (first | ((with_reducible refine gate_dst (N := 5) rfl ?_); refine box_event ?hg (N := 5) ?hd (cs := #[.int .i64 a2_0, .int .i64 a2_1, .int .i64 a2_2]) (t := 49) ?hr ?_; (case hd => rfl); (case hg => rfl); (case hr => exact z181_); intro gb323 hg w11 hbox hb; have BK323 := Aside0.mk (hbox); have GW323 := Aside0.mk ((z74_ : w.heap.size ≤ gb323)); have GE323 := Aside0.mk ((z74_ : w.heap.size ≤ gb323)); replace HB := Aside0.mk (below_step z103_ hb); clear hb hbox hg; have hcz12_0 : w11.cell? ⟨gb323, 0, none⟩ = some (.int .i64 a2_0) := (blk_cell BK323.out 0).trans rfl; have hcz12_1 : w11.cell? ⟨gb323, 1, none⟩ = some (.int .i64 a2_1) := (blk_cell BK323.out 1).trans rfl; have hcz12_2 : w11.cell? ⟨gb323, 2, none⟩ = some (.int .i64 a2_2) := (blk_cell BK323.out 2).trans rfl; have hfz12_0 := blk_frozen BK323.out 0; have hfz12_1 := blk_frozen BK323.out 1; have hfz12_2 := blk_frozen BK323.out 2; have p324 : 0 ≤ ((ji7) : Int) := of_decide_eq_true z178_; have q324 : (ji7) < (l1.length : Int) := of_decide_eq_true z178_; obtain ⟨ad324, A324_0, c324_0, e324, hx324_0, hl324_0, hi324_0⟩ := at_T24 HR1.out (ji7) p324 q324; cases e324; replace hx324_0 := (HB.out.cell (World.block_lt_of_cell? w _ hx324_0)).trans hx324_0; have HR324_0 := Aside0.mk hi324_0; have HC324_0 := Aside0.mk hl324_0; clear hi324_0 hl324_0; replace p324 := eq_true p324; replace q324 := eq_true q324))
    repeat (go_quiet (first | ((with_reducible refine gate_dst (N := 5) rfl ?_); refine box_event ?hg (N := 5) ?hd (cs := #[.int .i64 a2_0, .int .i64 a2_1, .int .i64 a2_2]) (t := 49) ?hr ?_; (case hd => rfl); (case hg => rfl); (case hr => exact z181_); intro gb323 hg w11 hbox hb; have BK323 := Aside0.mk (hbox); have GW323 := Aside0.mk ((z74_ : w.heap.size ≤ gb323)); have GE323 := Aside0.mk ((z74_ : w.heap.size ≤ gb323)); replace HB := Aside0.mk (below_step z103_ hb); clear hb hbox hg; have hcz12_0 : w11.cell? ⟨gb323, 0, none⟩ = some (.int .i64 a2_0) := (blk_cell BK323.out 0).trans rfl; have hcz12_1 : w11.cell? ⟨gb323, 1, none⟩ = some (.int .i64 a2_1) := (blk_cell BK323.out 1).trans rfl; have hcz12_2 : w11.cell? ⟨gb323, 2, none⟩ = some (.int .i64 a2_2) := (blk_cell BK323.out 2).trans rfl; have hfz12_0 := blk_frozen BK323.out 0; have hfz12_1 := blk_frozen BK323.out 1; have hfz12_2 := blk_frozen BK323.out 2; have p324 : 0 ≤ ((ji7) : Int) := of_decide_eq_true z178_; have q324 : (ji7) < (l1.length : Int) := of_decide_eq_true z178_; obtain ⟨ad324, A324_0, c324_0, e324, hx324_0, hl324_0, hi324_0⟩ := at_T24 HR1.out (ji7) p324 q324; cases e324; replace hx324_0 := (HB.out.cell (World.block_lt_of_cell? w _ hx324_0)).trans hx324_0; have HR324_0 := Aside0.mk hi324_0; have HC324_0 := Aside0.mk hl324_0; clear hi324_0 hl324_0; replace p324 := eq_true p324; replace q324 := eq_true q324)); try go_wp2_with (first | ((with_reducible refine gate_dst (N := 5) rfl ?_); refine box_event ?hg (N := 5) ?hd (cs := #[.int .i64 a2_0, .int .i64 a2_1, .int .i64 a2_2]) (t := 49) ?hr ?_; (case hd => rfl); (case hg => rfl); (case hr => exact z181_); intro gb323 hg w11 hbox hb; have BK323 := Aside0.mk (hbox); have GW323 := Aside0.mk ((z74_ : w.heap.size ≤ gb323)); have GE323 := Aside0.mk ((z74_ : w.heap.size ≤ gb323)); replace HB := Aside0.mk (below_step z103_ hb); clear hb hbox hg; have hcz12_0 : w11.cell? ⟨gb323, 0, none⟩ = some (.int .i64 a2_0) := (blk_cell BK323.out 0).trans rfl; have hcz12_1 : w11.cell? ⟨gb323, 1, none⟩ = some (.int .i64 a2_1) := (blk_cell BK323.out 1).trans rfl; have hcz12_2 : w11.cell? ⟨gb323, 2, none⟩ = some (.int .i64 a2_2) := (blk_cell BK323.out 2).trans rfl; have hfz12_0 := blk_frozen BK323.out 0; have hfz12_1 := blk_frozen BK323.out 1; have hfz12_2 := blk_frozen BK323.out 2; have p324 : 0 ≤ ((ji7) : Int) := of_decide_eq_true z178_; have q324 : (ji7) < (l1.length : Int) := of_decide_eq_true z178_; obtain ⟨ad324, A324_0, c324_0, e324, hx324_0, hl324_0, hi324_0⟩ := at_T24 HR1.out (ji7) p324 q324; cases e324; replace hx324_0 := (HB.out.cell (World.block_lt_of_cell? w _ hx324_0)).trans hx324_0; have HR324_0 := Aside0.mk hi324_0; have HC324_0 := Aside0.mk hl324_0; clear hi324_0 hl324_0; replace p324 := eq_true p324; replace q324 := eq_true q324)))
    go_ret2
    exact ⟨by first | rfl | (simp [errW_none, errW_some] <;> rfl) | (simp only [← hji6, ← hji7]; first | rfl | (simp [errW_none, errW_some] <;> rfl)) | (simp [*, errW_none, errW_some] <;> rfl), z91_⟩
  rw [if_neg c10] at H
  have c10b0 : ((((rd_T24 l1 (ji7)).f0).length : Int) == 0) = false := beq_eq_false_iff_ne.mpr c10
  have c10b1 : ((((rd_T24 l1 (ji7)).f0).length : Int) != 0) = true := bne_iff_ne.mpr c10
  have c10b2 : ¬ (((rd_T24 l1 (ji7)).f0) = []) := fun h_ => c10 (by rw [h_]; rfl)
  obtain ⟨ji13, hji13⟩ : ∃ j_ : Int, (mn a2_1 (wrap64 ((((rd_T24 l1 (ji7)).f0).length : Int) - 1))) = j_ := ⟨_, rfl⟩
  replace H : ((locate_Offset.f k l1 (ji7) (mx 0 (ji13))).bind fun bt326 => (if 0 ≤ (mx 0 (ji13)) then (if (mx 0 (ji13)) < (((rd_T24 l1 (ji7)).f0).length : Int) then ((locate_Stops.f k l0 ((rd_T28 ((rd_T24 l1 (ji7)).f0) (mx 0 (ji13))).f0) ((rd_T28 ((rd_T24 l1 (ji7)).f0) (mx 0 (ji13))).f1) ((rd_T28 ((rd_T24 l1 (ji7)).f0) (mx 0 (ji13))).f2) ((rd_T28 ((rd_T24 l1 (ji7)).f0) (mx 0 (ji13))).f3) ((rd_T28 ((rd_T24 l1 (ji7)).f0) (mx 0 (ji13))).f4) ((rd_T28 ((rd_T24 l1 (ji7)).f0) (mx 0 (ji13))).f5) ((rd_T28 ((rd_T24 l1 (ji7)).f0) (mx 0 (ji13))).f6) ((rd_T28 ((rd_T24 l1 (ji7)).f0) (mx 0 (ji13))).f7) ((rd_T28 ((rd_T24 l1 (ji7)).f0) (mx 0 (ji13))).f8)).bind fun t331 => (locate_Hit.l0 k bt326.1 t331 0 a2_0 a2_1 a2_2 ((rd_T28 ((rd_T24 l1 (ji7)).f0) (mx 0 (ji13))).f0) ((rd_T28 ((rd_T24 l1 (ji7)).f0) (mx 0 (ji13))).f1) ((rd_T28 ((rd_T24 l1 (ji7)).f0) (mx 0 (ji13))).f2) ((rd_T28 ((rd_T24 l1 (ji7)).f0) (mx 0 (ji13))).f3) ((rd_T28 ((rd_T24 l1 (ji7)).f0) (mx 0 (ji13))).f4) ((rd_T28 ((rd_T24 l1 (ji7)).f0) (mx 0 (ji13))).f5) ((rd_T28 ((rd_T24 l1 (ji7)).f0) (mx 0 (ji13))).f6) ((rd_T28 ((rd_T24 l1 (ji7)).f0) (mx 0 (ji13))).f7) ((rd_T28 ((rd_T24 l1 (ji7)).f0) (mx 0 (ji13))).f8))) else (none)) else (none))) = some (r1, r2) := by first | (rw [hji13] at H; exact H) | (simp only [hji13] at H ⊢; exact H)
  have hji13_ : (if (wrap64 ((((rd_T24 l1 (ji7)).f0).length : Int) - 1)) < a2_1 then (wrap64 ((((rd_T24 l1 (ji7)).f0).length : Int) - 1)) else a2_1) = ji13 := hji13
  obtain ⟨ji14, hji14⟩ : ∃ j_ : Int, (mx 0 (ji13)) = j_ := ⟨_, rfl⟩
  replace H : ((locate_Offset.f k l1 (ji7) (ji14)).bind fun bt326 => (if 0 ≤ (ji14) then (if (ji14) < (((rd_T24 l1 (ji7)).f0).length : Int) then ((locate_Stops.f k l0 ((rd_T28 ((rd_T24 l1 (ji7)).f0) (ji14)).f0) ((rd_T28 ((rd_T24 l1 (ji7)).f0) (ji14)).f1) ((rd_T28 ((rd_T24 l1 (ji7)).f0) (ji14)).f2) ((rd_T28 ((rd_T24 l1 (ji7)).f0) (ji14)).f3) ((rd_T28 ((rd_T24 l1 (ji7)).f0) (ji14)).f4) ((rd_T28 ((rd_T24 l1 (ji7)).f0) (ji14)).f5) ((rd_T28 ((rd_T24 l1 (ji7)).f0) (ji14)).f6) ((rd_T28 ((rd_T24 l1 (ji7)).f0) (ji14)).f7) ((rd_T28 ((rd_T24 l1 (ji7)).f0) (ji14)).f8)).bind fun t331 => (locate_Hit.l0 k bt326.1 t331 0 a2_0 a2_1 a2_2 ((rd_T28 ((rd_T24 l1 (ji7)).f0) (ji14)).f0) ((rd_T28 ((rd_T24 l1 (ji7)).f0) (ji14)).f1) ((rd_T28 ((rd_T24 l1 (ji7)).f0) (ji14)).f2) ((rd_T28 ((rd_T24 l1 (ji7)).f0) (ji14)).f3) ((rd_T28 ((rd_T24 l1 (ji7)).f0) (ji14)).f4) ((rd_T28 ((rd_T24 l1 (ji7)).f0) (ji14)).f5) ((rd_T28 ((rd_T24 l1 (ji7)).f0) (ji14)).f6) ((rd_T28 ((rd_T24 l1 (ji7)).f0) (ji14)).f7) ((rd_T28 ((rd_T24 l1 (ji7)).f0) (ji14)).f8))) else (none)) else (none))) = some (r1, r2) := by first | (rw [hji14] at H; exact H) | (simp only [hji14] at H ⊢; exact H)
  have hji14_ : (if 0 < (ji13) then (ji13) else 0) = ji14 := hji14
  replace H := Option.bind_eq_some_iff.mp H
  obtain ⟨⟨t326, t327⟩, A150, H⟩ := H
  replace H : (if 0 ≤ (ji14) then (if (ji14) < (((rd_T24 l1 (ji7)).f0).length : Int) then ((locate_Stops.f k l0 ((rd_T28 ((rd_T24 l1 (ji7)).f0) (ji14)).f0) ((rd_T28 ((rd_T24 l1 (ji7)).f0) (ji14)).f1) ((rd_T28 ((rd_T24 l1 (ji7)).f0) (ji14)).f2) ((rd_T28 ((rd_T24 l1 (ji7)).f0) (ji14)).f3) ((rd_T28 ((rd_T24 l1 (ji7)).f0) (ji14)).f4) ((rd_T28 ((rd_T24 l1 (ji7)).f0) (ji14)).f5) ((rd_T28 ((rd_T24 l1 (ji7)).f0) (ji14)).f6) ((rd_T28 ((rd_T24 l1 (ji7)).f0) (ji14)).f7) ((rd_T28 ((rd_T24 l1 (ji7)).f0) (ji14)).f8)).bind fun t331 => (locate_Hit.l0 k t326 t331 0 a2_0 a2_1 a2_2 ((rd_T28 ((rd_T24 l1 (ji7)).f0) (ji14)).f0) ((rd_T28 ((rd_T24 l1 (ji7)).f0) (ji14)).f1) ((rd_T28 ((rd_T24 l1 (ji7)).f0) (ji14)).f2) ((rd_T28 ((rd_T24 l1 (ji7)).f0) (ji14)).f3) ((rd_T28 ((rd_T24 l1 (ji7)).f0) (ji14)).f4) ((rd_T28 ((rd_T24 l1 (ji7)).f0) (ji14)).f5) ((rd_T28 ((rd_T24 l1 (ji7)).f0) (ji14)).f6) ((rd_T28 ((rd_T24 l1 (ji7)).f0) (ji14)).f7) ((rd_T28 ((rd_T24 l1 (ji7)).f0) (ji14)).f8))) else (none)) else (none)) = some (r1, r2) := H
  have A15 := Aside0.mk A150
  clear A150
  by_cases c16 : 0 ≤ (ji14)
  rotate_left
  · rw [if_neg c16] at H
    exact absurd H (by simp)
  rw [if_pos c16] at H
  have c16b0 : decide (0 ≤ (ji14)) = true := decide_eq_true c16
  clear c16
  by_cases c17 : (ji14) < (((rd_T24 l1 (ji7)).f0).length : Int)
  rotate_left
  · rw [if_neg c17] at H
    exact absurd H (by simp)
  rw [if_pos c17] at H
  have c17b0 : decide ((ji14) < (((rd_T24 l1 (ji7)).f0).length : Int)) = true := decide_eq_true c17
  clear c17
  replace H := Option.bind_eq_some_iff.mp H
  obtain ⟨t331, A180, H⟩ := H
  replace H : (locate_Hit.l0 k t326 t331 0 a2_0 a2_1 a2_2 ((rd_T28 ((rd_T24 l1 (ji7)).f0) (ji14)).f0) ((rd_T28 ((rd_T24 l1 (ji7)).f0) (ji14)).f1) ((rd_T28 ((rd_T24 l1 (ji7)).f0) (ji14)).f2) ((rd_T28 ((rd_T24 l1 (ji7)).f0) (ji14)).f3) ((rd_T28 ((rd_T24 l1 (ji7)).f0) (ji14)).f4) ((rd_T28 ((rd_T24 l1 (ji7)).f0) (ji14)).f5) ((rd_T28 ((rd_T24 l1 (ji7)).f0) (ji14)).f6) ((rd_T28 ((rd_T24 l1 (ji7)).f0) (ji14)).f7) ((rd_T28 ((rd_T24 l1 (ji7)).f0) (ji14)).f8)) = some (r1, r2) := H
  have A18 := Aside0.mk A180
  clear A180
  have H' := Aside0.mk H
  clear H
  go_enter Try.func20, Try.ntmps20
  go_wp2_with (first | ((with_reducible refine gate_dst (N := 5) rfl ?_); refine box_event ?hg (N := 5) ?hd (cs := #[.int .i64 a2_0, .int .i64 a2_1, .int .i64 a2_2]) (t := 49) ?hr ?_; (case hd => rfl); (case hg => rfl); (case hr => exact z181_); intro gb323 hg w19 hbox hb; have BK323 := Aside0.mk (hbox); have GW323 := Aside0.mk ((z74_ : w.heap.size ≤ gb323)); have GE323 := Aside0.mk ((z74_ : w.heap.size ≤ gb323)); replace HB := Aside0.mk (below_step z103_ hb); clear hb hbox hg; have hcz20_0 : w19.cell? ⟨gb323, 0, none⟩ = some (.int .i64 a2_0) := (blk_cell BK323.out 0).trans rfl; have hcz20_1 : w19.cell? ⟨gb323, 1, none⟩ = some (.int .i64 a2_1) := (blk_cell BK323.out 1).trans rfl; have hcz20_2 : w19.cell? ⟨gb323, 2, none⟩ = some (.int .i64 a2_2) := (blk_cell BK323.out 2).trans rfl; have hfz20_0 := blk_frozen BK323.out 0; have hfz20_1 := blk_frozen BK323.out 1; have hfz20_2 := blk_frozen BK323.out 2; have p324 : 0 ≤ ((ji7) : Int) := of_decide_eq_true z178_; have q324 : (ji7) < (l1.length : Int) := of_decide_eq_true z178_; obtain ⟨ad324, A324_0, c324_0, e324, hx324_0, hl324_0, hi324_0⟩ := at_T24 HR1.out (ji7) p324 q324; cases e324; replace hx324_0 := (HB.out.cell (World.block_lt_of_cell? w _ hx324_0)).trans hx324_0; have HR324_0 := Aside0.mk hi324_0; have HC324_0 := Aside0.mk hl324_0; clear hi324_0 hl324_0; replace p324 := eq_true p324; replace q324 := eq_true q324; have p325 : 0 ≤ ((ji7) : Int) := of_decide_eq_true z178_; have q325 : (ji7) < (l1.length : Int) := of_decide_eq_true z178_; obtain ⟨ad325, A325_0, c325_0, e325, hx325_0, hl325_0, hi325_0⟩ := at_T24 HR1.out (ji7) p325 q325; obtain rfl : ad324 = ad325 := (by injection e325); replace hx325_0 := (HB.out.cell (World.block_lt_of_cell? w _ hx325_0)).trans hx325_0; have HR325_0 := Aside0.mk hi325_0; have HC325_0 := Aside0.mk hl325_0; clear hi325_0 hl325_0; replace p325 := eq_true p325; replace q325 := eq_true q325; have ea_ := Option.some.inj (hx324_0.symm.trans hx325_0); injection ea_ with ea_ en_ ec_; subst ea_; subst ec_; clear en_) | (go_at_call 25; (with_reducible refine (locate_Offset.calls k _ _ l1 ji7 ji14 t326 t327 _ ?side1 ?side2 A15.out).mono ?_); (case side1 => exact z68_); (case side2 => exact HC1.out); rintro e w21 ⟨rfl, hb⟩; replace BK323 := Aside0.mk (blk_below (g := gb323) (o := .cells #[.int .i64 a2_0, .int .i64 a2_1, .int .i64 a2_2] 49 (0, 0)) z133_ hb); replace HB := Aside0.mk (below_step z91_ hb); (try clear hb); (try clear hb2); (try clear hk); (try clear hi); have p328 : 0 ≤ ((ji7) : Int) := of_decide_eq_true z178_; have q328 : (ji7) < (l1.length : Int) := of_decide_eq_true z178_; obtain ⟨ad328, A328_0, c328_0, e328, hx328_0, hl328_0, hi328_0⟩ := at_T24 HR1.out (ji7) p328 q328; obtain rfl : ad324 = ad328 := (by injection e328); replace hx328_0 := (HB.out.cell (World.block_lt_of_cell? w _ hx328_0)).trans hx328_0; have HR328_0 := Aside0.mk hi328_0; have HC328_0 := Aside0.mk hl328_0; clear hi328_0 hl328_0; replace p328 := eq_true p328; replace q328 := eq_true q328; have p329 : 0 ≤ ((ji14) : Int) := of_decide_eq_true z178_; have q329 : (ji14) < (((rd_T24 l1 (ji7)).f0).length : Int) := of_decide_eq_true z178_; obtain ⟨ad329, A329_1, c329_1, e329, hx329_0, hx329_1, hx329_2, hx329_3, hx329_4, hx329_5, hx329_6, hx329_7, hx329_8, hl329_1, hi329_1⟩ := at_T28 HR328_0.out (ji14) p329 q329; cases e329; replace hx329_0 := (HB.out.cell (World.block_lt_of_cell? w _ hx329_0)).trans hx329_0; replace hx329_1 := (HB.out.cell (World.block_lt_of_cell? w _ hx329_1)).trans hx329_1; replace hx329_2 := (HB.out.cell (World.block_lt_of_cell? w _ hx329_2)).trans hx329_2; replace hx329_3 := (HB.out.cell (World.block_lt_of_cell? w _ hx329_3)).trans hx329_3; replace hx329_4 := (HB.out.cell (World.block_lt_of_cell? w _ hx329_4)).trans hx329_4; replace hx329_5 := (HB.out.cell (World.block_lt_of_cell? w _ hx329_5)).trans hx329_5; replace hx329_6 := (HB.out.cell (World.block_lt_of_cell? w _ hx329_6)).trans hx329_6; replace hx329_7 := (HB.out.cell (World.block_lt_of_cell? w _ hx329_7)).trans hx329_7; replace hx329_8 := (HB.out.cell (World.block_lt_of_cell? w _ hx329_8)).trans hx329_8; have HR329_1 := Aside0.mk hi329_1; have HC329_1 := Aside0.mk hl329_1; clear hi329_1 hl329_1; replace p329 := eq_true p329; replace q329 := eq_true q329) | ((with_reducible refine gate_dst (N := 12) rfl ?_); refine box_event ?hg (N := 12) ?hd (cs := #[.string (⟨#[]⟩ : ByteArray), .slice none 0 0, .int .i64 0, .int .i64 0, .int .i64 0, .bool false, .int .i64 0, .bool false, .bool false]) (t := 28) ?hr ?_; (case hd => rfl); (case hg => rfl); (case hr => exact z181_); intro gb330 hg w22 hbox hb; have BK330 := Aside0.mk (hbox); have GW330 := Aside0.mk ((z49_ : w.heap.size ≤ gb330)); have GE330 := Aside0.mk ((z49_ : w.heap.size ≤ gb330)); replace HB := Aside0.mk (below_step z91_ hb); have NB323_330 := Aside0.mk ((z30_ : gb323 ≠ gb330)); have NB330_323 := Aside0.mk ((z29_ : gb330 ≠ gb323)); replace BK323 := Aside0.mk (blk_below (g := gb323) (o := .cells #[.int .i64 a2_0, .int .i64 a2_1, .int .i64 a2_2] 49 (0, 0)) z133_ hb); clear hb hbox hg; have hnb23 := NB330_323.out; have hnc23 := NB323_330.out; have hcz24_0 : w22.cell? ⟨gb330, 0, none⟩ = some (.string (⟨#[]⟩ : ByteArray)) := (blk_cell BK330.out 0).trans rfl; have hcz24_1 : w22.cell? ⟨gb330, 1, none⟩ = some (.slice none 0 0) := (blk_cell BK330.out 1).trans rfl; have hcz24_2 : w22.cell? ⟨gb330, 2, none⟩ = some (.int .i64 0) := (blk_cell BK330.out 2).trans rfl; have hcz24_3 : w22.cell? ⟨gb330, 3, none⟩ = some (.int .i64 0) := (blk_cell BK330.out 3).trans rfl; have hcz24_4 : w22.cell? ⟨gb330, 4, none⟩ = some (.int .i64 0) := (blk_cell BK330.out 4).trans rfl; have hcz24_5 : w22.cell? ⟨gb330, 5, none⟩ = some (.bool false) := (blk_cell BK330.out 5).trans rfl; have hcz24_6 : w22.cell? ⟨gb330, 6, none⟩ = some (.int .i64 0) := (blk_cell BK330.out 6).trans rfl; have hcz24_7 : w22.cell? ⟨gb330, 7, none⟩ = some (.bool false) := (blk_cell BK330.out 7).trans rfl; have hcz24_8 : w22.cell? ⟨gb330, 8, none⟩ = some (.bool false) := (blk_cell BK330.out 8).trans rfl; have hfz24_0 := blk_frozen BK330.out 0; have hfz24_1 := blk_frozen BK330.out 1; have hfz24_2 := blk_frozen BK330.out 2; have hfz24_3 := blk_frozen BK330.out 3; have hfz24_4 := blk_frozen BK330.out 4; have hfz24_5 := blk_frozen BK330.out 5; have hfz24_6 := blk_frozen BK330.out 6; have hfz24_7 := blk_frozen BK330.out 7; have hfz24_8 := blk_frozen BK330.out 8) | (go_at_call 13; (with_reducible refine (locate_Stops.calls k _ c0 l0 ((rd_T28 ((rd_T24 l1 (ji7)).f0) (ji14)).f0) _ _ ((rd_T28 ((rd_T24 l1 (ji7)).f0) (ji14)).f1) ((rd_T28 ((rd_T24 l1 (ji7)).f0) (ji14)).f2) ((rd_T28 ((rd_T24 l1 (ji7)).f0) (ji14)).f3) ((rd_T28 ((rd_T24 l1 (ji7)).f0) (ji14)).f4) ((rd_T28 ((rd_T24 l1 (ji7)).f0) (ji14)).f5) ((rd_T28 ((rd_T24 l1 (ji7)).f0) (ji14)).f6) ((rd_T28 ((rd_T24 l1 (ji7)).f0) (ji14)).f7) ((rd_T28 ((rd_T24 l1 (ji7)).f0) (ji14)).f8) t331 _ ?side1 ?side2 ?side3 ?side4 A18.out).mono ?_); (case side1 => exact z33_); (case side2 => exact HC0.out); (case side3 => exact z32_); (case side4 => exact HC329_1.out); rintro e w25 ⟨v332, rfl, ho0, hb⟩; have HO333 := Aside0.mk (Kd.R_lower ho0 (below_size z57_)); replace BK323 := Aside0.mk (blk_below (g := gb323) (o := .cells #[.int .i64 a2_0, .int .i64 a2_1, .int .i64 a2_2] 49 (0, 0)) z4_ hb); replace BK330 := Aside0.mk (blk_below (g := gb330) (o := .cells #[.string ((rd_T28 ((rd_T24 l1 (ji7)).f0) (ji14)).f0), .slice A329_1 ((rd_T28 ((rd_T24 l1 (ji7)).f0) (ji14)).f1).length c329_1, .int .i64 ((rd_T28 ((rd_T24 l1 (ji7)).f0) (ji14)).f2), .int .i64 ((rd_T28 ((rd_T24 l1 (ji7)).f0) (ji14)).f3), .int .i64 ((rd_T28 ((rd_T24 l1 (ji7)).f0) (ji14)).f4), .bool ((rd_T28 ((rd_T24 l1 (ji7)).f0) (ji14)).f5), .int .i64 ((rd_T28 ((rd_T24 l1 (ji7)).f0) (ji14)).f6), .bool ((rd_T28 ((rd_T24 l1 (ji7)).f0) (ji14)).f7), .bool ((rd_T28 ((rd_T24 l1 (ji7)).f0) (ji14)).f8)] 28 (0, 0)) z0_ hb); replace HB := Aside0.mk (below_step z57_ hb); (try clear hb); (try clear hb2); (try clear hk); (try clear hi); (try clear ho0)))
  repeat (go_quiet (first | ((with_reducible refine gate_dst (N := 5) rfl ?_); refine box_event ?hg (N := 5) ?hd (cs := #[.int .i64 a2_0, .int .i64 a2_1, .int .i64 a2_2]) (t := 49) ?hr ?_; (case hd => rfl); (case hg => rfl); (case hr => exact z181_); intro gb323 hg w19 hbox hb; have BK323 := Aside0.mk (hbox); have GW323 := Aside0.mk ((z74_ : w.heap.size ≤ gb323)); have GE323 := Aside0.mk ((z74_ : w.heap.size ≤ gb323)); replace HB := Aside0.mk (below_step z103_ hb); clear hb hbox hg; have hcz20_0 : w19.cell? ⟨gb323, 0, none⟩ = some (.int .i64 a2_0) := (blk_cell BK323.out 0).trans rfl; have hcz20_1 : w19.cell? ⟨gb323, 1, none⟩ = some (.int .i64 a2_1) := (blk_cell BK323.out 1).trans rfl; have hcz20_2 : w19.cell? ⟨gb323, 2, none⟩ = some (.int .i64 a2_2) := (blk_cell BK323.out 2).trans rfl; have hfz20_0 := blk_frozen BK323.out 0; have hfz20_1 := blk_frozen BK323.out 1; have hfz20_2 := blk_frozen BK323.out 2; have p324 : 0 ≤ ((ji7) : Int) := of_decide_eq_true z178_; have q324 : (ji7) < (l1.length : Int) := of_decide_eq_true z178_; obtain ⟨ad324, A324_0, c324_0, e324, hx324_0, hl324_0, hi324_0⟩ := at_T24 HR1.out (ji7) p324 q324; cases e324; replace hx324_0 := (HB.out.cell (World.block_lt_of_cell? w _ hx324_0)).trans hx324_0; have HR324_0 := Aside0.mk hi324_0; have HC324_0 := Aside0.mk hl324_0; clear hi324_0 hl324_0; replace p324 := eq_true p324; replace q324 := eq_true q324; have p325 : 0 ≤ ((ji7) : Int) := of_decide_eq_true z178_; have q325 : (ji7) < (l1.length : Int) := of_decide_eq_true z178_; obtain ⟨ad325, A325_0, c325_0, e325, hx325_0, hl325_0, hi325_0⟩ := at_T24 HR1.out (ji7) p325 q325; obtain rfl : ad324 = ad325 := (by injection e325); replace hx325_0 := (HB.out.cell (World.block_lt_of_cell? w _ hx325_0)).trans hx325_0; have HR325_0 := Aside0.mk hi325_0; have HC325_0 := Aside0.mk hl325_0; clear hi325_0 hl325_0; replace p325 := eq_true p325; replace q325 := eq_true q325; have ea_ := Option.some.inj (hx324_0.symm.trans hx325_0); injection ea_ with ea_ en_ ec_; subst ea_; subst ec_; clear en_) | (go_at_call 25; (with_reducible refine (locate_Offset.calls k _ _ l1 ji7 ji14 t326 t327 _ ?side1 ?side2 A15.out).mono ?_); (case side1 => exact z68_); (case side2 => exact HC1.out); rintro e w21 ⟨rfl, hb⟩; replace BK323 := Aside0.mk (blk_below (g := gb323) (o := .cells #[.int .i64 a2_0, .int .i64 a2_1, .int .i64 a2_2] 49 (0, 0)) z133_ hb); replace HB := Aside0.mk (below_step z91_ hb); (try clear hb); (try clear hb2); (try clear hk); (try clear hi); have p328 : 0 ≤ ((ji7) : Int) := of_decide_eq_true z178_; have q328 : (ji7) < (l1.length : Int) := of_decide_eq_true z178_; obtain ⟨ad328, A328_0, c328_0, e328, hx328_0, hl328_0, hi328_0⟩ := at_T24 HR1.out (ji7) p328 q328; obtain rfl : ad324 = ad328 := (by injection e328); replace hx328_0 := (HB.out.cell (World.block_lt_of_cell? w _ hx328_0)).trans hx328_0; have HR328_0 := Aside0.mk hi328_0; have HC328_0 := Aside0.mk hl328_0; clear hi328_0 hl328_0; replace p328 := eq_true p328; replace q328 := eq_true q328; have p329 : 0 ≤ ((ji14) : Int) := of_decide_eq_true z178_; have q329 : (ji14) < (((rd_T24 l1 (ji7)).f0).length : Int) := of_decide_eq_true z178_; obtain ⟨ad329, A329_1, c329_1, e329, hx329_0, hx329_1, hx329_2, hx329_3, hx329_4, hx329_5, hx329_6, hx329_7, hx329_8, hl329_1, hi329_1⟩ := at_T28 HR328_0.out (ji14) p329 q329; cases e329; replace hx329_0 := (HB.out.cell (World.block_lt_of_cell? w _ hx329_0)).trans hx329_0; replace hx329_1 := (HB.out.cell (World.block_lt_of_cell? w _ hx329_1)).trans hx329_1; replace hx329_2 := (HB.out.cell (World.block_lt_of_cell? w _ hx329_2)).trans hx329_2; replace hx329_3 := (HB.out.cell (World.block_lt_of_cell? w _ hx329_3)).trans hx329_3; replace hx329_4 := (HB.out.cell (World.block_lt_of_cell? w _ hx329_4)).trans hx329_4; replace hx329_5 := (HB.out.cell (World.block_lt_of_cell? w _ hx329_5)).trans hx329_5; replace hx329_6 := (HB.out.cell (World.block_lt_of_cell? w _ hx329_6)).trans hx329_6; replace hx329_7 := (HB.out.cell (World.block_lt_of_cell? w _ hx329_7)).trans hx329_7; replace hx329_8 := (HB.out.cell (World.block_lt_of_cell? w _ hx329_8)).trans hx329_8; have HR329_1 := Aside0.mk hi329_1; have HC329_1 := Aside0.mk hl329_1; clear hi329_1 hl329_1; replace p329 := eq_true p329; replace q329 := eq_true q329) | ((with_reducible refine gate_dst (N := 12) rfl ?_); refine box_event ?hg (N := 12) ?hd (cs := #[.string (⟨#[]⟩ : ByteArray), .slice none 0 0, .int .i64 0, .int .i64 0, .int .i64 0, .bool false, .int .i64 0, .bool false, .bool false]) (t := 28) ?hr ?_; (case hd => rfl); (case hg => rfl); (case hr => exact z181_); intro gb330 hg w22 hbox hb; have BK330 := Aside0.mk (hbox); have GW330 := Aside0.mk ((z49_ : w.heap.size ≤ gb330)); have GE330 := Aside0.mk ((z49_ : w.heap.size ≤ gb330)); replace HB := Aside0.mk (below_step z91_ hb); have NB323_330 := Aside0.mk ((z30_ : gb323 ≠ gb330)); have NB330_323 := Aside0.mk ((z29_ : gb330 ≠ gb323)); replace BK323 := Aside0.mk (blk_below (g := gb323) (o := .cells #[.int .i64 a2_0, .int .i64 a2_1, .int .i64 a2_2] 49 (0, 0)) z133_ hb); clear hb hbox hg; have hnb23 := NB330_323.out; have hnc23 := NB323_330.out; have hcz24_0 : w22.cell? ⟨gb330, 0, none⟩ = some (.string (⟨#[]⟩ : ByteArray)) := (blk_cell BK330.out 0).trans rfl; have hcz24_1 : w22.cell? ⟨gb330, 1, none⟩ = some (.slice none 0 0) := (blk_cell BK330.out 1).trans rfl; have hcz24_2 : w22.cell? ⟨gb330, 2, none⟩ = some (.int .i64 0) := (blk_cell BK330.out 2).trans rfl; have hcz24_3 : w22.cell? ⟨gb330, 3, none⟩ = some (.int .i64 0) := (blk_cell BK330.out 3).trans rfl; have hcz24_4 : w22.cell? ⟨gb330, 4, none⟩ = some (.int .i64 0) := (blk_cell BK330.out 4).trans rfl; have hcz24_5 : w22.cell? ⟨gb330, 5, none⟩ = some (.bool false) := (blk_cell BK330.out 5).trans rfl; have hcz24_6 : w22.cell? ⟨gb330, 6, none⟩ = some (.int .i64 0) := (blk_cell BK330.out 6).trans rfl; have hcz24_7 : w22.cell? ⟨gb330, 7, none⟩ = some (.bool false) := (blk_cell BK330.out 7).trans rfl; have hcz24_8 : w22.cell? ⟨gb330, 8, none⟩ = some (.bool false) := (blk_cell BK330.out 8).trans rfl; have hfz24_0 := blk_frozen BK330.out 0; have hfz24_1 := blk_frozen BK330.out 1; have hfz24_2 := blk_frozen BK330.out 2; have hfz24_3 := blk_frozen BK330.out 3; have hfz24_4 := blk_frozen BK330.out 4; have hfz24_5 := blk_frozen BK330.out 5; have hfz24_6 := blk_frozen BK330.out 6; have hfz24_7 := blk_frozen BK330.out 7; have hfz24_8 := blk_frozen BK330.out 8) | (go_at_call 13; (with_reducible refine (locate_Stops.calls k _ c0 l0 ((rd_T28 ((rd_T24 l1 (ji7)).f0) (ji14)).f0) _ _ ((rd_T28 ((rd_T24 l1 (ji7)).f0) (ji14)).f1) ((rd_T28 ((rd_T24 l1 (ji7)).f0) (ji14)).f2) ((rd_T28 ((rd_T24 l1 (ji7)).f0) (ji14)).f3) ((rd_T28 ((rd_T24 l1 (ji7)).f0) (ji14)).f4) ((rd_T28 ((rd_T24 l1 (ji7)).f0) (ji14)).f5) ((rd_T28 ((rd_T24 l1 (ji7)).f0) (ji14)).f6) ((rd_T28 ((rd_T24 l1 (ji7)).f0) (ji14)).f7) ((rd_T28 ((rd_T24 l1 (ji7)).f0) (ji14)).f8) t331 _ ?side1 ?side2 ?side3 ?side4 A18.out).mono ?_); (case side1 => exact z33_); (case side2 => exact HC0.out); (case side3 => exact z32_); (case side4 => exact HC329_1.out); rintro e w25 ⟨v332, rfl, ho0, hb⟩; have HO333 := Aside0.mk (Kd.R_lower ho0 (below_size z57_)); replace BK323 := Aside0.mk (blk_below (g := gb323) (o := .cells #[.int .i64 a2_0, .int .i64 a2_1, .int .i64 a2_2] 49 (0, 0)) z4_ hb); replace BK330 := Aside0.mk (blk_below (g := gb330) (o := .cells #[.string ((rd_T28 ((rd_T24 l1 (ji7)).f0) (ji14)).f0), .slice A329_1 ((rd_T28 ((rd_T24 l1 (ji7)).f0) (ji14)).f1).length c329_1, .int .i64 ((rd_T28 ((rd_T24 l1 (ji7)).f0) (ji14)).f2), .int .i64 ((rd_T28 ((rd_T24 l1 (ji7)).f0) (ji14)).f3), .int .i64 ((rd_T28 ((rd_T24 l1 (ji7)).f0) (ji14)).f4), .bool ((rd_T28 ((rd_T24 l1 (ji7)).f0) (ji14)).f5), .int .i64 ((rd_T28 ((rd_T24 l1 (ji7)).f0) (ji14)).f6), .bool ((rd_T28 ((rd_T24 l1 (ji7)).f0) (ji14)).f7), .bool ((rd_T28 ((rd_T24 l1 (ji7)).f0) (ji14)).f8)] 28 (0, 0)) z0_ hb); replace HB := Aside0.mk (below_step z57_ hb); (try clear hb); (try clear hb2); (try clear hk); (try clear hi); (try clear ho0))); try go_wp2_with (first | ((with_reducible refine gate_dst (N := 5) rfl ?_); refine box_event ?hg (N := 5) ?hd (cs := #[.int .i64 a2_0, .int .i64 a2_1, .int .i64 a2_2]) (t := 49) ?hr ?_; (case hd => rfl); (case hg => rfl); (case hr => exact z181_); intro gb323 hg w19 hbox hb; have BK323 := Aside0.mk (hbox); have GW323 := Aside0.mk ((z74_ : w.heap.size ≤ gb323)); have GE323 := Aside0.mk ((z74_ : w.heap.size ≤ gb323)); replace HB := Aside0.mk (below_step z103_ hb); clear hb hbox hg; have hcz20_0 : w19.cell? ⟨gb323, 0, none⟩ = some (.int .i64 a2_0) := (blk_cell BK323.out 0).trans rfl; have hcz20_1 : w19.cell? ⟨gb323, 1, none⟩ = some (.int .i64 a2_1) := (blk_cell BK323.out 1).trans rfl; have hcz20_2 : w19.cell? ⟨gb323, 2, none⟩ = some (.int .i64 a2_2) := (blk_cell BK323.out 2).trans rfl; have hfz20_0 := blk_frozen BK323.out 0; have hfz20_1 := blk_frozen BK323.out 1; have hfz20_2 := blk_frozen BK323.out 2; have p324 : 0 ≤ ((ji7) : Int) := of_decide_eq_true z178_; have q324 : (ji7) < (l1.length : Int) := of_decide_eq_true z178_; obtain ⟨ad324, A324_0, c324_0, e324, hx324_0, hl324_0, hi324_0⟩ := at_T24 HR1.out (ji7) p324 q324; cases e324; replace hx324_0 := (HB.out.cell (World.block_lt_of_cell? w _ hx324_0)).trans hx324_0; have HR324_0 := Aside0.mk hi324_0; have HC324_0 := Aside0.mk hl324_0; clear hi324_0 hl324_0; replace p324 := eq_true p324; replace q324 := eq_true q324; have p325 : 0 ≤ ((ji7) : Int) := of_decide_eq_true z178_; have q325 : (ji7) < (l1.length : Int) := of_decide_eq_true z178_; obtain ⟨ad325, A325_0, c325_0, e325, hx325_0, hl325_0, hi325_0⟩ := at_T24 HR1.out (ji7) p325 q325; obtain rfl : ad324 = ad325 := (by injection e325); replace hx325_0 := (HB.out.cell (World.block_lt_of_cell? w _ hx325_0)).trans hx325_0; have HR325_0 := Aside0.mk hi325_0; have HC325_0 := Aside0.mk hl325_0; clear hi325_0 hl325_0; replace p325 := eq_true p325; replace q325 := eq_true q325; have ea_ := Option.some.inj (hx324_0.symm.trans hx325_0); injection ea_ with ea_ en_ ec_; subst ea_; subst ec_; clear en_) | (go_at_call 25; (with_reducible refine (locate_Offset.calls k _ _ l1 ji7 ji14 t326 t327 _ ?side1 ?side2 A15.out).mono ?_); (case side1 => exact z68_); (case side2 => exact HC1.out); rintro e w21 ⟨rfl, hb⟩; replace BK323 := Aside0.mk (blk_below (g := gb323) (o := .cells #[.int .i64 a2_0, .int .i64 a2_1, .int .i64 a2_2] 49 (0, 0)) z133_ hb); replace HB := Aside0.mk (below_step z91_ hb); (try clear hb); (try clear hb2); (try clear hk); (try clear hi); have p328 : 0 ≤ ((ji7) : Int) := of_decide_eq_true z178_; have q328 : (ji7) < (l1.length : Int) := of_decide_eq_true z178_; obtain ⟨ad328, A328_0, c328_0, e328, hx328_0, hl328_0, hi328_0⟩ := at_T24 HR1.out (ji7) p328 q328; obtain rfl : ad324 = ad328 := (by injection e328); replace hx328_0 := (HB.out.cell (World.block_lt_of_cell? w _ hx328_0)).trans hx328_0; have HR328_0 := Aside0.mk hi328_0; have HC328_0 := Aside0.mk hl328_0; clear hi328_0 hl328_0; replace p328 := eq_true p328; replace q328 := eq_true q328; have p329 : 0 ≤ ((ji14) : Int) := of_decide_eq_true z178_; have q329 : (ji14) < (((rd_T24 l1 (ji7)).f0).length : Int) := of_decide_eq_true z178_; obtain ⟨ad329, A329_1, c329_1, e329, hx329_0, hx329_1, hx329_2, hx329_3, hx329_4, hx329_5, hx329_6, hx329_7, hx329_8, hl329_1, hi329_1⟩ := at_T28 HR328_0.out (ji14) p329 q329; cases e329; replace hx329_0 := (HB.out.cell (World.block_lt_of_cell? w _ hx329_0)).trans hx329_0; replace hx329_1 := (HB.out.cell (World.block_lt_of_cell? w _ hx329_1)).trans hx329_1; replace hx329_2 := (HB.out.cell (World.block_lt_of_cell? w _ hx329_2)).trans hx329_2; replace hx329_3 := (HB.out.cell (World.block_lt_of_cell? w _ hx329_3)).trans hx329_3; replace hx329_4 := (HB.out.cell (World.block_lt_of_cell? w _ hx329_4)).trans hx329_4; replace hx329_5 := (HB.out.cell (World.block_lt_of_cell? w _ hx329_5)).trans hx329_5; replace hx329_6 := (HB.out.cell (World.block_lt_of_cell? w _ hx329_6)).trans hx329_6; replace hx329_7 := (HB.out.cell (World.block_lt_of_cell? w _ hx329_7)).trans hx329_7; replace hx329_8 := (HB.out.cell (World.block_lt_of_cell? w _ hx329_8)).trans hx329_8; have HR329_1 := Aside0.mk hi329_1; have HC329_1 := Aside0.mk hl329_1; clear hi329_1 hl329_1; replace p329 := eq_true p329; replace q329 := eq_true q329) | ((with_reducible refine gate_dst (N := 12) rfl ?_); refine box_event ?hg (N := 12) ?hd (cs := #[.string (⟨#[]⟩ : ByteArray), .slice none 0 0, .int .i64 0, .int .i64 0, .int .i64 0, .bool false, .int .i64 0, .bool false, .bool false]) (t := 28) ?hr ?_; (case hd => rfl); (case hg => rfl); (case hr => exact z181_); intro gb330 hg w22 hbox hb; have BK330 := Aside0.mk (hbox); have GW330 := Aside0.mk ((z49_ : w.heap.size ≤ gb330)); have GE330 := Aside0.mk ((z49_ : w.heap.size ≤ gb330)); replace HB := Aside0.mk (below_step z91_ hb); have NB323_330 := Aside0.mk ((z30_ : gb323 ≠ gb330)); have NB330_323 := Aside0.mk ((z29_ : gb330 ≠ gb323)); replace BK323 := Aside0.mk (blk_below (g := gb323) (o := .cells #[.int .i64 a2_0, .int .i64 a2_1, .int .i64 a2_2] 49 (0, 0)) z133_ hb); clear hb hbox hg; have hnb23 := NB330_323.out; have hnc23 := NB323_330.out; have hcz24_0 : w22.cell? ⟨gb330, 0, none⟩ = some (.string (⟨#[]⟩ : ByteArray)) := (blk_cell BK330.out 0).trans rfl; have hcz24_1 : w22.cell? ⟨gb330, 1, none⟩ = some (.slice none 0 0) := (blk_cell BK330.out 1).trans rfl; have hcz24_2 : w22.cell? ⟨gb330, 2, none⟩ = some (.int .i64 0) := (blk_cell BK330.out 2).trans rfl; have hcz24_3 : w22.cell? ⟨gb330, 3, none⟩ = some (.int .i64 0) := (blk_cell BK330.out 3).trans rfl; have hcz24_4 : w22.cell? ⟨gb330, 4, none⟩ = some (.int .i64 0) := (blk_cell BK330.out 4).trans rfl; have hcz24_5 : w22.cell? ⟨gb330, 5, none⟩ = some (.bool false) := (blk_cell BK330.out 5).trans rfl; have hcz24_6 : w22.cell? ⟨gb330, 6, none⟩ = some (.int .i64 0) := (blk_cell BK330.out 6).trans rfl; have hcz24_7 : w22.cell? ⟨gb330, 7, none⟩ = some (.bool false) := (blk_cell BK330.out 7).trans rfl; have hcz24_8 : w22.cell? ⟨gb330, 8, none⟩ = some (.bool false) := (blk_cell BK330.out 8).trans rfl; have hfz24_0 := blk_frozen BK330.out 0; have hfz24_1 := blk_frozen BK330.out 1; have hfz24_2 := blk_frozen BK330.out 2; have hfz24_3 := blk_frozen BK330.out 3; have hfz24_4 := blk_frozen BK330.out 4; have hfz24_5 := blk_frozen BK330.out 5; have hfz24_6 := blk_frozen BK330.out 6; have hfz24_7 := blk_frozen BK330.out 7; have hfz24_8 := blk_frozen BK330.out 8) | (go_at_call 13; (with_reducible refine (locate_Stops.calls k _ c0 l0 ((rd_T28 ((rd_T24 l1 (ji7)).f0) (ji14)).f0) _ _ ((rd_T28 ((rd_T24 l1 (ji7)).f0) (ji14)).f1) ((rd_T28 ((rd_T24 l1 (ji7)).f0) (ji14)).f2) ((rd_T28 ((rd_T24 l1 (ji7)).f0) (ji14)).f3) ((rd_T28 ((rd_T24 l1 (ji7)).f0) (ji14)).f4) ((rd_T28 ((rd_T24 l1 (ji7)).f0) (ji14)).f5) ((rd_T28 ((rd_T24 l1 (ji7)).f0) (ji14)).f6) ((rd_T28 ((rd_T24 l1 (ji7)).f0) (ji14)).f7) ((rd_T28 ((rd_T24 l1 (ji7)).f0) (ji14)).f8) t331 _ ?side1 ?side2 ?side3 ?side4 A18.out).mono ?_); (case side1 => exact z33_); (case side2 => exact HC0.out); (case side3 => exact z32_); (case side4 => exact HC329_1.out); rintro e w25 ⟨v332, rfl, ho0, hb⟩; have HO333 := Aside0.mk (Kd.R_lower ho0 (below_size z57_)); replace BK323 := Aside0.mk (blk_below (g := gb323) (o := .cells #[.int .i64 a2_0, .int .i64 a2_1, .int .i64 a2_2] 49 (0, 0)) z4_ hb); replace BK330 := Aside0.mk (blk_below (g := gb330) (o := .cells #[.string ((rd_T28 ((rd_T24 l1 (ji7)).f0) (ji14)).f0), .slice A329_1 ((rd_T28 ((rd_T24 l1 (ji7)).f0) (ji14)).f1).length c329_1, .int .i64 ((rd_T28 ((rd_T24 l1 (ji7)).f0) (ji14)).f2), .int .i64 ((rd_T28 ((rd_T24 l1 (ji7)).f0) (ji14)).f3), .int .i64 ((rd_T28 ((rd_T24 l1 (ji7)).f0) (ji14)).f4), .bool ((rd_T28 ((rd_T24 l1 (ji7)).f0) (ji14)).f5), .int .i64 ((rd_T28 ((rd_T24 l1 (ji7)).f0) (ji14)).f6), .bool ((rd_T28 ((rd_T24 l1 (ji7)).f0) (ji14)).f7), .bool ((rd_T28 ((rd_T24 l1 (ji7)).f0) (ji14)).f8)] 28 (0, 0)) z0_ hb); replace HB := Aside0.mk (below_step z57_ hb); (try clear hb); (try clear hb2); (try clear hk); (try clear hi); (try clear ho0))))
  go_loopg [14] k (fun kq v14 w' => ∃ (x14_1 : Int), v14 = .int .i64 x14_1 ∧ Aside0 (locate_Hit.l0 kq t326 t331 x14_1 a2_0 a2_1 a2_2 ((rd_T28 ((rd_T24 l1 (ji7)).f0) (ji14)).f0) ((rd_T28 ((rd_T24 l1 (ji7)).f0) (ji14)).f1) ((rd_T28 ((rd_T24 l1 (ji7)).f0) (ji14)).f2) ((rd_T28 ((rd_T24 l1 (ji7)).f0) (ji14)).f3) ((rd_T28 ((rd_T24 l1 (ji7)).f0) (ji14)).f4) ((rd_T28 ((rd_T24 l1 (ji7)).f0) (ji14)).f5) ((rd_T28 ((rd_T24 l1 (ji7)).f0) (ji14)).f6) ((rd_T28 ((rd_T24 l1 (ji7)).f0) (ji14)).f7) ((rd_T28 ((rd_T24 l1 (ji7)).f0) (ji14)).f8) = some (r1, r2)) ∧ Aside0 (kq ≤ k) ∧ Aside0 (Kd.R k43 43 w' w.heap.size (fun _ => True) v332 t331) ∧ Aside0 (w'.heap[gb323]? = some (.cells #[.int .i64 a2_0, .int .i64 a2_1, .int .i64 a2_2] 49 (0, 0))) ∧ Aside0 (w'.heap[gb330]? = some (.cells #[.string ((rd_T28 ((rd_T24 l1 (ji7)).f0) (ji14)).f0), (.slice A329_1 ((rd_T28 ((rd_T24 l1 (ji7)).f0) (ji14)).f1).length c329_1), .int .i64 ((rd_T28 ((rd_T24 l1 (ji7)).f0) (ji14)).f2), .int .i64 ((rd_T28 ((rd_T24 l1 (ji7)).f0) (ji14)).f3), .int .i64 ((rd_T28 ((rd_T24 l1 (ji7)).f0) (ji14)).f4), .bool ((rd_T28 ((rd_T24 l1 (ji7)).f0) (ji14)).f5), .int .i64 ((rd_T28 ((rd_T24 l1 (ji7)).f0) (ji14)).f6), .bool ((rd_T28 ((rd_T24 l1 (ji7)).f0) (ji14)).f7), .bool ((rd_T28 ((rd_T24 l1 (ji7)).f0) (ji14)).f8)] 28 (0, 0))) ∧ Aside0 (Below w.heap.size w w'))
  case atStart => exact ⟨(0), z180_, H', ⟨Nat.le_refl _⟩, ⟨y161_ HO333.out⟩, ⟨z133_⟩, ⟨z134_⟩, ⟨z57_⟩⟩
  case round =>
    clear H'; (try clear c1); (try clear c2); (try clear p2); (try clear c3); (try clear p3); (try clear q3); (try clear hx3); (try clear c4); (try clear c4b0); (try clear c4b1); (try clear c4b2); (try clear p6); (try clear c8); (try clear c8b0); (try clear c9); (try clear c9b0); (try clear c10); (try clear c10b0); (try clear c10b1); (try clear c10b2); (try clear c16); (try clear c16b0); (try clear c17); (try clear c17b0); (try clear c20); (try clear c23); (try clear hcz12_0); (try clear hcz12_1); (try clear hcz12_2); (try clear hcz20_0); (try clear hcz20_1); (try clear hcz20_2); (try clear hcz24_0); (try clear hcz24_1); (try clear hcz24_2); (try clear hcz24_3); (try clear hcz24_4); (try clear hcz24_5); (try clear hcz24_6); (try clear hcz24_7); (try clear hcz24_8); (try clear hfz12_0); (try clear hfz12_1); (try clear hfz12_2); (try clear hfz20_0); (try clear hfz20_1); (try clear hfz20_2); (try clear hfz24_0); (try clear hfz24_1); (try clear hfz24_2); (try clear hfz24_3); (try clear hfz24_4); (try clear hfz24_5); (try clear hfz24_6); (try clear hfz24_7); (try clear hfz24_8); (try clear hx324_0); (try clear hx325_0); (try clear hx328_0); (try clear hx329_0); (try clear hx329_1); (try clear hx329_2); (try clear hx329_3); (try clear hx329_4); (try clear hx329_5); (try clear hx329_6); (try clear hx329_7); (try clear hx329_8); (try clear p324); (try clear p325); (try clear p328); (try clear p329); (try clear q324); (try clear q325); (try clear q328); (try clear q329)
    obtain ⟨x14_1, rfl, HA, HK1, HO_13, BK323, BK330, HB⟩ := hrel
    cases gk with
    | zero => exact absurd HA.out (by simp [locate_Hit.l0])
    | succ k1 =>
      have H := HA.out
      clear HA
      simp only [locate_Hit.l0] at H
      by_cases c26 : (wrap64 (x14_1 + 1)) < (t331.length : Int)
      rotate_left
      · rw [if_neg c26] at H
        have c26b0 : decide ((wrap64 (x14_1 + 1)) < (t331.length : Int)) = false := decide_eq_false c26
        clear c26
        replace H := Option.bind_eq_some_iff.mp H
        obtain ⟨t336, A380, H⟩ := H
        replace H : (some (wrap64 (t326 + t336), 0)) = some (r1, r2) := H
        have A38 := Aside0.mk A380
        clear A380
        simp only [Option.some.injEq, Prod.mk.injEq] at H
        obtain ⟨rfl, rfl⟩ := H
        obtain ⟨Ao39, co39, eo39⟩ := Kd.R_slice HO_13.out
        subst eo39
        have hnb40 := NB330_323.out
        have hnc40 := NB323_330.out
        have hcz41_0 : wr.cell? ⟨gb330, 0, none⟩ = some (.string ((rd_T28 ((rd_T24 l1 (ji7)).f0) (ji14)).f0)) := (blk_cell BK330.out 0).trans rfl
        have hcz41_1 : wr.cell? ⟨gb330, 1, none⟩ = some (.slice A329_1 ((rd_T28 ((rd_T24 l1 (ji7)).f0) (ji14)).f1).length c329_1) := (blk_cell BK330.out 1).trans rfl
        have hcz41_2 : wr.cell? ⟨gb330, 2, none⟩ = some (.int .i64 ((rd_T28 ((rd_T24 l1 (ji7)).f0) (ji14)).f2)) := (blk_cell BK330.out 2).trans rfl
        have hcz41_3 : wr.cell? ⟨gb330, 3, none⟩ = some (.int .i64 ((rd_T28 ((rd_T24 l1 (ji7)).f0) (ji14)).f3)) := (blk_cell BK330.out 3).trans rfl
        have hcz41_4 : wr.cell? ⟨gb330, 4, none⟩ = some (.int .i64 ((rd_T28 ((rd_T24 l1 (ji7)).f0) (ji14)).f4)) := (blk_cell BK330.out 4).trans rfl
        have hcz41_5 : wr.cell? ⟨gb330, 5, none⟩ = some (.bool ((rd_T28 ((rd_T24 l1 (ji7)).f0) (ji14)).f5)) := (blk_cell BK330.out 5).trans rfl
        have hcz41_6 : wr.cell? ⟨gb330, 6, none⟩ = some (.int .i64 ((rd_T28 ((rd_T24 l1 (ji7)).f0) (ji14)).f6)) := (blk_cell BK330.out 6).trans rfl
        have hcz41_7 : wr.cell? ⟨gb330, 7, none⟩ = some (.bool ((rd_T28 ((rd_T24 l1 (ji7)).f0) (ji14)).f7)) := (blk_cell BK330.out 7).trans rfl
        have hcz41_8 : wr.cell? ⟨gb330, 8, none⟩ = some (.bool ((rd_T28 ((rd_T24 l1 (ji7)).f0) (ji14)).f8)) := (blk_cell BK330.out 8).trans rfl
        have hfz41_0 := blk_frozen BK330.out 0
        have hfz41_1 := blk_frozen BK330.out 1
        have hfz41_2 := blk_frozen BK330.out 2
        have hfz41_3 := blk_frozen BK330.out 3
        have hfz41_4 := blk_frozen BK330.out 4
        have hfz41_5 := blk_frozen BK330.out 5
        have hfz41_6 := blk_frozen BK330.out 6
        have hfz41_7 := blk_frozen BK330.out 7
        have hfz41_8 := blk_frozen BK330.out 8
        go_wp2_with (first | (go_at_call 30; (with_reducible refine (locate_shown.calls k1 ((rd_T28 ((rd_T24 l1 (ji7)).f0) (ji14)).f0) t336 _ A38.out).mono ?_); rintro e w42 ⟨rfl, hb⟩; replace HO_13 := Aside0.mk (Kd.R_below z142_ hb); replace BK323 := Aside0.mk (blk_below (g := gb323) (o := .cells #[.int .i64 a2_0, .int .i64 a2_1, .int .i64 a2_2] 49 (0, 0)) z133_ hb); replace BK330 := Aside0.mk (blk_below (g := gb330) (o := .cells #[.string ((rd_T28 ((rd_T24 l1 (ji7)).f0) (ji14)).f0), .slice A329_1 ((rd_T28 ((rd_T24 l1 (ji7)).f0) (ji14)).f1).length c329_1, .int .i64 ((rd_T28 ((rd_T24 l1 (ji7)).f0) (ji14)).f2), .int .i64 ((rd_T28 ((rd_T24 l1 (ji7)).f0) (ji14)).f3), .int .i64 ((rd_T28 ((rd_T24 l1 (ji7)).f0) (ji14)).f4), .bool ((rd_T28 ((rd_T24 l1 (ji7)).f0) (ji14)).f5), .int .i64 ((rd_T28 ((rd_T24 l1 (ji7)).f0) (ji14)).f6), .bool ((rd_T28 ((rd_T24 l1 (ji7)).f0) (ji14)).f7), .bool ((rd_T28 ((rd_T24 l1 (ji7)).f0) (ji14)).f8)] 28 (0, 0)) z134_ hb); replace HB := Aside0.mk (below_step z57_ hb); (try clear hb); (try clear hb2); (try clear hk); (try clear hi)))
        repeat (go_quiet (first | (go_at_call 30; (with_reducible refine (locate_shown.calls k1 ((rd_T28 ((rd_T24 l1 (ji7)).f0) (ji14)).f0) t336 _ A38.out).mono ?_); rintro e w42 ⟨rfl, hb⟩; replace HO_13 := Aside0.mk (Kd.R_below z142_ hb); replace BK323 := Aside0.mk (blk_below (g := gb323) (o := .cells #[.int .i64 a2_0, .int .i64 a2_1, .int .i64 a2_2] 49 (0, 0)) z133_ hb); replace BK330 := Aside0.mk (blk_below (g := gb330) (o := .cells #[.string ((rd_T28 ((rd_T24 l1 (ji7)).f0) (ji14)).f0), .slice A329_1 ((rd_T28 ((rd_T24 l1 (ji7)).f0) (ji14)).f1).length c329_1, .int .i64 ((rd_T28 ((rd_T24 l1 (ji7)).f0) (ji14)).f2), .int .i64 ((rd_T28 ((rd_T24 l1 (ji7)).f0) (ji14)).f3), .int .i64 ((rd_T28 ((rd_T24 l1 (ji7)).f0) (ji14)).f4), .bool ((rd_T28 ((rd_T24 l1 (ji7)).f0) (ji14)).f5), .int .i64 ((rd_T28 ((rd_T24 l1 (ji7)).f0) (ji14)).f6), .bool ((rd_T28 ((rd_T24 l1 (ji7)).f0) (ji14)).f7), .bool ((rd_T28 ((rd_T24 l1 (ji7)).f0) (ji14)).f8)] 28 (0, 0)) z134_ hb); replace HB := Aside0.mk (below_step z57_ hb); (try clear hb); (try clear hb2); (try clear hk); (try clear hi))); try go_wp2_with (first | (go_at_call 30; (with_reducible refine (locate_shown.calls k1 ((rd_T28 ((rd_T24 l1 (ji7)).f0) (ji14)).f0) t336 _ A38.out).mono ?_); rintro e w42 ⟨rfl, hb⟩; replace HO_13 := Aside0.mk (Kd.R_below z142_ hb); replace BK323 := Aside0.mk (blk_below (g := gb323) (o := .cells #[.int .i64 a2_0, .int .i64 a2_1, .int .i64 a2_2] 49 (0, 0)) z133_ hb); replace BK330 := Aside0.mk (blk_below (g := gb330) (o := .cells #[.string ((rd_T28 ((rd_T24 l1 (ji7)).f0) (ji14)).f0), .slice A329_1 ((rd_T28 ((rd_T24 l1 (ji7)).f0) (ji14)).f1).length c329_1, .int .i64 ((rd_T28 ((rd_T24 l1 (ji7)).f0) (ji14)).f2), .int .i64 ((rd_T28 ((rd_T24 l1 (ji7)).f0) (ji14)).f3), .int .i64 ((rd_T28 ((rd_T24 l1 (ji7)).f0) (ji14)).f4), .bool ((rd_T28 ((rd_T24 l1 (ji7)).f0) (ji14)).f5), .int .i64 ((rd_T28 ((rd_T24 l1 (ji7)).f0) (ji14)).f6), .bool ((rd_T28 ((rd_T24 l1 (ji7)).f0) (ji14)).f7), .bool ((rd_T28 ((rd_T24 l1 (ji7)).f0) (ji14)).f8)] 28 (0, 0)) z134_ hb); replace HB := Aside0.mk (below_step z57_ hb); (try clear hb); (try clear hb2); (try clear hk); (try clear hi))))
        go_ret2
        exact ⟨by first | rfl | (simp [errW_none, errW_some] <;> rfl) | (simp only [← hji6, ← hji7, ← hji13, ← hji14]; first | rfl | (simp [errW_none, errW_some] <;> rfl)) | (simp [*, errW_none, errW_some] <;> rfl), z57_⟩
      rw [if_pos c26] at H
      have c26b0 : decide ((wrap64 (x14_1 + 1)) < (t331.length : Int)) = true := decide_eq_true c26
      clear c26
      obtain ⟨ji27, hji27⟩ : ∃ j_ : Int, (wrap64 (x14_1 + 1)) = j_ := ⟨_, rfl⟩
      replace H : (if 0 ≤ (ji27) then (if ((rd_T43 t331 (ji27)).f1) > a2_2 then (if 0 ≤ x14_1 then (if x14_1 < (t331.length : Int) then (some (wrap64 (t326 + ((rd_T43 t331 x14_1).f0)), 0)) else (none)) else (none)) else (locate_Hit.l0 k1 t326 t331 ji27 a2_0 a2_1 a2_2 ((rd_T28 ((rd_T24 l1 (ji7)).f0) (ji14)).f0) ((rd_T28 ((rd_T24 l1 (ji7)).f0) (ji14)).f1) ((rd_T28 ((rd_T24 l1 (ji7)).f0) (ji14)).f2) ((rd_T28 ((rd_T24 l1 (ji7)).f0) (ji14)).f3) ((rd_T28 ((rd_T24 l1 (ji7)).f0) (ji14)).f4) ((rd_T28 ((rd_T24 l1 (ji7)).f0) (ji14)).f5) ((rd_T28 ((rd_T24 l1 (ji7)).f0) (ji14)).f6) ((rd_T28 ((rd_T24 l1 (ji7)).f0) (ji14)).f7) ((rd_T28 ((rd_T24 l1 (ji7)).f0) (ji14)).f8))) else (none)) = some (r1, r2) := by first | (rw [hji27] at H; exact H) | (simp only [hji27] at H ⊢; exact H)
      (try rw [hji27] at c26b0)
      have hji27w : (IntKind.i64.wrap (x14_1 + 1)) = ji27 := (i64_w _).trans hji27
      by_cases c28 : 0 ≤ (ji27)
      rotate_left
      · rw [if_neg c28] at H
        exact absurd H (by simp)
      rw [if_pos c28] at H
      have c28b0 : decide (0 ≤ (ji27)) = true := decide_eq_true c28
      clear c28
      by_cases c29 : ((rd_T43 t331 (ji27)).f1) > a2_2
      rotate_left
      · rw [if_neg c29] at H
        have c29b0 : decide (a2_2 < ((rd_T43 t331 (ji27)).f1)) = false := decide_eq_false c29
        clear c29
        have H' := Aside0.mk H
        clear H
        obtain ⟨Ao35, co35, eo35⟩ := Kd.R_slice HO_13.out
        subst eo35
        have p334 : 0 ≤ ((ji27) : Int) := of_decide_eq_true z178_
        have q334 : (ji27) < (t331.length : Int) := of_decide_eq_true z178_
        obtain ⟨ad334, e334, hx334_0, hx334_1⟩ := at_T43 (Kd.R_reads' HO_13.out).2.2 (ji27) p334 q334
        cases e334
        replace p334 := eq_true p334
        replace q334 := eq_true q334
        have hnb36 := NB323_330.out
        have hnc36 := NB330_323.out
        have hcz37_0 : wr.cell? ⟨gb323, 0, none⟩ = some (.int .i64 a2_0) := (blk_cell BK323.out 0).trans rfl
        have hcz37_1 : wr.cell? ⟨gb323, 1, none⟩ = some (.int .i64 a2_1) := (blk_cell BK323.out 1).trans rfl
        have hcz37_2 : wr.cell? ⟨gb323, 2, none⟩ = some (.int .i64 a2_2) := (blk_cell BK323.out 2).trans rfl
        have hfz37_0 := blk_frozen BK323.out 0
        have hfz37_1 := blk_frozen BK323.out 1
        have hfz37_2 := blk_frozen BK323.out 2
        go_wp2
        repeat (go_quiet (fail); try go_wp2)
        go_roundg k1
        case measure => have := HK1.out; omega
        case rel => exact ⟨(ji27), (by first | rfl | (simp; done) | (simp only [← hji27] <;> (first | rfl | simp)) | (simp [*]; done)), H', ⟨z191_⟩, ⟨z142_⟩, ⟨z133_⟩, ⟨z134_⟩, ⟨z57_⟩⟩
      rw [if_pos c29] at H
      have c29b0 : decide (a2_2 < ((rd_T43 t331 (ji27)).f1)) = true := decide_eq_true c29
      clear c29
      by_cases c30 : 0 ≤ x14_1
      rotate_left
      · rw [if_neg c30] at H
        exact absurd H (by simp)
      rw [if_pos c30] at H
      have c30b0 : decide (0 ≤ x14_1) = true := decide_eq_true c30
      clear c30
      by_cases c31 : x14_1 < (t331.length : Int)
      rotate_left
      · rw [if_neg c31] at H
        exact absurd H (by simp)
      rw [if_pos c31] at H
      have c31b0 : decide (x14_1 < (t331.length : Int)) = true := decide_eq_true c31
      clear c31
      simp only [Option.some.injEq, Prod.mk.injEq] at H
      obtain ⟨rfl, rfl⟩ := H
      obtain ⟨Ao32, co32, eo32⟩ := Kd.R_slice HO_13.out
      subst eo32
      have p334 : 0 ≤ ((ji27) : Int) := of_decide_eq_true z178_
      have q334 : (ji27) < (t331.length : Int) := of_decide_eq_true z178_
      obtain ⟨ad334, e334, hx334_0, hx334_1⟩ := at_T43 (Kd.R_reads' HO_13.out).2.2 (ji27) p334 q334
      cases e334
      replace p334 := eq_true p334
      replace q334 := eq_true q334
      have hnb33 := NB323_330.out
      have hnc33 := NB330_323.out
      have hcz34_0 : wr.cell? ⟨gb323, 0, none⟩ = some (.int .i64 a2_0) := (blk_cell BK323.out 0).trans rfl
      have hcz34_1 : wr.cell? ⟨gb323, 1, none⟩ = some (.int .i64 a2_1) := (blk_cell BK323.out 1).trans rfl
      have hcz34_2 : wr.cell? ⟨gb323, 2, none⟩ = some (.int .i64 a2_2) := (blk_cell BK323.out 2).trans rfl
      have hfz34_0 := blk_frozen BK323.out 0
      have hfz34_1 := blk_frozen BK323.out 1
      have hfz34_2 := blk_frozen BK323.out 2
      have p335 : 0 ≤ (x14_1 : Int) := of_decide_eq_true z178_
      have q335 : x14_1 < (t331.length : Int) := of_decide_eq_true z178_
      obtain ⟨ad335, e335, hx335_0, hx335_1⟩ := at_T43 (Kd.R_reads' HO_13.out).2.2 x14_1 p335 q335
      obtain rfl : ad334 = ad335 := (by injection e335)
      replace p335 := eq_true p335
      replace q335 := eq_true q335
      go_wp2
      repeat (go_quiet (fail); try go_wp2)
      go_ret2
      exact ⟨by first | rfl | (simp [errW_none, errW_some] <;> rfl) | (simp only [← hji6, ← hji7, ← hji13, ← hji14, ← hji27]; first | rfl | (simp [errW_none, errW_some] <;> rfl)) | (simp [*, errW_none, errW_some] <;> rfl), z57_⟩
end Go.Proofs.Ytiabffkfabmlpaa.PLocateBack
