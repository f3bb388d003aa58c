-- WRITTEN BY wip/xprint.py of this repo, over the kit's print; functions the print does not take are by hand
import Derived.Test.YtiabffkfabmlpaaPLocateBackx0
import Derived.Test.YtiabffkfabmlpaaPLocateBackx11
namespace Go.Proofs.Ytiabffkfabmlpaa.PLocateBack
open Go.RowKit Go.Proofs.YtiabffkfabmlpaaW.PrintWords Go.Proofs.YtiabffkfabmlpaaW.PrintLast Go.Proofs.YtiabffkfabmlpaaW.PrintMore
attribute [local go_sem] max2_int min2_int max_two min_two max_three min_three max_four min_four   -- for this text's walks alone
set_option linter.unusedVariables false
set_option linter.unusedSimpArgs false
/-! ### regletref02_begins: function 66 -/
mutual
def regletref02_begins.j0 : Nat → ByteArray → Int → List Int → Bool → Option (Bool)
  | 0, _, _, _, _ => none
  | k + 1, x0, x1, x2, x19 => if x19 = true then (some false) else (regletref02_begins.l0 k x0 x1 x2 0)
def regletref02_begins.l0 : Nat → ByteArray → Int → List Int → Int → Option (Bool)
  | 0, _, _, _, _ => none
  | k + 1, x0, x1, x2, x7 => if x7 < (x2.length : Int) then (if 0 ≤ (wrap64 (x1 + x7)) then (if (wrap64 (x1 + x7)) < (x0.size : Int) then (if 0 ≤ x7 then (if (wrap64 (bt x0 (wrap64 (x1 + x7)))) = (rd x2 x7) then (regletref02_begins.l0 k x0 x1 x2 (wrap64 (x7 + 1))) else (some false)) else (none)) else (none)) else (none)) else (some true)
end
def regletref02_begins.f (k : Nat) (a0 : ByteArray) (a1 : Int) (l2 : List Int) : Option (Bool) := if (l2.length : Int) = 0 then (regletref02_begins.j0 k a0 a1 l2 true) else (regletref02_begins.j0 k a0 a1 l2 (decide ((wrap64 (a1 + (l2.length : Int))) > (a0.size : Int))))
theorem regletref02_begins.mono_l : ∀ k, (∀ y0 y1 y2 y3, LeO (regletref02_begins.j0 k y0 y1 y2 y3) (regletref02_begins.j0 (k + 1) y0 y1 y2 y3)) ∧ (∀ y0 y1 y2 y3, LeO (regletref02_begins.l0 k y0 y1 y2 y3) (regletref02_begins.l0 (k + 1) y0 y1 y2 y3))
  | 0 => ⟨fun _ _ _ _ r h => by simp [regletref02_begins.j0] at h, fun _ _ _ _ r h => by simp [regletref02_begins.l0] at h⟩
  | k + 1 => by
    obtain ⟨ih0, ih1⟩ := regletref02_begins.mono_l k
    refine ⟨?_, ?_⟩
    · intro y0 y1 y2 y3
      unfold regletref02_begins.j0
      repeat' first | (with_reducible first | exact ih0 _ _ _ _ | exact ih1 _ _ _ _ | exact LeO.refl _ | exact LeO.none _ | refine LeO.ite ?_ ?_ | refine LeO.bind ?_ (fun _ => ?_)) | exact ih0 _ _ _ _ | exact ih1 _ _ _ _ | exact LeO.none _ | refine LeO.ite ?_ ?_ | refine LeO.bind ?_ (fun _ => ?_)
    · intro y0 y1 y2 y3
      unfold regletref02_begins.l0
      repeat' first | (with_reducible first | exact ih0 _ _ _ _ | exact ih1 _ _ _ _ | exact LeO.refl _ | exact LeO.none _ | refine LeO.ite ?_ ?_ | refine LeO.bind ?_ (fun _ => ?_)) | exact ih0 _ _ _ _ | exact ih1 _ _ _ _ | exact LeO.none _ | refine LeO.ite ?_ ?_ | refine LeO.bind ?_ (fun _ => ?_)
theorem regletref02_begins.mono : ∀ a0 a1 a2 k, LeO (regletref02_begins.f k a0 a1 a2) (regletref02_begins.f (k + 1) a0 a1 a2) := by
  intro a0 a1 a2 k
  obtain ⟨ih0, ih1⟩ := regletref02_begins.mono_l k
  unfold regletref02_begins.f
  repeat' first | (with_reducible first | exact ih0 _ _ _ _ | exact ih1 _ _ _ _ | exact LeO.refl _ | exact LeO.none _ | refine LeO.ite ?_ ?_ | refine LeO.bind ?_ (fun _ => ?_)) | exact ih0 _ _ _ _ | exact ih1 _ _ _ _ | exact LeO.none _ | refine LeO.ite ?_ ?_ | refine LeO.bind ?_ (fun _ => ?_)
set_option maxHeartbeats 8000000 in
set_option maxRecDepth 100000 in
theorem regletref02_begins.calls (k : Nat) (a0 : ByteArray) (a1 : Int) (A2 : Option Addr) (c2 : Nat) (l2 : List Int) (r : Bool) (w : World) (hr2 : Kd.C (Kd.int .i64) w A2 l2.length l2) (hc2 : l2.length ≤ c2) (h : regletref02_begins.f k a0 a1 l2 = some r) :
    Calls Try.prog 66 #[.string a0, .int .i64 a1, .slice A2 l2.length c2] w fun e w' => e = .returned (.bool r) ∧ Drawn0 w w' := by
  have HR2 := Aside0.mk hr2
  have HC2 := Aside0.mk hc2
  clear hr2 hc2
  have H : (if (l2.length : Int) = 0 then (regletref02_begins.j0 k a0 a1 l2 true) else (regletref02_begins.j0 k a0 a1 l2 (decide ((wrap64 (a1 + (l2.length : Int))) > (a0.size : Int))))) = some r := h
  clear h
  have HC4 := Aside0.mk H
  clear H
  go_enter Try.func66, Try.ntmps66
  go_upto_region 1 with (fail)
  repeat (go_quiet (fail); go_upto_region 1 with (fail))
  go_cut [19] (fun v19 wc => ∃ (kq : Nat) (x19_3 : Bool), v19 = .bool x19_3 ∧ Aside0 (regletref02_begins.j0 kq a0 a1 l2 x19_3 = some r) ∧ Aside0 (kq ≤ k) ∧ Drawn0 w wc)
  case first =>
    have H := HC4.out
    clear HC4
    by_cases c5 : (l2.length : Int) = 0
    rotate_left
    · rw [if_neg c5] at H
      have c5b0 : ((l2.length : Int) == 0) = false := beq_eq_false_iff_ne.mpr c5
      have c5b1 : ((l2.length : Int) != 0) = true := bne_iff_ne.mpr c5
      have c5b2 : ¬ (l2 = []) := fun h_ => c5 (by rw [h_]; rfl)
      (first | rw [c5b0] | (simp only [i64_w, i32_w]; rw [c5b0]) | skip)
      have H' := Aside0.mk H
      clear H
      go_wp2
      repeat (go_quiet (fail); try go_wp2)
      go_meet
      case rel => exact ⟨_, (decide ((wrap64 (a1 + (l2.length : Int))) > (a0.size : Int))), z180_, H', ⟨z183_⟩, z173_⟩
    rw [if_pos c5] at H
    have c5b0 : ((l2.length : Int) == 0) = true := beq_iff_eq.mpr c5
    have c5b1 : ((l2.length : Int) != 0) = false := bne_eq_false_iff_eq.mpr c5
    clear c5
    (first | rw [c5b0] | (simp only [i64_w, i32_w]; rw [c5b0]) | skip)
    have H' := Aside0.mk H
    clear H
    go_wp2
    repeat (go_quiet (fail); try go_wp2)
    go_meet
    case rel => exact ⟨_, (true), z180_, H', ⟨z183_⟩, z173_⟩
  case rest =>
    clear HC4; (try clear c2); (try clear p2); (try clear c5); (try clear c5b0); (try clear c5b1); (try clear c5b2)
    obtain ⟨kq, x19_3, rfl, HA, HJ3, ⟨mc3, rfl⟩⟩ := hcut
    cases kq with
    | zero => exact absurd HA.out (by simp [regletref02_begins.j0])
    | succ kj3 =>
      have H := HA.out
      clear HA
      simp only [regletref02_begins.j0] at H
      by_cases c6 : x19_3 = true
      · subst c6
        have H1 : (some false) = some r := by rw [if_pos rfl] at H; exact H
        clear H
        have H := H1
        clear H1
        obtain rfl := Option.some.inj H
        go_wp2
        repeat (go_quiet (fail); try go_wp2)
        go_ret
        exact ⟨z166_, z173_⟩
      replace c6 := Bool.eq_false_iff.mpr c6
      subst c6
      have H1 : (regletref02_begins.l0 kj3 a0 a1 l2 0) = some r := by rw [if_neg (show ¬ (false = true) by decide)] at H; exact H
      clear H
      have H := H1
      clear H1
      have H' := Aside0.mk H
      clear H
      go_wp2
      repeat (go_quiet (fail); try go_wp2)
      go_loopg [7] kj3 (fun kq v7 w' => ∃ (x7_2 : Int), v7 = .int .i64 x7_2 ∧ Aside0 (regletref02_begins.l0 kq a0 a1 l2 x7_2 = some r) ∧ Aside0 (kq ≤ kj3) ∧ Drawn0 w w')
      case atStart => exact ⟨(0), z180_, H', ⟨Nat.le_refl _⟩, z173_⟩
      case round =>
        clear H'; (try clear c2); (try clear p2); (try clear c3); (try clear c5); (try clear c5b0); (try clear c5b1); (try clear c5b2); (try clear c6); (try clear p6); (try clear p2)
        obtain ⟨x7_2, rfl, HA, HK2, ⟨m2, rfl⟩⟩ := hrel
        cases gk with
        | zero => exact absurd HA.out (by simp [regletref02_begins.l0])
        | succ k2 =>
          have H := HA.out
          clear HA
          simp only [regletref02_begins.l0] at H
          by_cases c7 : x7_2 < (l2.length : Int)
          rotate_left
          · rw [if_neg c7] at H
            have c7b0 : decide (x7_2 < (l2.length : Int)) = false := decide_eq_false c7
            clear c7
            obtain rfl := Option.some.inj H
            go_wp2
            repeat (go_quiet (fail); try go_wp2)
            go_ret
            exact ⟨z166_, z173_⟩
          rw [if_pos c7] at H
          have c7b0 : decide (x7_2 < (l2.length : Int)) = true := decide_eq_true c7
          clear c7
          obtain ⟨ji8, hji8⟩ : ∃ j_ : Int, (wrap64 (a1 + x7_2)) = j_ := ⟨_, rfl⟩
          replace H : (if 0 ≤ (ji8) then (if (ji8) < (a0.size : Int) then (if 0 ≤ x7_2 then (if (wrap64 (bt a0 (ji8))) = (rd l2 x7_2) then (regletref02_begins.l0 k2 a0 a1 l2 (wrap64 (x7_2 + 1))) else (some false)) else (none)) else (none)) else (none)) = some r := by first | (rw [hji8] at H; exact H) | (simp only [hji8] at H ⊢; exact H)
          have hji8w : (IntKind.i64.wrap (a1 + x7_2)) = ji8 := (i64_w _).trans hji8
          by_cases c9 : 0 ≤ (ji8)
          rotate_left
          · rw [if_neg c9] at H
            exact absurd H (by simp)
          rw [if_pos c9] at H
          have c9b0 : decide (0 ≤ (ji8)) = true := decide_eq_true c9
          clear c9
          by_cases c10 : (ji8) < (a0.size : Int)
          rotate_left
          · rw [if_neg c10] at H
            exact absurd H (by simp)
          rw [if_pos c10] at H
          have c10b0 : decide ((ji8) < (a0.size : Int)) = true := decide_eq_true c10
          clear c10
          by_cases c12 : 0 ≤ x7_2
          rotate_left
          · rw [if_neg c12] at H
            exact absurd H (by simp)
          rw [if_pos c12] at H
          have c12b0 : decide (0 ≤ x7_2) = true := decide_eq_true c12
          clear c12
          by_cases c13 : (wrap64 (bt a0 (ji8))) = (rd l2 x7_2)
          rotate_left
          · rw [if_neg c13] at H
            have c13b0 : ((wrap64 (bt a0 (ji8))) == (rd l2 x7_2)) = false := beq_eq_false_iff_ne.mpr c13
            have c13b1 : ((wrap64 (bt a0 (ji8))) != (rd l2 x7_2)) = true := bne_iff_ne.mpr c13
            obtain rfl := Option.some.inj H
            have p11 : 0 ≤ ((ji8) : Int) := of_decide_eq_true z178_
            have q11 : (ji8) < (a0.size : Int) := of_decide_eq_true z178_
            have hx11 := bt_at a0 (ji8)
            replace p11 := eq_true p11
            replace q11 := eq_true q11
            have p261 : 0 ≤ (x7_2 : Int) := of_decide_eq_true z178_
            have q261 : x7_2 < (l2.length : Int) := of_decide_eq_true z178_
            obtain ⟨ad261, e261, hx261_0⟩ := Kd.at_int HR2.out x7_2 p261 q261
            cases e261
            replace p261 := eq_true p261
            replace q261 := eq_true q261
            go_wp2
            repeat (go_quiet (fail); try go_wp2)
            go_ret
            exact ⟨by first | rfl | (simp; done) | (simp only [← hji8] <;> (first | rfl | simp)) | (simp [*]; done) | (simp [*]; decide +kernel), z173_⟩
          rw [if_pos c13] at H
          have c13b0 : ((wrap64 (bt a0 (ji8))) == (rd l2 x7_2)) = true := beq_iff_eq.mpr c13
          have c13b1 : ((wrap64 (bt a0 (ji8))) != (rd l2 x7_2)) = false := bne_eq_false_iff_eq.mpr c13
          clear c13
          have H' := Aside0.mk H
          clear H
          have p11 : 0 ≤ ((ji8) : Int) := of_decide_eq_true z178_
          have q11 : (ji8) < (a0.size : Int) := of_decide_eq_true z178_
          have hx11 := bt_at a0 (ji8)
          replace p11 := eq_true p11
          replace q11 := eq_true q11
          have p261 : 0 ≤ (x7_2 : Int) := of_decide_eq_true z178_
          have q261 : x7_2 < (l2.length : Int) := of_decide_eq_true z178_
          obtain ⟨ad261, e261, hx261_0⟩ := Kd.at_int HR2.out x7_2 p261 q261
          cases e261
          replace p261 := eq_true p261
          replace q261 := eq_true q261
          go_wp2
          repeat (go_quiet (fail); try go_wp2)
          go_roundg k2
          case measure => have := HJ3.out; have := HK2.out; omega
          case rel => exact ⟨(wrap64 (x7_2 + 1)), z180_, H', ⟨by have := HJ3.out; have := HK2.out; omega⟩, z173_⟩
/-! ### regletref02_Read: function 55 -/
mutual
def regletref02_Read.l0 : Nat → ByteArray → Int → Int → Option (Int × Int)
  | 0, _, _, _ => none
  | k + 1, x0, x1, x6 => if x6 ≤ 4 then (regletref02_Read.j1 k x0 x1 x6 (decide ((wrap64 (x1 + x6)) ≤ (x0.size : Int)))) else (regletref02_Read.j1 k x0 x1 x6 false)
def regletref02_Read.j1 : Nat → ByteArray → Int → Int → Bool → Option (Int × Int)
  | 0, _, _, _, _ => none
  | k + 1, x0, x1, x6, x18 => if x18 = true then ((regletref02_value.f k x0 x1 x6).bind fun t262 => ((regletref02_Bytes.f t262).bind fun t263 => (if (t263.length : Int) = x6 then ((regletref02_begins.f k x0 x1 t263).bind fun t266 => (if t266 = true then (some (t262, x6)) else (regletref02_Read.l0 k x0 x1 (wrap64 (x6 + 1))))) else (regletref02_Read.l0 k x0 x1 (wrap64 (x6 + 1)))))) else (some ((-1), 0))
end
def regletref02_Read.f (k : Nat) (a0 : ByteArray) (a1 : Int) : Option (Int × Int) := regletref02_Read.l0 k a0 a1 1
theorem regletref02_Read.mono_l : ∀ k, (∀ y0 y1 y2, LeO (regletref02_Read.l0 k y0 y1 y2) (regletref02_Read.l0 (k + 1) y0 y1 y2)) ∧ (∀ y0 y1 y2 y3, LeO (regletref02_Read.j1 k y0 y1 y2 y3) (regletref02_Read.j1 (k + 1) y0 y1 y2 y3))
  | 0 => ⟨fun _ _ _ r h => by simp [regletref02_Read.l0] at h, fun _ _ _ _ r h => by simp [regletref02_Read.j1] at h⟩
  | k + 1 => by
    obtain ⟨ih0, ih1⟩ := regletref02_Read.mono_l k
    refine ⟨?_, ?_⟩
    · intro y0 y1 y2
      unfold regletref02_Read.l0
      repeat' first | (with_reducible first | exact ih0 _ _ _ | exact ih1 _ _ _ _ | exact regletref02_begins.mono _ _ _ _ | exact regletref02_value.mono _ _ _ _ | exact LeO.refl _ | exact LeO.none _ | refine LeO.ite ?_ ?_ | refine LeO.bind ?_ (fun _ => ?_)) | exact ih0 _ _ _ | exact ih1 _ _ _ _ | exact regletref02_begins.mono _ _ _ _ | exact regletref02_value.mono _ _ _ _ | exact LeO.none _ | refine LeO.ite ?_ ?_ | refine LeO.bind ?_ (fun _ => ?_)
    · intro y0 y1 y2 y3
      unfold regletref02_Read.j1
      repeat' first | (with_reducible first | exact ih0 _ _ _ | exact ih1 _ _ _ _ | exact regletref02_begins.mono _ _ _ _ | exact regletref02_value.mono _ _ _ _ | exact LeO.refl _ | exact LeO.none _ | refine LeO.ite ?_ ?_ | refine LeO.bind ?_ (fun _ => ?_)) | exact ih0 _ _ _ | exact ih1 _ _ _ _ | exact regletref02_begins.mono _ _ _ _ | exact regletref02_value.mono _ _ _ _ | exact LeO.none _ | refine LeO.ite ?_ ?_ | refine LeO.bind ?_ (fun _ => ?_)
theorem regletref02_Read.mono : ∀ a0 a1 k, LeO (regletref02_Read.f k a0 a1) (regletref02_Read.f (k + 1) a0 a1) := by
  intro a0 a1 k
  obtain ⟨ih0, ih1⟩ := regletref02_Read.mono_l k
  unfold regletref02_Read.f
  repeat' first | (with_reducible first | exact ih0 _ _ _ | exact ih1 _ _ _ _ | exact regletref02_begins.mono _ _ _ _ | exact regletref02_value.mono _ _ _ _ | exact LeO.refl _ | exact LeO.none _ | refine LeO.ite ?_ ?_ | refine LeO.bind ?_ (fun _ => ?_)) | exact ih0 _ _ _ | exact ih1 _ _ _ _ | exact regletref02_begins.mono _ _ _ _ | exact regletref02_value.mono _ _ _ _ | exact LeO.none _ | refine LeO.ite ?_ ?_ | refine LeO.bind ?_ (fun _ => ?_)
set_option maxHeartbeats 8000000 in
set_option maxRecDepth 100000 in
theorem regletref02_Read.calls (k : Nat) (a0 : ByteArray) (a1 : Int) (r1 : Int) (r2 : Int) (w : World) (h : regletref02_Read.f k a0 a1 = some (r1, r2)) :
    Calls Try.prog 55 #[.string a0, .int .i64 a1] w fun e w' => e = .returned (.tuple #[.int .i64 r1, .int .i64 r2]) ∧ Below w.heap.size w w' := by
  have HB := Aside0.mk (Below.refl w.heap.size w)
  have H : (regletref02_Read.l0 k a0 a1 1) = some (r1, r2) := h
  clear h
  have H' := Aside0.mk H
  clear H
  go_enter Try.func55, Try.ntmps55
  go_wp2
  go_loopg [6] k (fun kq v6 w' => ∃ (x6_1 : Int), v6 = .int .i64 x6_1 ∧ Aside0 (regletref02_Read.l0 kq a0 a1 x6_1 = some (r1, r2)) ∧ Aside0 (kq ≤ k) ∧ Aside0 (Below w.heap.size w w'))
  case atStart => exact ⟨(1), z180_, H', ⟨Nat.le_refl _⟩, ⟨z103_⟩⟩
  case round =>
    clear H'; (try clear p2)
    obtain ⟨x6_1, rfl, HA, HK1, HB⟩ := hrel
    cases gk with
    | zero => exact absurd HA.out (by simp [regletref02_Read.l0])
    | succ k1 =>
      have H := HA.out
      clear HA
      simp only [regletref02_Read.l0] at H
      have HC3 := Aside0.mk H
      clear H
      go_upto_region 2 with (fail)
      go_cut [18] (fun v18 wc => ∃ (kq : Nat) (x18_2 : Bool), v18 = .bool x18_2 ∧ Aside0 (regletref02_Read.j1 kq a0 a1 x6_1 x18_2 = some (r1, r2)) ∧ Aside0 (kq ≤ k1) ∧ Aside0 (Below w.heap.size w wc))
      case first =>
        have H := HC3.out
        clear HC3
        by_cases c4 : x6_1 ≤ 4
        rotate_left
        · rw [if_neg c4] at H
          have c4b0 : decide (x6_1 ≤ 4) = false := decide_eq_false c4
          clear c4
          (first | rw [c4b0] | (simp only [i64_w, i32_w]; rw [c4b0]) | skip)
          have H' := Aside0.mk H
          clear H
          go_wp2
          go_meet
          case rel => exact ⟨_, (false), z180_, H', ⟨z174_⟩, ⟨z103_⟩⟩
        rw [if_pos c4] at H
        have c4b0 : decide (x6_1 ≤ 4) = true := decide_eq_true c4
        clear c4
        (first | rw [c4b0] | (simp only [i64_w, i32_w]; rw [c4b0]) | skip)
        have H' := Aside0.mk H
        clear H
        go_wp2
        go_meet
        case rel => exact ⟨_, (decide ((wrap64 (a1 + x6_1)) ≤ (a0.size : Int))), z180_, H', ⟨z174_⟩, ⟨z103_⟩⟩
      case rest =>
        clear HC3; (try clear p2); (try clear c4); (try clear c4b0); (try clear p2)
        obtain ⟨kq, x18_2, rfl, HA, HJ2, HB⟩ := hcut
        cases kq with
        | zero => exact absurd HA.out (by simp [regletref02_Read.j1])
        | succ kj2 =>
          have H := HA.out
          clear HA
          simp only [regletref02_Read.j1] at H
          by_cases c5 : x18_2 = true
          rotate_left
          · replace c5 := Bool.eq_false_iff.mpr c5
            subst c5
            have H1 : (some ((-1), 0)) = some (r1, r2) := by rw [if_neg (show ¬ (false = true) by decide)] at H; exact H
            clear H
            have H := H1
            clear H1
            simp only [Option.some.injEq, Prod.mk.injEq] at H
            obtain ⟨rfl, rfl⟩ := H
            go_wp2
            go_ret2
            exact ⟨z155_, z103_⟩
          subst c5
          have H1 : ((regletref02_value.f kj2 a0 a1 x6_1).bind fun t262 => ((regletref02_Bytes.f t262).bind fun t263 => (if (t263.length : Int) = x6_1 then ((regletref02_begins.f kj2 a0 a1 t263).bind fun t266 => (if t266 = true then (some (t262, x6_1)) else (regletref02_Read.l0 kj2 a0 a1 (wrap64 (x6_1 + 1))))) else (regletref02_Read.l0 kj2 a0 a1 (wrap64 (x6_1 + 1)))))) = some (r1, r2) := by rw [if_pos rfl] at H; exact H
          clear H
          have H := H1
          clear H1
          replace H := Option.bind_eq_some_iff.mp H
          obtain ⟨t262, A60, H⟩ := H
          replace H : ((regletref02_Bytes.f t262).bind fun t263 => (if (t263.length : Int) = x6_1 then ((regletref02_begins.f kj2 a0 a1 t263).bind fun t266 => (if t266 = true then (some (t262, x6_1)) else (regletref02_Read.l0 kj2 a0 a1 (wrap64 (x6_1 + 1))))) else (regletref02_Read.l0 kj2 a0 a1 (wrap64 (x6_1 + 1))))) = some (r1, r2) := H
          have A6 := Aside0.mk A60
          clear A60
          replace H := Option.bind_eq_some_iff.mp H
          obtain ⟨t263, A70, H⟩ := H
          replace H : (if (t263.length : Int) = x6_1 then ((regletref02_begins.f kj2 a0 a1 t263).bind fun t266 => (if t266 = true then (some (t262, x6_1)) else (regletref02_Read.l0 kj2 a0 a1 (wrap64 (x6_1 + 1))))) else (regletref02_Read.l0 kj2 a0 a1 (wrap64 (x6_1 + 1)))) = some (r1, r2) := H
          have A7 := Aside0.mk A70
          clear A70
          by_cases c8 : (t263.length : Int) = x6_1
          rotate_left
          · rw [if_neg c8] at H
            have c8b0 : ((t263.length : Int) == x6_1) = false := beq_eq_false_iff_ne.mpr c8
            have c8b1 : ((t263.length : Int) != x6_1) = true := bne_iff_ne.mpr c8
            have H' := Aside0.mk H
            clear H
            go_wp2_with (first | ((with_reducible refine gate_callee (f := 64) rfl ?_); refine goesL_ (some 24) rfl rfl Try.func64 (by kernel_rfl) rfl #[.string a0, .int .i64 a1, .int .i64 x6_1] rfl z99_ ?_; (with_reducible refine (regletref02_value.calls kj2 a0 a1 x6_1 t262 _ A6.out).mono ?_); rintro e w' ⟨rfl, ⟨nd, rfl⟩⟩; refine ⟨_, rfl, ?_⟩) | ((with_reducible refine gate_callee (f := 65) rfl ?_); refine goesL_ (some 26) rfl rfl Try.func65 (by kernel_rfl) rfl #[.int .i64 t262] rfl z99_ ?_; (with_reducible refine (regletref02_Bytes.calls t262 t263 _ A7.out).mono ?_); rintro e w15 ⟨v264, rfl, ho0, hb⟩; refine ⟨_, rfl, ?_⟩; have HO265 := Aside0.mk (Kd.R_lower ho0 (below_size z103_)); replace HB := Aside0.mk (below_step z103_ hb); (try clear hb); (try clear hb2); (try clear hk); (try clear hi); (try clear ho0); obtain ⟨Ao16, co16, eo16⟩ := Kd.R_slice HO265.out; subst eo16))
            go_roundg kj2
            case measure => have := HK1.out; have := HJ2.out; omega
            case rel => exact ⟨(wrap64 (x6_1 + 1)), z180_, H', ⟨by have := HK1.out; have := HJ2.out; omega⟩, ⟨z103_⟩⟩
          rw [if_pos c8] at H
          have c8b0 : ((t263.length : Int) == x6_1) = true := beq_iff_eq.mpr c8
          have c8b1 : ((t263.length : Int) != x6_1) = false := bne_eq_false_iff_eq.mpr c8
          clear c8
          replace H := Option.bind_eq_some_iff.mp H
          obtain ⟨t266, A90, H⟩ := H
          replace H : (if t266 = true then (some (t262, x6_1)) else (regletref02_Read.l0 kj2 a0 a1 (wrap64 (x6_1 + 1)))) = some (r1, r2) := H
          have A9 := Aside0.mk A90
          clear A90
          by_cases c10 : t266 = true
          · subst c10
            have H1 : (some (t262, x6_1)) = some (r1, r2) := by rw [if_pos rfl] at H; exact H
            clear H
            have H := H1
            clear H1
            simp only [Option.some.injEq, Prod.mk.injEq] at H
            obtain ⟨rfl, rfl⟩ := H
            go_wp2_with (first | ((with_reducible refine gate_callee (f := 64) rfl ?_); refine goesL_ (some 24) rfl rfl Try.func64 (by kernel_rfl) rfl #[.string a0, .int .i64 a1, .int .i64 x6_1] rfl z99_ ?_; (with_reducible refine (regletref02_value.calls kj2 a0 a1 x6_1 t262 _ A6.out).mono ?_); rintro e w' ⟨rfl, ⟨nd, rfl⟩⟩; refine ⟨_, rfl, ?_⟩) | ((with_reducible refine gate_callee (f := 65) rfl ?_); refine goesL_ (some 26) rfl rfl Try.func65 (by kernel_rfl) rfl #[.int .i64 t262] rfl z99_ ?_; (with_reducible refine (regletref02_Bytes.calls t262 t263 _ A7.out).mono ?_); rintro e w11 ⟨v264, rfl, ho0, hb⟩; refine ⟨_, rfl, ?_⟩; have HO265 := Aside0.mk (Kd.R_lower ho0 (below_size z103_)); replace HB := Aside0.mk (below_step z103_ hb); (try clear hb); (try clear hb2); (try clear hk); (try clear hi); (try clear ho0); obtain ⟨Ao12, co12, eo12⟩ := Kd.R_slice HO265.out; subst eo12) | (go_at_call 66; (with_reducible refine (regletref02_begins.calls kj2 a0 a1 _ _ t263 true _ ?side1 ?side2 A9.out).mono ?_); (case side1 => exact z70_); (case side2 => exact (Kd.R_reads' HO265.out).2.1); rintro e w' ⟨rfl, ⟨nd, rfl⟩⟩))
            go_ret2
            exact ⟨z155_, z103_⟩
          replace c10 := Bool.eq_false_iff.mpr c10
          subst c10
          have H1 : (regletref02_Read.l0 kj2 a0 a1 (wrap64 (x6_1 + 1))) = some (r1, r2) := by rw [if_neg (show ¬ (false = true) by decide)] at H; exact H
          clear H
          have H := H1
          clear H1
          have H' := Aside0.mk H
          clear H
          go_wp2_with (first | ((with_reducible refine gate_callee (f := 64) rfl ?_); refine goesL_ (some 24) rfl rfl Try.func64 (by kernel_rfl) rfl #[.string a0, .int .i64 a1, .int .i64 x6_1] rfl z99_ ?_; (with_reducible refine (regletref02_value.calls kj2 a0 a1 x6_1 t262 _ A6.out).mono ?_); rintro e w' ⟨rfl, ⟨nd, rfl⟩⟩; refine ⟨_, rfl, ?_⟩) | ((with_reducible refine gate_callee (f := 65) rfl ?_); refine goesL_ (some 26) rfl rfl Try.func65 (by kernel_rfl) rfl #[.int .i64 t262] rfl z99_ ?_; (with_reducible refine (regletref02_Bytes.calls t262 t263 _ A7.out).mono ?_); rintro e w13 ⟨v264, rfl, ho0, hb⟩; refine ⟨_, rfl, ?_⟩; have HO265 := Aside0.mk (Kd.R_lower ho0 (below_size z103_)); replace HB := Aside0.mk (below_step z103_ hb); (try clear hb); (try clear hb2); (try clear hk); (try clear hi); (try clear ho0); obtain ⟨Ao14, co14, eo14⟩ := Kd.R_slice HO265.out; subst eo14) | (go_at_call 66; (with_reducible refine (regletref02_begins.calls kj2 a0 a1 _ _ t263 false _ ?side1 ?side2 A9.out).mono ?_); (case side1 => exact z70_); (case side2 => exact (Kd.R_reads' HO265.out).2.1); rintro e w' ⟨rfl, ⟨nd, rfl⟩⟩))
          go_roundg kj2
          case measure => have := HK1.out; have := HJ2.out; omega
          case rel => exact ⟨(wrap64 (x6_1 + 1)), z180_, H', ⟨by have := HK1.out; have := HJ2.out; omega⟩, ⟨z103_⟩⟩
/-! ### regletref02_Runes: function 36 -/
def regletref02_Runes.l0 : Nat → ByteArray → List Int → List Int → Int → Option (List Int × List Int × Int)
  | 0, _, _, _, _ => none
  | k + 1, x0, x5, x6, x7 => if x7 < (x0.size : Int) then ((regletref02_Read.f k x0 x7).bind fun bt267 => (if bt267.2 = 0 then (some (x5, x6, x7)) else (if x5.length < 17592186044416 then (if x6.length < 17592186044416 then (regletref02_Runes.l0 k x0 (x5 ++ [bt267.1]) (x6 ++ [x7]) (wrap64 (x7 + bt267.2))) else (none)) else (none)))) else (some (x5, x6, (-1)))
def regletref02_Runes.f (k : Nat) (a0 : ByteArray) : Option (List Int × List Int × Int) := regletref02_Runes.l0 k a0 ([] : List Int) ([] : List Int) 0
theorem regletref02_Runes.mono_l : ∀ k, (∀ y0 y1 y2 y3, LeO (regletref02_Runes.l0 k y0 y1 y2 y3) (regletref02_Runes.l0 (k + 1) y0 y1 y2 y3))
  | 0 => fun _ _ _ _ r h => by simp [regletref02_Runes.l0] at h
  | k + 1 => by
    have ih0 := regletref02_Runes.mono_l k
    · intro y0 y1 y2 y3
      unfold regletref02_Runes.l0
      repeat' first | (with_reducible first | exact ih0 _ _ _ _ | exact regletref02_Read.mono _ _ _ | exact LeO.refl _ | exact LeO.none _ | refine LeO.ite ?_ ?_ | refine LeO.bind ?_ (fun _ => ?_)) | exact ih0 _ _ _ _ | exact regletref02_Read.mono _ _ _ | exact LeO.none _ | refine LeO.ite ?_ ?_ | refine LeO.bind ?_ (fun _ => ?_)
theorem regletref02_Runes.mono : ∀ a0 k, LeO (regletref02_Runes.f k a0) (regletref02_Runes.f (k + 1) a0) := by
  intro a0 k
  have ih0 := regletref02_Runes.mono_l k
  unfold regletref02_Runes.f
  repeat' first | (with_reducible first | exact ih0 _ _ _ _ | exact regletref02_Read.mono _ _ _ | exact LeO.refl _ | exact LeO.none _ | refine LeO.ite ?_ ?_ | refine LeO.bind ?_ (fun _ => ?_)) | exact ih0 _ _ _ _ | exact regletref02_Read.mono _ _ _ | exact LeO.none _ | refine LeO.ite ?_ ?_ | refine LeO.bind ?_ (fun _ => ?_)
set_option maxHeartbeats 8000000 in
set_option maxRecDepth 100000 in
theorem regletref02_Runes.calls (k : Nat) (a0 : ByteArray) (r1 : List Int) (r2 : List Int) (r3 : Int) (w : World) (h : regletref02_Runes.f k a0 = some (r1, r2, r3)) :
    Calls Try.prog 36 #[.string a0] w fun e w' => ∃ v0_ v1_ : Value, e = .returned (.tuple #[v0_, v1_, .int .i64 r3]) ∧ Kd.R (Kd.int .i64) 3 w' w.heap.size (fun k_ => some k_ ≠ (v1_ : Value).ownBlock) v0_ r1 ∧ Kd.R (Kd.int .i64) 3 w' w.heap.size (fun k_ => some k_ ≠ (v0_ : Value).ownBlock) v1_ r2 ∧ Below w.heap.size w w' := by
  have HB := Aside0.mk (Below.refl w.heap.size w)
  have H : (regletref02_Runes.l0 k a0 ([] : List Int) ([] : List Int) 0) = some (r1, r2, r3) := h
  clear h
  have H' := Aside0.mk H
  clear H
  go_enter Try.func36, Try.ntmps36
  go_wp2
  go_loopg [5, 6, 7] k (fun kq v5 v6 v7 w' => ∃ (x5_1 : List Int) (x6_1 : List Int) (x7_1 : Int), v7 = .int .i64 x7_1 ∧ Aside0 (regletref02_Runes.l0 kq a0 x5_1 x6_1 x7_1 = some (r1, r2, r3)) ∧ Aside0 (kq ≤ k) ∧ Aside0 (Kd.R (Kd.int .i64) 3 w' w.heap.size (fun k_ => some k_ ≠ (v6 : Value).ownBlock) v5 x5_1) ∧ Aside0 (Kd.R (Kd.int .i64) 3 w' w.heap.size (fun k_ => some k_ ≠ (v5 : Value).ownBlock) v6 x6_1) ∧ Aside0 (Below w.heap.size w w'))
  case atStart => exact ⟨(([] : List Int)), (([] : List Int)), (0), z180_, H', ⟨Nat.le_refl _⟩, ⟨z97_⟩, ⟨z97_⟩, ⟨z103_⟩⟩
  case round =>
    clear H'
    obtain ⟨x5_1, x6_1, x7_1, rfl, HA, HK1, HO_5, HO_6, HB⟩ := hrel
    cases gk with
    | zero => exact absurd HA.out (by simp [regletref02_Runes.l0])
    | succ k1 =>
      have H := HA.out
      clear HA
      simp only [regletref02_Runes.l0] at H
      by_cases c2 : x7_1 < (a0.size : Int)
      rotate_left
      · rw [if_neg c2] at H
        have c2b0 : decide (x7_1 < (a0.size : Int)) = false := decide_eq_false c2
        clear c2
        simp only [Option.some.injEq, Prod.mk.injEq] at H
        obtain ⟨rfl, rfl, rfl⟩ := H
        go_wp2
        go_ret3
        exact ⟨_, _, z155_, z149_, z150_, z103_⟩
      rw [if_pos c2] at H
      have c2b0 : decide (x7_1 < (a0.size : Int)) = true := decide_eq_true c2
      clear c2
      replace H := Option.bind_eq_some_iff.mp H
      obtain ⟨⟨t267, t268⟩, A30, H⟩ := H
      replace H : (if t268 = 0 then (some (x5_1, x6_1, x7_1)) else (if x5_1.length < 17592186044416 then (if x6_1.length < 17592186044416 then (regletref02_Runes.l0 k1 a0 (x5_1 ++ [t267]) (x6_1 ++ [x7_1]) (wrap64 (x7_1 + t268))) else (none)) else (none))) = some (r1, r2, r3) := H
      have A3 := Aside0.mk A30
      clear A30
      by_cases c4 : t268 = 0
      · rw [if_pos c4] at H
        have c4b0 : (t268 == 0) = true := beq_iff_eq.mpr c4
        have c4b1 : (t268 != 0) = false := bne_eq_false_iff_eq.mpr c4
        clear c4
        simp only [Option.some.injEq, Prod.mk.injEq] at H
        obtain ⟨rfl, rfl, rfl⟩ := H
        go_wp2_with (first | ((with_reducible refine gate_callee (f := 55) rfl ?_); refine goesL_ (some 17) rfl rfl Try.func55 (by kernel_rfl) rfl #[.string a0, .int .i64 x7_1] rfl z99_ ?_; (with_reducible refine (regletref02_Read.calls k1 a0 x7_1 t267 t268 _ A3.out).mono ?_); rintro e w5 ⟨rfl, hb⟩; refine ⟨_, rfl, ?_⟩; replace HO_5 := Aside0.mk (Kd.R_below z149_ hb); replace HO_6 := Aside0.mk (Kd.R_below z150_ hb); replace HB := Aside0.mk (below_step z103_ hb); (try clear hb); (try clear hb2); (try clear hk); (try clear hi)))
        go_ret3
        exact ⟨_, _, z155_, z149_, z150_, z103_⟩
      rw [if_neg c4] at H
      have c4b0 : (t268 == 0) = false := beq_eq_false_iff_ne.mpr c4
      have c4b1 : (t268 != 0) = true := bne_iff_ne.mpr c4
      by_cases c6 : x5_1.length < 17592186044416
      rotate_left
      · rw [if_neg c6] at H
        exact absurd H (by simp)
      rw [if_pos c6] at H
      have LMc6 := Aside0.mk c6
      clear c6
      obtain ⟨y269, hy269⟩ : ∃ y_ : List Int, y_ = (x5_1 ++ [t267]) := ⟨_, rfl⟩
      replace H : (if x6_1.length < 17592186044416 then (regletref02_Runes.l0 k1 a0 y269 (x6_1 ++ [x7_1]) (wrap64 (x7_1 + t268))) else (none)) = some (r1, r2, r3) := by first | (rw [hy269]; with_reducible exact H) | (have H2_ := (Option.bind_some _ _).symm.trans H; rw [hy269]; with_reducible exact H2_) | (have H2_ := (Option.bind_some _ _).symm.trans H; with_reducible exact H2_) | with_reducible exact H | (rw [hy269]; exact H) | exact H
      have Ny269 := Aside0.mk hy269
      clear hy269
      by_cases c7 : x6_1.length < 17592186044416
      rotate_left
      · rw [if_neg c7] at H
        exact absurd H (by simp)
      rw [if_pos c7] at H
      have LMc7 := Aside0.mk c7
      clear c7
      obtain ⟨y272, hy272⟩ : ∃ y_ : List Int, y_ = (x6_1 ++ [x7_1]) := ⟨_, rfl⟩
      replace H : (regletref02_Runes.l0 k1 a0 y269 y272 (wrap64 (x7_1 + t268))) = some (r1, r2, r3) := by first | (rw [hy272]; with_reducible exact H) | (have H2_ := (Option.bind_some _ _).symm.trans H; rw [hy272]; with_reducible exact H2_) | (have H2_ := (Option.bind_some _ _).symm.trans H; with_reducible exact H2_) | with_reducible exact H | (rw [hy272]; exact H) | exact H
      have Ny272 := Aside0.mk hy272
      clear hy272
      have H' := Aside0.mk H
      clear H
      go_wp2_with (first | ((with_reducible refine gate_callee (f := 55) rfl ?_); refine goesL_ (some 17) rfl rfl Try.func55 (by kernel_rfl) rfl #[.string a0, .int .i64 x7_1] rfl z99_ ?_; (with_reducible refine (regletref02_Read.calls k1 a0 x7_1 t267 t268 _ A3.out).mono ?_); rintro e w8 ⟨rfl, hb⟩; refine ⟨_, rfl, ?_⟩; replace HO_5 := Aside0.mk (Kd.R_below z149_ hb); replace HO_6 := Aside0.mk (Kd.R_below z150_ hb); replace HB := Aside0.mk (below_step z103_ hb); (try clear hb); (try clear hb2); (try clear hk); (try clear hi)) | ((with_reducible refine gate_builtin (b := .append) (xs := #[.tmp 25, .tmp 27]) rfl ?_); at_builtin; refine Kd.R_append (Kd.int .i64) (w0 := w) w.heap.size rfl (.tmp 25) (.tmp 27) 87 3 (.int .i64 0) 8 rfl Try.underlying87 info3 rfl (by decide) (by omega) u5 x5_1 t267 [.int .i64 t267] (fun k_ => some k_ ≠ (u6 : Value).ownBlock) (fun _ => False) rfl rfl ?aP (fun _ hk => hk.elim) ?aF ?aO ?aB ?aS ?aL ?_; (case aP => exact rfl); (case aB => exact z95_); (case aF => exact (fun k_ hk => Kd.fresh' (Kd.R_lt z150_) k_ hk)); (case aO => exact z137_); (case aS => exact z93_); (case aL => have := LMc6.out; omega); intro v270 w9 ho hb hg hat; rw [← Ny269.out] at ho; have n0_ := Aside0.mk (Kd.R_after (ok := (fun _ => True)) (by (with_reducible repeat (first | apply Kd.R_alloc | apply Kd.R_drewN | apply Kd.R_drew)); exact Kd.R_mono HO_6.out (fun _ hk => ⟨trivial, hk⟩)) hg hat); have n1_ := Aside0.mk (hb); have n2_ := Aside0.mk (ho); clear HO_6; clear HB; clear HO_5; have HO_6 := n0_; have HB := n1_; have HO271 := n2_; clear n0_ n1_ n2_; clear ho hb hg hat) | ((with_reducible refine gate_builtin (b := .append) (xs := #[.tmp 29, .tmp 31]) rfl ?_); at_builtin; refine Kd.R_append (Kd.int .i64) (w0 := w) w.heap.size rfl (.tmp 29) (.tmp 31) 87 3 (.int .i64 0) 8 rfl Try.underlying87 info3 rfl (by decide) (by omega) u6 x6_1 x7_1 [.int .i64 x7_1] (fun k_ => some k_ ≠ (v270 : Value).ownBlock) (fun _ => False) rfl rfl ?aP (fun _ hk => hk.elim) ?aF ?aO ?aB ?aS ?aL ?_; (case aP => exact rfl); (case aB => exact z95_); (case aF => exact (fun k_ hk => Kd.fresh' (Kd.R_lt (y161_ HO271.out)) k_ hk)); (case aO => exact (by (with_reducible repeat (first | apply Kd.R_alloc | apply Kd.R_drewN | apply Kd.R_drew)); exact Kd.R_mono HO_6.out (fun _ hk => hk.2))); (case aS => exact z93_); (case aL => have := LMc7.out; omega); intro v273 w10 ho hb hg hat; rw [← Ny272.out] at ho; have n0_ := Aside0.mk (Kd.R_after (ok := (fun _ => True)) (by (with_reducible repeat (first | apply Kd.R_alloc | apply Kd.R_drewN | apply Kd.R_drew)); exact Kd.R_mono HO271.out (fun _ hk => ⟨trivial, hk⟩)) hg hat); have n1_ := Aside0.mk (hb); have n2_ := Aside0.mk (ho); clear HO271; clear HB; clear HO_6; have HO271 := n0_; have HB := n1_; have HO274 := n2_; clear n0_ n1_ n2_; clear ho hb hg hat))
      go_roundg k1
      case measure => have := HK1.out; omega
      case rel => exact ⟨(y269), (y272), (wrap64 (x7_1 + t268)), z180_, H', ⟨z191_⟩, ⟨by (with_reducible repeat (first | apply Kd.R_alloc | apply Kd.R_drewN | apply Kd.R_drew)); exact Kd.R_mono HO271.out (fun _ hk => hk.2)⟩, ⟨y161_ HO274.out⟩, ⟨z103_⟩⟩
/-! ### regletref02_Right: function 29 -/
def regletref02_Right.f (k : Nat) (a0 : ByteArray) : Option (Bool) := (regletref02_Runes.f k a0).bind fun bt275 => (some (decide (bt275.2.2 < 0)))
theorem regletref02_Right.mono : ∀ a0 k, LeO (regletref02_Right.f k a0) (regletref02_Right.f (k + 1) a0) := by
  intro a0 k
  unfold regletref02_Right.f
  repeat' first | (with_reducible first | exact regletref02_Runes.mono _ _ | exact LeO.refl _ | exact LeO.none _ | refine LeO.ite ?_ ?_ | refine LeO.bind ?_ (fun _ => ?_)) | exact regletref02_Runes.mono _ _ | exact LeO.none _ | refine LeO.ite ?_ ?_ | refine LeO.bind ?_ (fun _ => ?_)
set_option maxHeartbeats 8000000 in
set_option maxRecDepth 100000 in
theorem regletref02_Right.calls (k : Nat) (a0 : ByteArray) (r : Bool) (w : World) (h : regletref02_Right.f k a0 = some r) :
    Calls Try.prog 29 #[.string a0] w fun e w' => e = .returned (.bool r) ∧ Below w.heap.size w w' := by
  have HB := Aside0.mk (Below.refl w.heap.size w)
  have H : ((regletref02_Runes.f k a0).bind fun bt275 => (some (decide (bt275.2.2 < 0)))) = some r := h
  clear h
  replace H := Option.bind_eq_some_iff.mp H
  obtain ⟨⟨t275, t276, t277⟩, A20, H⟩ := H
  replace H : (some (decide (t277 < 0))) = some r := H
  have A2 := Aside0.mk A20
  clear A20
  obtain rfl := Option.some.inj H
  go_enter Try.func29, Try.ntmps29
  go_wp2_with (first | ((with_reducible refine gate_callee (f := 36) rfl ?_); refine goesL_ (some 8) rfl rfl Try.func36 (by kernel_rfl) rfl #[.string a0] rfl z99_ ?_; (with_reducible refine (regletref02_Runes.calls k a0 t275 t276 t277 _ A2.out).mono ?_); rintro e w3 ⟨v278, v280, rfl, ho0, ho1, hb⟩; refine ⟨_, rfl, ?_⟩; have HO279 := Aside0.mk (Kd.R_lower ho0 (below_size z103_)); have HO281 := Aside0.mk (Kd.R_lower ho1 (below_size z103_)); replace HB := Aside0.mk (below_step z103_ hb); (try clear hb); (try clear hb2); (try clear hk); (try clear hi); (try clear ho0); (try clear ho1)))
  go_ret
  exact ⟨z155_, z103_⟩
end Go.Proofs.Ytiabffkfabmlpaa.PLocateBack
