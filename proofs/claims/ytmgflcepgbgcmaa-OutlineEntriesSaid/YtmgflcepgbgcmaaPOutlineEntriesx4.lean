-- WRITTEN BY wip/xprint.py of this repo, over the kit's print; functions the print does not take are by hand
import Derived.Test.YtmgflcepgbgcmaaPOutlineEntriesx0
import Derived.Test.YtmgflcepgbgcmaaPOutlineEntriesx3
namespace Go.Proofs.Ytmgflcepgbgcmaa.POutlineEntries
open Go.RowKit Go.Proofs.YtmgflcepgbgcmaaW.PrintWords Go.Proofs.YtmgflcepgbgcmaaW.PrintLast Go.Proofs.YtmgflcepgbgcmaaW.PrintMore
attribute [local go_sem] max2_int min2_int max_two min_two max_three min_three max_four min_four   -- for this text's walks alone
set_option linter.unusedVariables false
set_option linter.unusedSimpArgs false

/-! ### regletref22_Roman: function 12 -/
def regletref22_Roman.j0 : Nat → Int → Bool → Option (ByteArray)
  | 0, _, _ => none
  | k + 1, x0, x8 => if x8 = true then (some (⟨#[]⟩ : ByteArray)) else ((regletref22_place.f k (wrap64 (Int.tdiv x0 1000)) (⟨#[109]⟩ : ByteArray) (⟨#[]⟩ : ByteArray) (⟨#[]⟩ : ByteArray)).bind fun t146 => ((regletref22_place.f k (Int.tmod (wrap64 (Int.tdiv x0 100)) 10) (⟨#[99]⟩ : ByteArray) (⟨#[100]⟩ : ByteArray) (⟨#[109]⟩ : ByteArray)).bind fun t147 => (if t146.size + t147.size ≤ 9223372036854775807 then ((regletref22_place.f k (Int.tmod (wrap64 (Int.tdiv x0 10)) 10) (⟨#[120]⟩ : ByteArray) (⟨#[108]⟩ : ByteArray) (⟨#[99]⟩ : ByteArray)).bind fun t148 => (if (t146 ++ t147).size + t148.size ≤ 9223372036854775807 then ((regletref22_place.f k (Int.tmod x0 10) (⟨#[105]⟩ : ByteArray) (⟨#[118]⟩ : ByteArray) (⟨#[120]⟩ : ByteArray)).bind fun t149 => (if ((t146 ++ t147) ++ t148).size + t149.size ≤ 9223372036854775807 then (some (((t146 ++ t147) ++ t148) ++ t149)) else (none))) else (none))) else (none))))
def regletref22_Roman.f (k : Nat) (a0 : Int) : Option (ByteArray) := if a0 < 1 then (regletref22_Roman.j0 k a0 true) else (regletref22_Roman.j0 k a0 (decide (a0 > 3999)))
theorem regletref22_Roman.mono_l : ∀ k, (∀ y0 y1, LeO (regletref22_Roman.j0 k y0 y1) (regletref22_Roman.j0 (k + 1) y0 y1))
  | 0 => fun _ _ r h => by simp [regletref22_Roman.j0] at h
  | k + 1 => by
    have ih0 := regletref22_Roman.mono_l k
    · intro y0 y1
      unfold regletref22_Roman.j0
      repeat' first
      | (with_reducible exact ih0 _ _)
      | (with_reducible exact regletref22_place.mono _ _ _ _ _)
      | (with_reducible exact LeO.refl _)
      | (with_reducible exact LeO.none _)
      | (with_reducible refine LeO.ite ?_ ?_)
      | (with_reducible refine LeO.bind ?_ (fun _ => ?_))
      | exact ih0 _ _
      | exact regletref22_place.mono _ _ _ _ _
      | exact LeO.none _
      | refine LeO.ite ?_ ?_
      | refine LeO.bind ?_ (fun _ => ?_)
theorem regletref22_Roman.mono : ∀ a0 k, LeO (regletref22_Roman.f k a0) (regletref22_Roman.f (k + 1) a0) := by
  intro a0 k
  have ih0 := regletref22_Roman.mono_l k
  unfold regletref22_Roman.f
  repeat' first
      | (with_reducible exact ih0 _ _)
      | (with_reducible exact regletref22_place.mono _ _ _ _ _)
      | (with_reducible exact LeO.refl _)
      | (with_reducible exact LeO.none _)
      | (with_reducible refine LeO.ite ?_ ?_)
      | (with_reducible refine LeO.bind ?_ (fun _ => ?_))
      | exact ih0 _ _
      | exact regletref22_place.mono _ _ _ _ _
      | exact LeO.none _
      | refine LeO.ite ?_ ?_
      | refine LeO.bind ?_ (fun _ => ?_)
set_option maxHeartbeats 8000000 in
set_option maxRecDepth 100000 in
theorem regletref22_Roman.calls (k : Nat) (a0 : Int) (r : ByteArray) (w : World) (h : regletref22_Roman.f k a0 = some r) :
    Calls Try.prog 12 #[.int .i64 a0] w fun e w' => e = .returned (.string r) ∧ Drawn0 w w' := by
  have H : (if a0 < 1 then (regletref22_Roman.j0 k a0 true) else (regletref22_Roman.j0 k a0 (decide (a0 > 3999)))) = some r := h
  clear h
  have HC2 := Aside0.mk H
  clear H
  go_enter Try.func12, Try.ntmps12
  go_upto_region 1 with (fail)
  go_cut [8] (fun v8 wc => ∃ (kq : Nat) (x8_1 : Bool), v8 = .bool x8_1 ∧ Aside0 (regletref22_Roman.j0 kq a0 x8_1 = some r) ∧ Aside0 (kq ≤ k) ∧ Drawn0 w wc)
  case first =>
    have H := HC2.out
    clear HC2
    by_cases c3 : a0 < 1
    · rw [if_pos c3] at H
      have c3b0 : decide (a0 < 1) = true := decide_eq_true c3
      clear c3
      (first | rw [c3b0] | (simp only [i64_w, i32_w]; rw [c3b0]) | skip)
      have H' := Aside0.mk H
      clear H
      go_wp2
      go_meet
      case rel => exact ⟨_, (true), (by first | rfl | (simp; done) | (simp [*]; done)), H', ⟨by first | omega | exact Nat.le_refl _⟩, by repeat (first | exact Drawn0.refl _ | apply Drawn0.step)⟩
    · rw [if_neg c3] at H
      have c3b0 : decide (a0 < 1) = false := decide_eq_false c3
      clear c3
      (first | rw [c3b0] | (simp only [i64_w, i32_w]; rw [c3b0]) | skip)
      have H' := Aside0.mk H
      clear H
      go_wp2
      go_meet
      case rel => exact ⟨_, (decide (a0 > 3999)), (by first | rfl | (simp; done) | (simp [*]; done)), H', ⟨by first | omega | exact Nat.le_refl _⟩, by repeat (first | exact Drawn0.refl _ | apply Drawn0.step)⟩
  case rest =>
    clear HC2
    try clear c1
    try clear p2
    try clear c3
    try clear c3b0
    obtain ⟨kq, x8_1, rfl, HA, HJ1, ⟨mc1, rfl⟩⟩ := hcut
    cases kq with
    | zero => exact absurd HA.out (by simp [regletref22_Roman.j0])
    | succ kj1 =>
      have H := HA.out
      clear HA
      simp only [regletref22_Roman.j0] at H
      by_cases c4 : x8_1 = true
      · subst c4
        have H1 : (some (⟨#[]⟩ : ByteArray)) = some r := by rw [if_pos rfl] at H; exact H
        clear H
        have H := H1
        clear H1
        obtain rfl := Option.some.inj H
        go_wp2
        go_ret
        exact ⟨by first | rfl | (simp; done) | (simp [*]; done), by repeat (first | exact Drawn0.refl _ | apply Drawn0.step)⟩
      · replace c4 := Bool.eq_false_iff.mpr c4
        subst c4
        have H1 : ((regletref22_place.f kj1 (wrap64 (Int.tdiv a0 1000)) (⟨#[109]⟩ : ByteArray) (⟨#[]⟩ : ByteArray) (⟨#[]⟩ : ByteArray)).bind fun t146 => ((regletref22_place.f kj1 (Int.tmod (wrap64 (Int.tdiv a0 100)) 10) (⟨#[99]⟩ : ByteArray) (⟨#[100]⟩ : ByteArray) (⟨#[109]⟩ : ByteArray)).bind fun t147 => (if t146.size + t147.size ≤ 9223372036854775807 then ((regletref22_place.f kj1 (Int.tmod (wrap64 (Int.tdiv a0 10)) 10) (⟨#[120]⟩ : ByteArray) (⟨#[108]⟩ : ByteArray) (⟨#[99]⟩ : ByteArray)).bind fun t148 => (if (t146 ++ t147).size + t148.size ≤ 9223372036854775807 then ((regletref22_place.f kj1 (Int.tmod a0 10) (⟨#[105]⟩ : ByteArray) (⟨#[118]⟩ : ByteArray) (⟨#[120]⟩ : ByteArray)).bind fun t149 => (if ((t146 ++ t147) ++ t148).size + t149.size ≤ 9223372036854775807 then (some (((t146 ++ t147) ++ t148) ++ t149)) else (none))) else (none))) else (none)))) = some r := by rw [if_neg (show ¬ (false = true) by decide)] at H; exact H
        clear H
        have H := H1
        clear H1
        replace H := Option.bind_eq_some_iff.mp H
        obtain ⟨t146, A50, H⟩ := H
        replace H : ((regletref22_place.f kj1 (Int.tmod (wrap64 (Int.tdiv a0 100)) 10) (⟨#[99]⟩ : ByteArray) (⟨#[100]⟩ : ByteArray) (⟨#[109]⟩ : ByteArray)).bind fun t147 => (if t146.size + t147.size ≤ 9223372036854775807 then ((regletref22_place.f kj1 (Int.tmod (wrap64 (Int.tdiv a0 10)) 10) (⟨#[120]⟩ : ByteArray) (⟨#[108]⟩ : ByteArray) (⟨#[99]⟩ : ByteArray)).bind fun t148 => (if (t146 ++ t147).size + t148.size ≤ 9223372036854775807 then ((regletref22_place.f kj1 (Int.tmod a0 10) (⟨#[105]⟩ : ByteArray) (⟨#[118]⟩ : ByteArray) (⟨#[120]⟩ : ByteArray)).bind fun t149 => (if ((t146 ++ t147) ++ t148).size + t149.size ≤ 9223372036854775807 then (some (((t146 ++ t147) ++ t148) ++ t149)) else (none))) else (none))) else (none))) = some r := H
        have A5 := Aside0.mk A50
        clear A50
        replace H := Option.bind_eq_some_iff.mp H
        obtain ⟨t147, A60, H⟩ := H
        replace H : (if t146.size + t147.size ≤ 9223372036854775807 then ((regletref22_place.f kj1 (Int.tmod (wrap64 (Int.tdiv a0 10)) 10) (⟨#[120]⟩ : ByteArray) (⟨#[108]⟩ : ByteArray) (⟨#[99]⟩ : ByteArray)).bind fun t148 => (if (t146 ++ t147).size + t148.size ≤ 9223372036854775807 then ((regletref22_place.f kj1 (Int.tmod a0 10) (⟨#[105]⟩ : ByteArray) (⟨#[118]⟩ : ByteArray) (⟨#[120]⟩ : ByteArray)).bind fun t149 => (if ((t146 ++ t147) ++ t148).size + t149.size ≤ 9223372036854775807 then (some (((t146 ++ t147) ++ t148) ++ t149)) else (none))) else (none))) else (none)) = some r := H
        have A6 := Aside0.mk A60
        clear A60
        by_cases c7 : t146.size + t147.size ≤ 9223372036854775807
        · rw [if_pos c7] at H
          have c7b0 := eq_true c7
          have c7b1 : decide (t146.size + t147.size ≤ 9223372036854775807) = true := decide_eq_true c7
          try have c7b2 : (9223372036854775807 < t146.size + t147.size) = False := eq_false (Nat.not_lt.2 c7)
          (try (have c7b3 := c7b2; simp only [ByteArray.size_append] at c7b3))
          (try (have c7b4 : (9223372036854775807 < (t146).size + (t147).size) = False := eq_false (by have h_ := c7; simp [ByteArray.size_extract] at h_; simp; omega)))
          replace H := Option.bind_eq_some_iff.mp H
          obtain ⟨t148, A80, H⟩ := H
          replace H : (if (t146 ++ t147).size + t148.size ≤ 9223372036854775807 then ((regletref22_place.f kj1 (Int.tmod a0 10) (⟨#[105]⟩ : ByteArray) (⟨#[118]⟩ : ByteArray) (⟨#[120]⟩ : ByteArray)).bind fun t149 => (if ((t146 ++ t147) ++ t148).size + t149.size ≤ 9223372036854775807 then (some (((t146 ++ t147) ++ t148) ++ t149)) else (none))) else (none)) = some r := H
          have A8 := Aside0.mk A80
          clear A80
          by_cases c9 : (t146 ++ t147).size + t148.size ≤ 9223372036854775807
          · rw [if_pos c9] at H
            have c9b0 := eq_true c9
            have c9b1 : decide ((t146 ++ t147).size + t148.size ≤ 9223372036854775807) = true := decide_eq_true c9
            try have c9b2 : (9223372036854775807 < (t146 ++ t147).size + t148.size) = False := eq_false (Nat.not_lt.2 c9)
            (try (have c9b3 := c9b2; simp only [ByteArray.size_append] at c9b3))
            (try (have c9b4 : (9223372036854775807 < (t146).size + (t147).size + (t148).size) = False := eq_false (by have h_ := c9; simp [ByteArray.size_extract] at h_; simp; omega)))
            replace H := Option.bind_eq_some_iff.mp H
            obtain ⟨t149, A100, H⟩ := H
            replace H : (if ((t146 ++ t147) ++ t148).size + t149.size ≤ 9223372036854775807 then (some (((t146 ++ t147) ++ t148) ++ t149)) else (none)) = some r := H
            have A10 := Aside0.mk A100
            clear A100
            by_cases c11 : ((t146 ++ t147) ++ t148).size + t149.size ≤ 9223372036854775807
            · rw [if_pos c11] at H
              have c11b0 := eq_true c11
              have c11b1 : decide (((t146 ++ t147) ++ t148).size + t149.size ≤ 9223372036854775807) = true := decide_eq_true c11
              try have c11b2 : (9223372036854775807 < ((t146 ++ t147) ++ t148).size + t149.size) = False := eq_false (Nat.not_lt.2 c11)
              (try (have c11b3 := c11b2; simp only [ByteArray.size_append] at c11b3))
              (try (have c11b4 : (9223372036854775807 < (t146).size + (t147).size + (t148).size + (t149).size) = False := eq_false (by have h_ := c11; simp [ByteArray.size_extract] at h_; simp; omega)))
              obtain rfl := Option.some.inj H
              go_wp2_with (first | ((with_reducible refine gate_callee (f := 31) rfl ?_); refine goesL_ (some 11) rfl rfl Try.func31 (by kernel_rfl) rfl #[.int .i64 (wrap64 (Int.tdiv a0 1000)), .string (⟨#[109]⟩ : ByteArray), .string (⟨#[]⟩ : ByteArray), .string (⟨#[]⟩ : ByteArray)] rfl (by (try simp only [List.map_toArray, List.map_cons, List.map_nil]); first | done | rfl | (simp only [List.length_drop, List.length_take]; rfl)) ?_; (with_reducible refine (regletref22_place.calls kj1 (wrap64 (Int.tdiv a0 1000)) (⟨#[109]⟩ : ByteArray) (⟨#[]⟩ : ByteArray) (⟨#[]⟩ : ByteArray) t146 _ A5.out).mono ?_); rintro e w' ⟨rfl, ⟨nd, rfl⟩⟩; refine ⟨_, rfl, ?_⟩) | ((with_reducible refine gate_callee (f := 31) rfl ?_); refine goesL_ (some 15) rfl rfl Try.func31 (by kernel_rfl) rfl #[.int .i64 (Int.tmod (wrap64 (Int.tdiv a0 100)) 10), .string (⟨#[99]⟩ : ByteArray), .string (⟨#[100]⟩ : ByteArray), .string (⟨#[109]⟩ : ByteArray)] rfl (by (try simp only [List.map_toArray, List.map_cons, List.map_nil]); first | done | rfl | (simp only [List.length_drop, List.length_take]; rfl)) ?_; (with_reducible refine (regletref22_place.calls kj1 (Int.tmod (wrap64 (Int.tdiv a0 100)) 10) (⟨#[99]⟩ : ByteArray) (⟨#[100]⟩ : ByteArray) (⟨#[109]⟩ : ByteArray) t147 _ A6.out).mono ?_); rintro e w' ⟨rfl, ⟨nd, rfl⟩⟩; refine ⟨_, rfl, ?_⟩) | ((with_reducible refine gate_callee (f := 31) rfl ?_); refine goesL_ (some 20) rfl rfl Try.func31 (by kernel_rfl) rfl #[.int .i64 (Int.tmod (wrap64 (Int.tdiv a0 10)) 10), .string (⟨#[120]⟩ : ByteArray), .string (⟨#[108]⟩ : ByteArray), .string (⟨#[99]⟩ : ByteArray)] rfl (by (try simp only [List.map_toArray, List.map_cons, List.map_nil]); first | done | rfl | (simp only [List.length_drop, List.length_take]; rfl)) ?_; (with_reducible refine (regletref22_place.calls kj1 (Int.tmod (wrap64 (Int.tdiv a0 10)) 10) (⟨#[120]⟩ : ByteArray) (⟨#[108]⟩ : ByteArray) (⟨#[99]⟩ : ByteArray) t148 _ A8.out).mono ?_); rintro e w' ⟨rfl, ⟨nd, rfl⟩⟩; refine ⟨_, rfl, ?_⟩) | ((with_reducible refine gate_callee (f := 31) rfl ?_); refine goesL_ (some 24) rfl rfl Try.func31 (by kernel_rfl) rfl #[.int .i64 (Int.tmod a0 10), .string (⟨#[105]⟩ : ByteArray), .string (⟨#[118]⟩ : ByteArray), .string (⟨#[120]⟩ : ByteArray)] rfl (by (try simp only [List.map_toArray, List.map_cons, List.map_nil]); first | done | rfl | (simp only [List.length_drop, List.length_take]; rfl)) ?_; (with_reducible refine (regletref22_place.calls kj1 (Int.tmod a0 10) (⟨#[105]⟩ : ByteArray) (⟨#[118]⟩ : ByteArray) (⟨#[120]⟩ : ByteArray) t149 _ A10.out).mono ?_); rintro e w' ⟨rfl, ⟨nd, rfl⟩⟩; refine ⟨_, rfl, ?_⟩))
              go_ret
              exact ⟨by first | rfl | (simp; done) | (simp [*]; done), by repeat (first | exact Drawn0.refl _ | apply Drawn0.step)⟩
            · rw [if_neg c11] at H
              exact absurd H (by simp)
          · rw [if_neg c9] at H
            exact absurd H (by simp)
        · rw [if_neg c7] at H
          exact absurd H (by simp)

/-! ### regletref22_digit: function 33 -/
def regletref22_digit.f (a0 : Int) : Option (ByteArray) := if 0 ≤ a0 then (if a0 ≤ (wrap64 (a0 + 1)) then (if (wrap64 (a0 + 1)) ≤ 10 then (some ((⟨#[48, 49, 50, 51, 52, 53, 54, 55, 56, 57]⟩ : ByteArray).extract (a0 : Int).toNat ((wrap64 (a0 + 1)) : Int).toNat)) else (none)) else (none)) else (none)
set_option maxHeartbeats 8000000 in
set_option maxRecDepth 100000 in
theorem regletref22_digit.calls (a0 : Int) (r : ByteArray) (w : World) (h : regletref22_digit.f a0 = some r) :
    Calls Try.prog 33 #[.int .i64 a0] w fun e w' => e = .returned (.string r) ∧ Drawn0 w w' := by
  have H : (if 0 ≤ a0 then (if a0 ≤ (wrap64 (a0 + 1)) then (if (wrap64 (a0 + 1)) ≤ 10 then (some ((⟨#[48, 49, 50, 51, 52, 53, 54, 55, 56, 57]⟩ : ByteArray).extract (a0 : Int).toNat ((wrap64 (a0 + 1)) : Int).toNat)) else (none)) else (none)) else (none)) = some r := h
  clear h
  by_cases c2 : 0 ≤ a0
  · rw [if_pos c2] at H
    have c2b0 := eq_true c2
    have c2b1 : decide (0 ≤ a0) = true := decide_eq_true c2
    clear c2
    by_cases c3 : a0 ≤ (wrap64 (a0 + 1))
    · rw [if_pos c3] at H
      have c3b0 := eq_true c3
      have c3b1 : decide (a0 ≤ (wrap64 (a0 + 1))) = true := decide_eq_true c3
      by_cases c4 : (wrap64 (a0 + 1)) ≤ 10
      · rw [if_pos c4] at H
        have c4b0 := eq_true c4
        have c4b1 : decide ((wrap64 (a0 + 1)) ≤ 10) = true := decide_eq_true c4
        obtain rfl := Option.some.inj H
        go_enter Try.func33, Try.ntmps33
        go_wp2
        go_ret
        exact ⟨by first | rfl | (simp; done) | (simp [*]; done), by repeat (first | exact Drawn0.refl _ | apply Drawn0.step)⟩
      · rw [if_neg c4] at H
        exact absurd H (by simp)
    · rw [if_neg c3] at H
      exact absurd H (by simp)
  · rw [if_neg c2] at H
    exact absurd H (by simp)

/-! ### regletref22_Decimal: function 14 -/
def regletref22_Decimal.f : Nat → Int → Option (ByteArray)
  | 0, _ => none
  | k + 1, a0 => if a0 < 0 then (if (wrap64 (Int.tdiv a0 10)) = 0 then ((regletref22_digit.f (wrap64 (-a0))).bind fun t150 => (if 1 + t150.size ≤ 9223372036854775807 then (some ((⟨#[45]⟩ : ByteArray) ++ t150)) else (none))) else ((regletref22_Decimal.f k (wrap64 (Int.tdiv a0 10))).bind fun t151 => ((regletref22_digit.f (wrap64 (-(Int.tmod a0 10)))).bind fun t152 => (if t151.size + t152.size ≤ 9223372036854775807 then (some (t151 ++ t152)) else (none))))) else (if a0 < 10 then ((regletref22_digit.f a0).bind fun t153 => (some t153)) else ((regletref22_Decimal.f k (wrap64 (Int.tdiv a0 10))).bind fun t154 => ((regletref22_digit.f (Int.tmod a0 10)).bind fun t155 => (if t154.size + t155.size ≤ 9223372036854775807 then (some (t154 ++ t155)) else (none)))))
theorem regletref22_Decimal.mono_l : ∀ k, (∀ y0, LeO (regletref22_Decimal.f k y0) (regletref22_Decimal.f (k + 1) y0))
  | 0 => fun _ r h => by simp [regletref22_Decimal.f] at h
  | k + 1 => by
    have ih0 := regletref22_Decimal.mono_l k
    · intro y0
      unfold regletref22_Decimal.f
      repeat' first
      | (with_reducible exact ih0 _)
      | (with_reducible exact LeO.refl _)
      | (with_reducible exact LeO.none _)
      | (with_reducible refine LeO.ite ?_ ?_)
      | (with_reducible refine LeO.bind ?_ (fun _ => ?_))
      | exact ih0 _
      | exact LeO.none _
      | refine LeO.ite ?_ ?_
      | refine LeO.bind ?_ (fun _ => ?_)
theorem regletref22_Decimal.mono : ∀ a0 k, LeO (regletref22_Decimal.f k a0) (regletref22_Decimal.f (k + 1) a0) := by
  intro a0 k
  have ih0 := regletref22_Decimal.mono_l k
  exact ih0 a0
set_option maxHeartbeats 8000000 in
set_option maxRecDepth 100000 in
theorem regletref22_Decimal.calls (k : Nat) : ∀ (a0 : Int) (r : ByteArray) (w : World) (h : regletref22_Decimal.f k a0 = some r),
    Calls Try.prog 14 #[.int .i64 a0] w fun e w' => e = .returned (.string r) ∧ Drawn0 w w' := by
  induction k using Nat.strongRecOn with
  | _ k ih =>
  intro a0 r w h
  cases k with
  | zero => exact absurd h (by simp [regletref22_Decimal.f])
  | succ k =>
  simp only [regletref22_Decimal.f] at h
  have H : (if a0 < 0 then (if (wrap64 (Int.tdiv a0 10)) = 0 then ((regletref22_digit.f (wrap64 (-a0))).bind fun t150 => (if 1 + t150.size ≤ 9223372036854775807 then (some ((⟨#[45]⟩ : ByteArray) ++ t150)) else (none))) else ((regletref22_Decimal.f k (wrap64 (Int.tdiv a0 10))).bind fun t151 => ((regletref22_digit.f (wrap64 (-(Int.tmod a0 10)))).bind fun t152 => (if t151.size + t152.size ≤ 9223372036854775807 then (some (t151 ++ t152)) else (none))))) else (if a0 < 10 then ((regletref22_digit.f a0).bind fun t153 => (some t153)) else ((regletref22_Decimal.f k (wrap64 (Int.tdiv a0 10))).bind fun t154 => ((regletref22_digit.f (Int.tmod a0 10)).bind fun t155 => (if t154.size + t155.size ≤ 9223372036854775807 then (some (t154 ++ t155)) else (none)))))) = some r := h
  clear h
  by_cases c2 : a0 < 0
  · rw [if_pos c2] at H
    have c2b0 : decide (a0 < 0) = true := decide_eq_true c2
    clear c2
    by_cases c3 : (wrap64 (Int.tdiv a0 10)) = 0
    · rw [if_pos c3] at H
      have c3b0 : ((wrap64 (Int.tdiv a0 10)) == 0) = true := beq_iff_eq.mpr c3
      have c3b1 : ((wrap64 (Int.tdiv a0 10)) != 0) = false := bne_eq_false_iff_eq.mpr c3
      clear c3
      replace H := Option.bind_eq_some_iff.mp H
      obtain ⟨t150, A40, H⟩ := H
      replace H : (if 1 + t150.size ≤ 9223372036854775807 then (some ((⟨#[45]⟩ : ByteArray) ++ t150)) else (none)) = some r := H
      have A4 := Aside0.mk A40
      clear A40
      by_cases c5 : 1 + t150.size ≤ 9223372036854775807
      · rw [if_pos c5] at H
        have c5b0 := eq_true c5
        have c5b1 : decide (1 + t150.size ≤ 9223372036854775807) = true := decide_eq_true c5
        try have c5b2 : (9223372036854775807 < 1 + t150.size) = False := eq_false (Nat.not_lt.2 c5)
        (try (have c5b3 := c5b2; simp only [ByteArray.size_append] at c5b3))
        (try (have c5b4 : (9223372036854775807 < 1 + (t150).size) = False := eq_false (by have h_ := c5; simp [ByteArray.size_extract] at h_; simp; omega)))
        obtain rfl := Option.some.inj H
        go_enter Try.func14, Try.ntmps14
        go_wp2_with (first | ((with_reducible refine gate_callee (f := 33) rfl ?_); refine goesL_ (some 10) rfl rfl Try.func33 (by kernel_rfl) rfl #[.int .i64 (wrap64 (-a0))] rfl (by (try simp only [List.map_toArray, List.map_cons, List.map_nil]); first | done | rfl | (simp only [List.length_drop, List.length_take]; rfl)) ?_; (with_reducible refine (regletref22_digit.calls (wrap64 (-a0)) t150 _ A4.out).mono ?_); rintro e w' ⟨rfl, ⟨nd, rfl⟩⟩; refine ⟨_, rfl, ?_⟩))
        go_ret
        exact ⟨by first | rfl | (simp; done) | (simp [*]; done), by repeat (first | exact Drawn0.refl _ | apply Drawn0.step)⟩
      · rw [if_neg c5] at H
        exact absurd H (by simp)
    · rw [if_neg c3] at H
      have c3b0 : ((wrap64 (Int.tdiv a0 10)) == 0) = false := beq_eq_false_iff_ne.mpr c3
      have c3b1 : ((wrap64 (Int.tdiv a0 10)) != 0) = true := bne_iff_ne.mpr c3
      replace H := Option.bind_eq_some_iff.mp H
      obtain ⟨t151, A60, H⟩ := H
      replace H : ((regletref22_digit.f (wrap64 (-(Int.tmod a0 10)))).bind fun t152 => (if t151.size + t152.size ≤ 9223372036854775807 then (some (t151 ++ t152)) else (none))) = some r := H
      have A6 := Aside0.mk A60
      clear A60
      replace H := Option.bind_eq_some_iff.mp H
      obtain ⟨t152, A70, H⟩ := H
      replace H : (if t151.size + t152.size ≤ 9223372036854775807 then (some (t151 ++ t152)) else (none)) = some r := H
      have A7 := Aside0.mk A70
      clear A70
      by_cases c8 : t151.size + t152.size ≤ 9223372036854775807
      · rw [if_pos c8] at H
        have c8b0 := eq_true c8
        have c8b1 : decide (t151.size + t152.size ≤ 9223372036854775807) = true := decide_eq_true c8
        try have c8b2 : (9223372036854775807 < t151.size + t152.size) = False := eq_false (Nat.not_lt.2 c8)
        (try (have c8b3 := c8b2; simp only [ByteArray.size_append] at c8b3))
        (try (have c8b4 : (9223372036854775807 < (t151).size + (t152).size) = False := eq_false (by have h_ := c8; simp [ByteArray.size_extract] at h_; simp; omega)))
        obtain rfl := Option.some.inj H
        go_enter Try.func14, Try.ntmps14
        go_wp2_with (first | ((with_reducible refine gate_callee (f := 14) rfl ?_); refine goesL_ (some 14) rfl rfl Try.func14 (by kernel_rfl) rfl #[.int .i64 (wrap64 (Int.tdiv a0 10))] rfl (by (try simp only [List.map_toArray, List.map_cons, List.map_nil]); first | done | rfl | (simp only [List.length_drop, List.length_take]; rfl)) ?_; (with_reducible refine (ih k (by omega) (wrap64 (Int.tdiv a0 10)) t151 _ A6.out).mono ?_); rintro e w' ⟨rfl, ⟨nd, rfl⟩⟩; refine ⟨_, rfl, ?_⟩) | ((with_reducible refine gate_callee (f := 33) rfl ?_); refine goesL_ (some 18) rfl rfl Try.func33 (by kernel_rfl) rfl #[.int .i64 (wrap64 (-(Int.tmod a0 10)))] rfl (by (try simp only [List.map_toArray, List.map_cons, List.map_nil]); first | done | rfl | (simp only [List.length_drop, List.length_take]; rfl)) ?_; (with_reducible refine (regletref22_digit.calls (wrap64 (-(Int.tmod a0 10))) t152 _ A7.out).mono ?_); rintro e w' ⟨rfl, ⟨nd, rfl⟩⟩; refine ⟨_, rfl, ?_⟩))
        go_ret
        exact ⟨by first | rfl | (simp; done) | (simp [*]; done), by repeat (first | exact Drawn0.refl _ | apply Drawn0.step)⟩
      · rw [if_neg c8] at H
        exact absurd H (by simp)
  · rw [if_neg c2] at H
    have c2b0 : decide (a0 < 0) = false := decide_eq_false c2
    clear c2
    by_cases c9 : a0 < 10
    · rw [if_pos c9] at H
      have c9b0 : decide (a0 < 10) = true := decide_eq_true c9
      clear c9
      replace H := Option.bind_eq_some_iff.mp H
      obtain ⟨t153, A100, H⟩ := H
      replace H : (some t153) = some r := H
      have A10 := Aside0.mk A100
      clear A100
      obtain rfl := Option.some.inj H
      go_enter Try.func14, Try.ntmps14
      go_wp2_with (first | ((with_reducible refine gate_callee (f := 33) rfl ?_); refine goesL_ (some 23) rfl rfl Try.func33 (by kernel_rfl) rfl #[.int .i64 a0] rfl (by (try simp only [List.map_toArray, List.map_cons, List.map_nil]); first | done | rfl | (simp only [List.length_drop, List.length_take]; rfl)) ?_; (with_reducible refine (regletref22_digit.calls a0 t153 _ A10.out).mono ?_); rintro e w' ⟨rfl, ⟨nd, rfl⟩⟩; refine ⟨_, rfl, ?_⟩))
      go_ret
      exact ⟨by first | rfl | (simp; done) | (simp [*]; done), by repeat (first | exact Drawn0.refl _ | apply Drawn0.step)⟩
    · rw [if_neg c9] at H
      have c9b0 : decide (a0 < 10) = false := decide_eq_false c9
      clear c9
      replace H := Option.bind_eq_some_iff.mp H
      obtain ⟨t154, A110, H⟩ := H
      replace H : ((regletref22_digit.f (Int.tmod a0 10)).bind fun t155 => (if t154.size + t155.size ≤ 9223372036854775807 then (some (t154 ++ t155)) else (none))) = some r := H
      have A11 := Aside0.mk A110
      clear A110
      replace H := Option.bind_eq_some_iff.mp H
      obtain ⟨t155, A120, H⟩ := H
      replace H : (if t154.size + t155.size ≤ 9223372036854775807 then (some (t154 ++ t155)) else (none)) = some r := H
      have A12 := Aside0.mk A120
      clear A120
      by_cases c13 : t154.size + t155.size ≤ 9223372036854775807
      · rw [if_pos c13] at H
        have c13b0 := eq_true c13
        have c13b1 : decide (t154.size + t155.size ≤ 9223372036854775807) = true := decide_eq_true c13
        try have c13b2 : (9223372036854775807 < t154.size + t155.size) = False := eq_false (Nat.not_lt.2 c13)
        (try (have c13b3 := c13b2; simp only [ByteArray.size_append] at c13b3))
        (try (have c13b4 : (9223372036854775807 < (t154).size + (t155).size) = False := eq_false (by have h_ := c13; simp [ByteArray.size_extract] at h_; simp; omega)))
        obtain rfl := Option.some.inj H
        go_enter Try.func14, Try.ntmps14
        go_wp2_with (first | ((with_reducible refine gate_callee (f := 14) rfl ?_); refine goesL_ (some 26) rfl rfl Try.func14 (by kernel_rfl) rfl #[.int .i64 (wrap64 (Int.tdiv a0 10))] rfl (by (try simp only [List.map_toArray, List.map_cons, List.map_nil]); first | done | rfl | (simp only [List.length_drop, List.length_take]; rfl)) ?_; (with_reducible refine (ih k (by omega) (wrap64 (Int.tdiv a0 10)) t154 _ A11.out).mono ?_); rintro e w' ⟨rfl, ⟨nd, rfl⟩⟩; refine ⟨_, rfl, ?_⟩) | ((with_reducible refine gate_callee (f := 33) rfl ?_); refine goesL_ (some 29) rfl rfl Try.func33 (by kernel_rfl) rfl #[.int .i64 (Int.tmod a0 10)] rfl (by (try simp only [List.map_toArray, List.map_cons, List.map_nil]); first | done | rfl | (simp only [List.length_drop, List.length_take]; rfl)) ?_; (with_reducible refine (regletref22_digit.calls (Int.tmod a0 10) t155 _ A12.out).mono ?_); rintro e w' ⟨rfl, ⟨nd, rfl⟩⟩; refine ⟨_, rfl, ?_⟩))
        go_ret
        exact ⟨by first | rfl | (simp; done) | (simp [*]; done), by repeat (first | exact Drawn0.refl _ | apply Drawn0.step)⟩
      · rw [if_neg c13] at H
        exact absurd H (by simp)

/-! ### regletref22_Label: function 16 -/
def regletref22_Label.f (k : Nat) (a0 : Int) (a1 : Int) : Option (ByteArray) := if a0 < 0 then (some (⟨#[]⟩ : ByteArray)) else (if a0 < a1 then ((regletref22_Roman.f k (wrap64 (a0 + 1))).bind fun t156 => (some t156)) else ((regletref22_Decimal.f k (wrap64 ((wrap64 (a0 - (mx a1 0))) + 1))).bind fun t157 => (some t157)))
theorem regletref22_Label.mono : ∀ a0 a1 k, LeO (regletref22_Label.f k a0 a1) (regletref22_Label.f (k + 1) a0 a1) := by
  intro a0 a1 k
  unfold regletref22_Label.f
  repeat' first
      | (with_reducible exact regletref22_Decimal.mono _ _)
      | (with_reducible exact regletref22_Roman.mono _ _)
      | (with_reducible exact LeO.refl _)
      | (with_reducible exact LeO.none _)
      | (with_reducible refine LeO.ite ?_ ?_)
      | (with_reducible refine LeO.bind ?_ (fun _ => ?_))
      | exact regletref22_Decimal.mono _ _
      | exact regletref22_Roman.mono _ _
      | exact LeO.none _
      | refine LeO.ite ?_ ?_
      | refine LeO.bind ?_ (fun _ => ?_)
set_option maxHeartbeats 8000000 in
set_option maxRecDepth 100000 in
theorem regletref22_Label.calls (k : Nat) (a0 : Int) (a1 : Int) (r : ByteArray) (w : World) (h : regletref22_Label.f k a0 a1 = some r) :
    Calls Try.prog 16 #[.int .i64 a0, .int .i64 a1] w fun e w' => e = .returned (.string r) ∧ Below w.heap.size w w' := by
  have HB := Aside0.mk (Below.refl w.heap.size w)
  have H : (if a0 < 0 then (some (⟨#[]⟩ : ByteArray)) else (if a0 < a1 then ((regletref22_Roman.f k (wrap64 (a0 + 1))).bind fun t156 => (some t156)) else ((regletref22_Decimal.f k (wrap64 ((wrap64 (a0 - (mx a1 0))) + 1))).bind fun t157 => (some t157)))) = some r := h
  clear h
  by_cases c3 : a0 < 0
  · rw [if_pos c3] at H
    have c3b0 : decide (a0 < 0) = true := decide_eq_true c3
    clear c3
    obtain rfl := Option.some.inj H
    go_enter Try.func16, Try.ntmps16
    go_wp2
    go_ret
    exact ⟨by first | rfl | (simp [errW_none, errW_some] <;> rfl) | (simp [*, errW_none, errW_some] <;> rfl), by repeat (first | (with_reducible first | exact HB.out | apply below_alloc | apply pw_below_drewN | apply below_drew1) | exact HB.out)⟩
  · rw [if_neg c3] at H
    have c3b0 : decide (a0 < 0) = false := decide_eq_false c3
    clear c3
    by_cases c4 : a0 < a1
    · rw [if_pos c4] at H
      have c4b0 : decide (a0 < a1) = true := decide_eq_true c4
      clear c4
      replace H := Option.bind_eq_some_iff.mp H
      obtain ⟨t156, A50, H⟩ := H
      replace H : (some t156) = some r := H
      have A5 := Aside0.mk A50
      clear A50
      obtain rfl := Option.some.inj H
      go_enter Try.func16, Try.ntmps16
      go_wp2_with (first | ((with_reducible refine gate_callee (f := 12) rfl ?_); refine goesL_ (some 12) rfl rfl Try.func12 (by kernel_rfl) rfl #[.int .i64 (wrap64 (a0 + 1))] rfl (by (try simp only [List.map_toArray, List.map_cons, List.map_nil]); first | done | rfl | (simp only [List.length_drop, List.length_take]; rfl)) ?_; (with_reducible refine (regletref22_Roman.calls k (wrap64 (a0 + 1)) t156 _ A5.out).mono ?_); rintro e w' ⟨rfl, ⟨nd, rfl⟩⟩; refine ⟨_, rfl, ?_⟩))
      go_ret
      exact ⟨by first | rfl | (simp [errW_none, errW_some] <;> rfl) | (simp [*, errW_none, errW_some] <;> rfl), by repeat (first | (with_reducible first | exact HB.out | apply below_alloc | apply pw_below_drewN | apply below_drew1) | exact HB.out)⟩
    · rw [if_neg c4] at H
      have c4b0 : decide (a0 < a1) = false := decide_eq_false c4
      clear c4
      obtain ⟨ji6, hji6⟩ : ∃ j_ : Int, (mx a1 0) = j_ := ⟨_, rfl⟩
      replace H : ((regletref22_Decimal.f k (wrap64 ((wrap64 (a0 - (ji6))) + 1))).bind fun t157 => (some t157)) = some r := by first | (rw [hji6] at H; exact H) | (simp only [hji6] at H ⊢; exact H)
      (try (have hji6l : 0 ≤ ji6 := by (rw [← hji6]; unfold mx; (repeat' split) <;> omega)))
      (try (have hji6m : 0 ≤ ji6 := by omega))
      have hji6_ : (if a1 < 0 then 0 else a1) = ji6 := hji6
      replace H := Option.bind_eq_some_iff.mp H
      obtain ⟨t157, A70, H⟩ := H
      replace H : (some t157) = some r := H
      have A7 := Aside0.mk A70
      clear A70
      obtain rfl := Option.some.inj H
      go_enter Try.func16, Try.ntmps16
      go_wp2_with (first | ((with_reducible refine gate_callee (f := 14) rfl ?_); refine goesL_ (some 18) rfl rfl Try.func14 (by kernel_rfl) rfl #[.int .i64 (wrap64 ((wrap64 (a0 - (ji6))) + 1))] rfl (by (try simp only [List.map_toArray, List.map_cons, List.map_nil]); first | done | (simp only [hji6]; rfl) | rfl | (simp only [List.length_drop, List.length_take]; rfl)) ?_; (with_reducible refine (regletref22_Decimal.calls k (wrap64 ((wrap64 (a0 - (ji6))) + 1)) t157 _ A7.out).mono ?_); rintro e w' ⟨rfl, ⟨nd, rfl⟩⟩; refine ⟨_, rfl, ?_⟩))
      go_ret
      exact ⟨by first | rfl | (simp [errW_none, errW_some] <;> rfl) | (simp only [← hji6]; first | rfl | (simp [errW_none, errW_some] <;> rfl)) | (simp [*, errW_none, errW_some] <;> rfl), by repeat (first | (with_reducible first | exact HB.out | apply below_alloc | apply pw_below_drewN | apply below_drew1) | exact HB.out)⟩

end Go.Proofs.Ytmgflcepgbgcmaa.POutlineEntries
