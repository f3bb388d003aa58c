-- WRITTEN BY wip/xprint.py of this repo, over the kit's print; functions the print does not take are by hand
import Derived.Test.YtmgflcepgbgcmaaPOutlineEntriesx0
import Derived.Test.YtmgflcepgbgcmaaPOutlineEntriesx1
namespace Go.Proofs.Ytmgflcepgbgcmaa.POutlineEntries
open Go.RowKit Go.Proofs.YtmgflcepgbgcmaaW.PrintWords Go.Proofs.YtmgflcepgbgcmaaW.PrintLast Go.Proofs.YtmgflcepgbgcmaaW.PrintMore
attribute [local go_sem] max2_int min2_int max_two min_two max_three min_three max_four min_four   -- for this text's walks alone
set_option linter.unusedVariables false
set_option linter.unusedSimpArgs false

/-! ### runes_Count: by hand (it ranges over a text) -/
def runes_Count.f (a0 : ByteArray) : Option Int := if (a0.size : Int) ≤ 1000000 then (if right_ a0 = true then some ((rl_ a0 (a0.size + 1) 0).length : Int) else none) else none
set_option maxHeartbeats 8000000 in
set_option maxRecDepth 100000 in
theorem runes_Count.calls (a0 : ByteArray) (r : Int) (w : World) (h : runes_Count.f a0 = some r) :
    Calls Try.prog 35 #[.string a0] w fun e w' => e = .returned (.int .i64 r) ∧ Below w.heap.size w w' := by
  unfold runes_Count.f at h
  by_cases hsz : (a0.size : Int) ≤ 1000000
  case neg => rw [if_neg hsz] at h; cases h
  rw [if_pos hsz] at h
  by_cases hrt : right_ a0 = true
  case neg => rw [if_neg hrt] at h; cases h
  rw [if_pos hrt] at h
  have hbd : bd_ a0 (a0.size + 1) 0 < 0 := of_decide_eq_true hrt
  have H := Aside0.mk (Option.some.inj h)
  have HB := Aside0.mk hbd
  clear h hrt hbd
  go_enter Try.func35, Try.ntmps35
  go_wp2
  go_loopw [3] (fun v3 wr => ∃ (pos q : Nat) (acc : Int), wr = w.iter a0 pos ∧ v3 = .int .i64 acc ∧ Aside0 (pos ≤ a0.size ∧ a0.size + 1 ≤ pos + q ∧ 0 ≤ acc ∧ acc ≤ pos ∧ acc + ((rl_ a0 q pos).length : Int) = r ∧ bd_ a0 q pos < 0)) (fun _ wr => a0.size - wr.iterPos w.heap.size)
  case atStart => exact ⟨0, a0.size + 1, 0, rfl, rfl, ⟨by omega, by omega, by omega, by omega, by have := H.out; simpa using this, HB.out⟩⟩
  case round =>
    obtain ⟨pos, q, acc, rfl, rfl, HA⟩ := hrel
    obtain ⟨g0, g1, g2, g3, g4, g5⟩ := HA.out
    clear HA H HB
    by_cases hp : pos < a0.size
    · obtain ⟨q, rfl⟩ : ∃ q', q = q' + 1 := ⟨q - 1, by omega⟩
      obtain ⟨hz, g6⟩ := bd_step g5 (by omega) (by omega)
      have hrg := rsize_rng a0 pos
      rw [rl_cons (by omega) hz] at g4
      have hdec := decode_eq hp hz
      obtain ⟨z, hzz⟩ : ∃ z_ : Nat, rsize_ a0 pos = z_ := ⟨(rsize_ a0 pos).toNat, by omega⟩
      rw [hzz] at hz hrg g6 g4 hdec
      have ez : ((pos : Int) + (z : Int)) = ((pos + z : Nat) : Int) := by omega
      rw [ez] at g4 g6
      have hnx : ∀ ty, (Instr.next (.pointer (some ⟨w.heap.size, 0, none⟩)) true ty).run Try.prog (w.iter a0 pos) = .ok (.tuple #[.bool true, .int .i64 pos, .int .i32 (Utf8.decode a0 pos).1]) (w.iter a0 (pos + z)) := fun ty => by
        rw [run_next_any w a0 pos ty hp, hdec, Int.toNat_natCast]
      have G4 := Aside0.mk g4
      have G6 := Aside0.mk g6
      clear g4 g5 g6 hdec hzz ez
      go_wp2
      go_roundw
      case rel =>
        have h4 := G4.out
        rw [List.length_cons] at h4
        exact ⟨pos + z, q, acc + 1, rfl, rfl, ⟨by omega, by omega, by omega, by omega, by omega, G6.out⟩⟩
      case measure =>
        simp
        omega
    · have hnx : ∀ ty, (Instr.next (.pointer (some ⟨w.heap.size, 0, none⟩)) true ty).run Try.prog (w.iter a0 pos) = _ := fun ty => run_next_end w a0 pos ty hp
      rw [rl_end (by omega)] at g4
      simp only [List.length_nil] at g4
      have er : r = acc := by omega
      subst er
      clear g4
      go_wp2
      go_ret
      exact ⟨rfl, by unfold World.iter; exact below_alloc (Below.refl _ _) _⟩


/-! ### runes_boolInt: function 51 -/
def runes_boolInt.f (a0 : Bool) : Option (Int) := if a0 = true then (some 1) else (some 0)
set_option maxHeartbeats 8000000 in
set_option maxRecDepth 100000 in
theorem runes_boolInt.calls (a0 : Bool) (r : Int) (w : World) (h : runes_boolInt.f a0 = some r) :
    Calls Try.prog 51 #[.bool a0] w fun e w' => e = .returned (.int .i64 r) ∧ Drawn0 w w' := by
  have H : (if a0 = true then (some 1) else (some 0)) = some r := h
  clear h
  by_cases c2 : a0 = true
  · subst c2
    have H1 : (some 1) = some r := by rw [if_pos rfl] at H; exact H
    clear H
    have H := H1
    clear H1
    obtain rfl := Option.some.inj H
    go_enter Try.func51, Try.ntmps51
    go_wp2
    go_ret
    exact ⟨by first | rfl | (simp; done) | (simp [*]; done), by repeat (first | exact Drawn0.refl _ | apply Drawn0.step)⟩
  · replace c2 := Bool.eq_false_iff.mpr c2
    subst c2
    have H1 : (some 0) = some r := by rw [if_neg (show ¬ (false = true) by decide)] at H; exact H
    clear H
    have H := H1
    clear H1
    obtain rfl := Option.some.inj H
    go_enter Try.func51, Try.ntmps51
    go_wp2
    go_ret
    exact ⟨by first | rfl | (simp; done) | (simp [*]; done), by repeat (first | exact Drawn0.refl _ | apply Drawn0.step)⟩

/-! ### runes_At: by hand (it ranges over a text) -/
theorem al_cons {s : ByteArray} {q : Nat} {i : Int} (hi : i < s.size) (hz : ¬ rsize_ s i = 0) : al_ s (q + 1) i = i :: al_ s q (i + rsize_ s i) := by
  simp only [al_]; rw [if_pos hi, if_neg hz]
theorem al_end {s : ByteArray} {q : Nat} {i : Int} (hi : ¬ i < s.size) : al_ s q i = [] := by
  cases q with
  | zero => rfl
  | succ q => simp only [al_]; rw [if_neg hi]
def atF_ (l : List Int) (size n : Int) : Int × Bool := match l[n.toNat]? with | some p => (p, true) | none => if n = l.length then (size, true) else (0, false)
def runes_At.f (a0 : ByteArray) (a1 : Int) : Option (Int × Bool) := if (a0.size : Int) ≤ 1000000 then (if right_ a0 = true then (if a1 < 0 then some (0, false) else if a1 ≤ 1000000000 then some (atF_ (al_ a0 (a0.size + 1) 0) a0.size a1) else none) else none) else none
set_option maxHeartbeats 8000000 in
set_option maxRecDepth 100000 in
theorem runes_At.calls (a0 : ByteArray) (a1 : Int) (r1 : Int) (r2 : Bool) (w : World) (h : runes_At.f a0 a1 = some (r1, r2)) :
    Calls Try.prog 36 #[.string a0, .int .i64 a1] w fun e w' => e = .returned (.tuple #[.int .i64 r1, .bool r2]) ∧ Below w.heap.size w w' := by
  unfold runes_At.f at h
  by_cases hsz : (a0.size : Int) ≤ 1000000
  case neg => rw [if_neg hsz] at h; cases h
  rw [if_pos hsz] at h
  by_cases hrt : right_ a0 = true
  case neg => rw [if_neg hrt] at h; cases h
  rw [if_pos hrt] at h
  by_cases c1 : a1 < 0
  · rw [if_pos c1] at h
    simp only [Option.some.injEq, Prod.mk.injEq] at h
    obtain ⟨rfl, rfl⟩ := h
    have c1b : decide (a1 < 0) = true := decide_eq_true c1
    clear hrt c1
    go_enter Try.func36, Try.ntmps36
    go_wp2
    go_ret2
    exact ⟨rfl, Below.refl _ _⟩
  rw [if_neg c1] at h
  by_cases c3 : a1 ≤ 1000000000
  case neg => rw [if_neg c3] at h; cases h
  rw [if_pos c3] at h
  have c1b : decide (a1 < 0) = false := decide_eq_false c1
  obtain ⟨n, rfl⟩ : ∃ n : Nat, a1 = n := ⟨a1.toNat, by omega⟩
  have hbd : bd_ a0 (a0.size + 1) 0 < 0 := of_decide_eq_true hrt
  have H := Aside0.mk (Option.some.inj h)
  have HB := Aside0.mk hbd
  clear h hrt hbd c1
  go_enter Try.func36, Try.ntmps36
  go_wp2
  go_loopw [1] (fun v1 wr => ∃ (pos q m : Nat), wr = w.iter a0 pos ∧ v1 = .int .i64 m ∧ Aside0 (pos ≤ a0.size ∧ a0.size + 1 ≤ pos + q ∧ m ≤ 1000000000 ∧ atF_ (al_ a0 q pos) a0.size m = (r1, r2) ∧ bd_ a0 q pos < 0)) (fun _ wr => a0.size - wr.iterPos w.heap.size)
  case atStart => exact ⟨0, a0.size + 1, n, rfl, rfl, ⟨by omega, by omega, by omega, H.out, HB.out⟩⟩
  case round =>
    obtain ⟨pos, q, m, rfl, rfl, HA⟩ := hrel
    obtain ⟨g0, g1, g2, g4, g5⟩ := HA.out
    clear HA H HB
    by_cases hp : pos < a0.size
    · obtain ⟨q, rfl⟩ : ∃ q', q = q' + 1 := ⟨q - 1, by omega⟩
      obtain ⟨hz, g6⟩ := bd_step g5 (by omega) (by omega)
      have hrg := rsize_rng a0 pos
      rw [al_cons (by omega) hz] at g4
      have hdec := decode_eq hp hz
      obtain ⟨z, hzz⟩ : ∃ z_ : Nat, rsize_ a0 pos = z_ := ⟨(rsize_ a0 pos).toNat, by omega⟩
      rw [hzz] at hz hrg g6 g4 hdec
      have ez : ((pos : Int) + (z : Int)) = ((pos + z : Nat) : Int) := by omega
      rw [ez] at g4 g6
      have hnx : ∀ ty, (Instr.next (.pointer (some ⟨w.heap.size, 0, none⟩)) true ty).run Try.prog (w.iter a0 pos) = .ok (.tuple #[.bool true, .int .i64 pos, .int .i32 (Utf8.decode a0 pos).1]) (w.iter a0 (pos + z)) := fun ty => by
        rw [run_next_any w a0 pos ty hp, hdec, Int.toNat_natCast]
      have G6 := Aside0.mk g6
      by_cases hm : m = 0
      · subst hm
        have hm0 : (((0 : Nat) : Int) == 0) = true := rfl
        have e0 : r1 = pos ∧ r2 = true := by
          simp [atF_] at g4
          exact ⟨g4.1.symm, g4.2⟩
        obtain ⟨rfl, rfl⟩ := e0
        clear g4 g5 g6 hdec hzz ez
        go_wp2
        go_ret2
        exact ⟨rfl, by unfold World.iter; exact below_alloc (Below.refl _ _) _⟩
      · have hm0 : (((m : Nat) : Int) == 0) = false := beq_eq_false_iff_ne.mpr (by omega)
        have e4 : atF_ (al_ a0 q ((pos + z : Nat) : Int)) a0.size ((m - 1 : Nat) : Int) = (r1, r2) := by
          rw [← g4]
          obtain ⟨m', rfl⟩ : ∃ m', m = m' + 1 := ⟨m - 1, by omega⟩
          have t1 : ((m' + 1 : Nat) : Int).toNat = m' + 1 := by omega
          have t2 : ((m' + 1 - 1 : Nat) : Int).toNat = m' := by omega
          unfold atF_
          rw [t1, t2, List.getElem?_cons_succ]
          cases (al_ a0 q ((pos + z : Nat) : Int))[m']? with
          | some p => rfl
          | none =>
            simp only [List.length_cons]
            have e : (((m' + 1 - 1 : Nat) : Int) = ((al_ a0 q ((pos + z : Nat) : Int)).length : Int)) = (((m' + 1 : Nat) : Int) = (((al_ a0 q ((pos + z : Nat) : Int)).length + 1 : Nat) : Int)) := by
              apply propext; omega
            simp only [e]
        have G4 := Aside0.mk e4
        clear g4 g5 g6 hdec hzz ez e4
        go_wp2
        go_roundw
        case rel => exact ⟨pos + z, q, m - 1, rfl, congrArg (Value.int .i64) (by omega), ⟨by omega, by omega, by omega, G4.out, G6.out⟩⟩
        case measure =>
          simp
          omega
    · have hnx : ∀ ty, (Instr.next (.pointer (some ⟨w.heap.size, 0, none⟩)) true ty).run Try.prog (w.iter a0 pos) = _ := fun ty => run_next_end w a0 pos ty hp
      rw [al_end (by omega)] at g4
      clear g5
      by_cases hm : m = 0
      · subst hm
        have hm0 : (((0 : Nat) : Int) == 0) = true := rfl
        have e0 : r1 = a0.size ∧ r2 = true := by
          simp [atF_] at g4
          exact ⟨g4.1.symm, g4.2⟩
        obtain ⟨rfl, rfl⟩ := e0
        clear g4
        go_wp2_with (go_at_call 51; refine (runes_boolInt.calls true 1 _ rfl).mono ?_; rintro e w1 ⟨rfl, ⟨m1, rfl⟩⟩)
        go_ret2
        exact ⟨by first | rfl | (simp; done), by unfold World.iter; repeat (first | exact below_alloc (Below.refl _ _) _ | apply pw_below_drewN)⟩
      · have hm0 : (((m : Nat) : Int) == 0) = false := beq_eq_false_iff_ne.mpr (by omega)
        have e0 : r1 = 0 ∧ r2 = false := by
          have hmn : ¬ (m : Int) = 0 := by omega
          simp [atF_, hm] at g4
          exact ⟨g4.1.symm, g4.2⟩
        obtain ⟨rfl, rfl⟩ := e0
        clear g4
        go_wp2_with (go_at_call 51; refine (runes_boolInt.calls false 0 _ rfl).mono ?_; rintro e w1 ⟨rfl, ⟨m1, rfl⟩⟩)
        go_ret2
        exact ⟨by first | rfl | (simp; done), by unfold World.iter; repeat (first | exact below_alloc (Below.refl _ _) _ | apply pw_below_drewN)⟩


/-! ### strings_Repeat: by the shelf -/
def strings_Repeat.f (a0 : ByteArray) (a1 : Int) : Option ByteArray := if 0 ≤ a1 ∧ a1 ≤ 1000000 ∧ a0.size ≤ 1000000 then some ⟨(Lib.repeatL a0.data.toList a1.toNat).toArray⟩ else none
theorem strings_Repeat.calls (a0 : ByteArray) (a1 : Int) (r : ByteArray) (w : World) (h : strings_Repeat.f a0 a1 = some r) :
    Calls Try.prog 37 #[.string a0, .int .i64 a1] w fun e w' => e = .returned (.string r) ∧ Below w.heap.size w w' := by
  unfold strings_Repeat.f at h
  by_cases c : 0 ≤ a1 ∧ a1 ≤ 1000000 ∧ a0.size ≤ 1000000
  case neg => rw [if_neg c] at h; cases h
  rw [if_pos c] at h
  obtain rfl := Option.some.inj h
  obtain ⟨n, rfl⟩ : ∃ n : Nat, a1 = n := ⟨a1.toNat, by omega⟩
  rw [Int.toNat_natCast]
  refine Try.strings_Repeat a0 n w (by omega) ?_
  have h1 : a0.size * n ≤ 1000000 * 1000000 := Nat.mul_le_mul c.2.2 (by omega)
  omega


/-! ### outline_Row: function 18 -/
def outline_Row.j0 : Nat → Int → ByteArray → Bool → ByteArray → Int → Int → Option (ByteArray)
  | 0, _, _, _, _, _, _ => none
  | k + 1, x2, x7, x29, x107000, x107001, x107002 => if x29 = true then (some x7) else ((runes_Count.f x107000).bind fun t108 => (if t108 > (wrap64 ((wrap64 (x2 - (x7.size : Int))) - 2)) then ((runes_At.f x107000 (wrap64 ((wrap64 (x2 - (x7.size : Int))) - 2))).bind fun bt109 => (if 0 ≤ bt109.1 then (if bt109.1 ≤ (x107000.size : Int) then (if (x107000.extract 0 (bt109.1 : Int).toNat).size + 1 ≤ 9223372036854775807 then ((runes_Count.f (x107000.extract 0 (bt109.1 : Int).toNat)).bind fun t111 => ((strings_Repeat.f (⟨#[46]⟩ : ByteArray) (wrap64 ((wrap64 ((wrap64 (x2 - (x7.size : Int))) - 2)) - t111))).bind fun t112 => (if ((x107000.extract 0 (bt109.1 : Int).toNat) ++ (⟨#[32]⟩ : ByteArray)).size + t112.size ≤ 9223372036854775807 then (if (((x107000.extract 0 (bt109.1 : Int).toNat) ++ (⟨#[32]⟩ : ByteArray)) ++ t112).size + 1 ≤ 9223372036854775807 then (if ((((x107000.extract 0 (bt109.1 : Int).toNat) ++ (⟨#[32]⟩ : ByteArray)) ++ t112) ++ (⟨#[32]⟩ : ByteArray)).size + x7.size ≤ 9223372036854775807 then (some (((((x107000.extract 0 (bt109.1 : Int).toNat) ++ (⟨#[32]⟩ : ByteArray)) ++ t112) ++ (⟨#[32]⟩ : ByteArray)) ++ x7)) else (none)) else (none)) else (none)))) else (none)) else (none)) else (none))) else (if x107000.size + 1 ≤ 9223372036854775807 then ((runes_Count.f x107000).bind fun t113 => ((strings_Repeat.f (⟨#[46]⟩ : ByteArray) (wrap64 ((wrap64 ((wrap64 (x2 - (x7.size : Int))) - 2)) - t113))).bind fun t114 => (if (x107000 ++ (⟨#[32]⟩ : ByteArray)).size + t114.size ≤ 9223372036854775807 then (if ((x107000 ++ (⟨#[32]⟩ : ByteArray)) ++ t114).size + 1 ≤ 9223372036854775807 then (if (((x107000 ++ (⟨#[32]⟩ : ByteArray)) ++ t114) ++ (⟨#[32]⟩ : ByteArray)).size + x7.size ≤ 9223372036854775807 then (some ((((x107000 ++ (⟨#[32]⟩ : ByteArray)) ++ t114) ++ (⟨#[32]⟩ : ByteArray)) ++ x7)) else (none)) else (none)) else (none)))) else (none))))
def outline_Row.f (k : Nat) (a0_0 : ByteArray) (a0_1 : Int) (a0_2 : Int) (a1 : Int) (a2 : Int) : Option (ByteArray) := (outline_Label.f k a0_1 a1).bind fun t107 => (if a2 < 0 then (outline_Row.j0 k a2 t107 true a0_0 a0_1 a0_2) else (if a2 > 65536 then (outline_Row.j0 k a2 t107 true a0_0 a0_1 a0_2) else (outline_Row.j0 k a2 t107 (decide ((wrap64 ((wrap64 (a2 - (t107.size : Int))) - 2)) < 1)) a0_0 a0_1 a0_2)))
theorem outline_Row.mono_l : ∀ k, (∀ y0 y1 y2 y3 y4 y5, LeO (outline_Row.j0 k y0 y1 y2 y3 y4 y5) (outline_Row.j0 (k + 1) y0 y1 y2 y3 y4 y5))
  | 0 => fun _ _ _ _ _ _ r h => by simp [outline_Row.j0] at h
  | k + 1 => by
    have ih0 := outline_Row.mono_l k
    · intro y0 y1 y2 y3 y4 y5
      unfold outline_Row.j0
      repeat' first
      | (with_reducible exact ih0 _ _ _ _ _ _)
      | (with_reducible exact outline_Label.mono _ _ _)
      | (with_reducible exact LeO.refl _)
      | (with_reducible exact LeO.none _)
      | (with_reducible refine LeO.ite ?_ ?_)
      | (with_reducible refine LeO.bind ?_ (fun _ => ?_))
      | exact ih0 _ _ _ _ _ _
      | exact outline_Label.mono _ _ _
      | exact LeO.none _
      | refine LeO.ite ?_ ?_
      | refine LeO.bind ?_ (fun _ => ?_)
theorem outline_Row.mono : ∀ a0 a1 a2 a3 a4 k, LeO (outline_Row.f k a0 a1 a2 a3 a4) (outline_Row.f (k + 1) a0 a1 a2 a3 a4) := by
  intro a0 a1 a2 a3 a4 k
  have ih0 := outline_Row.mono_l k
  unfold outline_Row.f
  repeat' first
      | (with_reducible exact ih0 _ _ _ _ _ _)
      | (with_reducible exact outline_Label.mono _ _ _)
      | (with_reducible exact LeO.refl _)
      | (with_reducible exact LeO.none _)
      | (with_reducible refine LeO.ite ?_ ?_)
      | (with_reducible refine LeO.bind ?_ (fun _ => ?_))
      | exact ih0 _ _ _ _ _ _
      | exact outline_Label.mono _ _ _
      | exact LeO.none _
      | refine LeO.ite ?_ ?_
      | refine LeO.bind ?_ (fun _ => ?_)
set_option maxHeartbeats 8000000 in
set_option maxRecDepth 100000 in
theorem outline_Row.calls (k : Nat) (a0_0 : ByteArray) (a0_1 : Int) (a0_2 : Int) (a1 : Int) (a2 : Int) (r : ByteArray) (w : World) (h : outline_Row.f k a0_0 a0_1 a0_2 a1 a2 = some r) :
    Calls Try.prog 18 #[.agg #[.string a0_0, .int .i64 a0_1, .int .i64 a0_2], .int .i64 a1, .int .i64 a2] w fun e w' => e = .returned (.string r) ∧ Below w.heap.size w w' := by
  have hu28 := Try.underlying28
  have HB := Aside0.mk (Below.refl w.heap.size w)
  have H : ((outline_Label.f k a0_1 a1).bind fun t107 => (if a2 < 0 then (outline_Row.j0 k a2 t107 true a0_0 a0_1 a0_2) else (if a2 > 65536 then (outline_Row.j0 k a2 t107 true a0_0 a0_1 a0_2) else (outline_Row.j0 k a2 t107 (decide ((wrap64 ((wrap64 (a2 - (t107.size : Int))) - 2)) < 1)) a0_0 a0_1 a0_2)))) = some r := h
  clear h
  replace H := Option.bind_eq_some_iff.mp H
  obtain ⟨t107, A40, H⟩ := H
  replace H : (if a2 < 0 then (outline_Row.j0 k a2 t107 true a0_0 a0_1 a0_2) else (if a2 > 65536 then (outline_Row.j0 k a2 t107 true a0_0 a0_1 a0_2) else (outline_Row.j0 k a2 t107 (decide ((wrap64 ((wrap64 (a2 - (t107.size : Int))) - 2)) < 1)) a0_0 a0_1 a0_2))) = some r := H
  have A4 := Aside0.mk A40
  clear A40
  have HC5 := Aside0.mk H
  clear H
  go_enter Try.func18, Try.ntmps18
  go_upto_region 2 with (first | ((with_reducible refine gate_dst (N := 3) rfl ?_); (try (refine gate_guard (by rfl) ?_; dsimp only)); refine box_event ?hg (N := 3) ?hd (cs := #[.string a0_0, .int .i64 a0_1, .int .i64 a0_2]) (t := 28) ?hr ?_; (case hd => rfl); (case hg => rfl); (case hr => first | (go_simp; done) | (go_simp; rfl)); intro gb106 hg w6 hbox hb; have n0_ := Aside0.mk (below_step (by repeat (first | (with_reducible first | exact HB.out | apply below_alloc | apply pw_below_drewN | apply below_drew1) | exact HB.out)) hb); have n1_ := Aside0.mk (hbox); have n2_ := Aside0.mk ((by rw [hg]; exact (below_size (by repeat (first | (with_reducible first | exact HB.out | apply below_alloc | apply pw_below_drewN | apply below_drew1) | exact HB.out))) : w.heap.size ≤ gb106)); have n3_ := Aside0.mk ((by rw [hg]; exact (below_size (by repeat (first | (with_reducible first | exact HB.out | apply below_alloc | apply pw_below_drewN | apply below_drew1) | exact HB.out))) : w.heap.size ≤ gb106)); clear HB; have HB := n0_; have BK106 := n1_; have GW106 := n2_; have GE106 := n3_; clear n0_ n1_ n2_ n3_; clear hb hbox hg; have hcz7_0 : w6.cell? ⟨gb106, 0, none⟩ = some (.string a0_0) := (blk_cell BK106.out 0).trans rfl; have hcz7_1 : w6.cell? ⟨gb106, 1, none⟩ = some (.int .i64 a0_1) := (blk_cell BK106.out 1).trans rfl; have hcz7_2 : w6.cell? ⟨gb106, 2, none⟩ = some (.int .i64 a0_2) := (blk_cell BK106.out 2).trans rfl; have hfz7_0 := blk_frozen BK106.out 0; have hfz7_1 := blk_frozen BK106.out 1; have hfz7_2 := blk_frozen BK106.out 2) | ((with_reducible refine gate_callee (f := 15) rfl ?_); refine goesL_ (some 15) rfl rfl Try.func15 (by kernel_rfl) rfl #[.int .i64 a0_1, .int .i64 a1] rfl (by (try simp only [List.map_toArray, List.map_cons, List.map_nil]); first | done | rfl | (simp only [List.length_drop, List.length_take]; rfl)) ?_; (with_reducible refine (outline_Label.calls k a0_1 a1 t107 _ A4.out).mono ?_); rintro e w8 ⟨rfl, hb⟩; refine ⟨_, rfl, ?_⟩; have n0_ := Aside0.mk (blk_below (g := gb106) (o := .cells #[.string a0_0, .int .i64 a0_1, .int .i64 a0_2] 28 (0, 0)) (by (with_reducible repeat (first | refine blk_drewN ?_ _ | refine blk_drew ?_ | refine blk_alloc ?_ _)); exact BK106.out) hb); have n1_ := Aside0.mk (below_step (by repeat (first | (with_reducible first | exact HB.out | apply below_alloc | apply pw_below_drewN | apply below_drew1 | refine below_set ?_ GE106.out) | exact HB.out)) hb); clear BK106; clear HB; have BK106 := n0_; have HB := n1_; clear n0_ n1_; (try clear hb); (try clear hb2); (try clear hk); (try clear hi)))
  (try simp only [Act.put, List.setIfInBounds_toArray, List.set_cons_zero, List.set_cons_succ])
  go_cut [29] (fun v29 wc => ∃ (kq : Nat) (x29_4 : Bool), v29 = .bool x29_4 ∧ Aside0 (outline_Row.j0 kq a2 t107 x29_4 a0_0 a0_1 a0_2 = some r) ∧ Aside0 (kq ≤ k) ∧ Aside0 (wc.heap[gb106]? = some (.cells #[.string a0_0, .int .i64 a0_1, .int .i64 a0_2] 28 (0, 0))) ∧ Aside0 (Below w.heap.size w wc))
  case first =>
    have H := HC5.out
    clear HC5
    by_cases c9 : a2 < 0
    · rw [if_pos c9] at H
      have c9b0 : decide (a2 < 0) = true := decide_eq_true c9
      clear c9
      (first | rw [c9b0] | (simp only [i64_w, i32_w]; rw [c9b0]) | skip)
      have H' := Aside0.mk H
      clear H
      go_wp2
      go_meet
      case rel => exact ⟨_, (true), (by first | rfl | (simp; done) | (simp [*]; done)), H', ⟨by first | omega | exact Nat.le_refl _⟩, ⟨by (with_reducible repeat (first | refine blk_drewN ?_ _ | refine blk_drew ?_ | refine blk_alloc ?_ _)); exact BK106.out⟩, ⟨by repeat (first | (with_reducible first | exact HB.out | apply below_alloc | apply pw_below_drewN | apply below_drew1 | refine below_set ?_ GE106.out) | exact HB.out)⟩⟩
    · rw [if_neg c9] at H
      have c9b0 : decide (a2 < 0) = false := decide_eq_false c9
      clear c9
      (first | rw [c9b0] | (simp only [i64_w, i32_w]; rw [c9b0]) | skip)
      by_cases c10 : a2 > 65536
      · rw [if_pos c10] at H
        have c10b0 : decide (65536 < a2) = true := decide_eq_true c10
        clear c10
        have H' := Aside0.mk H
        clear H
        go_wp2
        go_meet
        case rel => exact ⟨_, (true), (by first | rfl | (simp; done) | (simp [*]; done)), H', ⟨by first | omega | exact Nat.le_refl _⟩, ⟨by (with_reducible repeat (first | refine blk_drewN ?_ _ | refine blk_drew ?_ | refine blk_alloc ?_ _)); exact BK106.out⟩, ⟨by repeat (first | (with_reducible first | exact HB.out | apply below_alloc | apply pw_below_drewN | apply below_drew1 | refine below_set ?_ GE106.out) | exact HB.out)⟩⟩
      · rw [if_neg c10] at H
        have c10b0 : decide (65536 < a2) = false := decide_eq_false c10
        clear c10
        have H' := Aside0.mk H
        clear H
        go_wp2
        go_meet
        case rel => exact ⟨_, (decide ((wrap64 ((wrap64 (a2 - (t107.size : Int))) - 2)) < 1)), (by first | rfl | (simp; done) | (simp [*]; done)), H', ⟨by first | omega | exact Nat.le_refl _⟩, ⟨by (with_reducible repeat (first | refine blk_drewN ?_ _ | refine blk_drew ?_ | refine blk_alloc ?_ _)); exact BK106.out⟩, ⟨by repeat (first | (with_reducible first | exact HB.out | apply below_alloc | apply pw_below_drewN | apply below_drew1 | refine below_set ?_ GE106.out) | exact HB.out)⟩⟩
  case rest =>
    clear HC5
    try clear c1
    try clear p2
    try clear p6
    try clear c9
    try clear c9b0
    try clear c10
    try clear c10b0
    try clear hcz7_0
    try clear hcz7_1
    try clear hcz7_2
    try clear hfz7_0
    try clear hfz7_1
    try clear hfz7_2
    obtain ⟨kq, x29_4, rfl, HA, HJ4, BK106, HB⟩ := hcut
    cases kq with
    | zero => exact absurd HA.out (by simp [outline_Row.j0])
    | succ kj4 =>
      have H := HA.out
      clear HA
      simp only [outline_Row.j0] at H
      by_cases c11 : x29_4 = true
      · subst c11
        have H1 : (some t107) = some r := by rw [if_pos rfl] at H; exact H
        clear H
        have H := H1
        clear H1
        obtain rfl := Option.some.inj H
        go_wp2
        go_ret
        exact ⟨by first | rfl | (simp [errW_none, errW_some] <;> rfl) | (simp [*, errW_none, errW_some] <;> rfl), by repeat (first | (with_reducible first | exact HB.out | apply below_alloc | apply pw_below_drewN | apply below_drew1 | refine below_set ?_ GE106.out) | exact HB.out)⟩
      · replace c11 := Bool.eq_false_iff.mpr c11
        subst c11
        have H1 : ((runes_Count.f a0_0).bind fun t108 => (if t108 > (wrap64 ((wrap64 (a2 - (t107.size : Int))) - 2)) then ((runes_At.f a0_0 (wrap64 ((wrap64 (a2 - (t107.size : Int))) - 2))).bind fun bt109 => (if 0 ≤ bt109.1 then (if bt109.1 ≤ (a0_0.size : Int) then (if (a0_0.extract 0 (bt109.1 : Int).toNat).size + 1 ≤ 9223372036854775807 then ((runes_Count.f (a0_0.extract 0 (bt109.1 : Int).toNat)).bind fun t111 => ((strings_Repeat.f (⟨#[46]⟩ : ByteArray) (wrap64 ((wrap64 ((wrap64 (a2 - (t107.size : Int))) - 2)) - t111))).bind fun t112 => (if ((a0_0.extract 0 (bt109.1 : Int).toNat) ++ (⟨#[32]⟩ : ByteArray)).size + t112.size ≤ 9223372036854775807 then (if (((a0_0.extract 0 (bt109.1 : Int).toNat) ++ (⟨#[32]⟩ : ByteArray)) ++ t112).size + 1 ≤ 9223372036854775807 then (if ((((a0_0.extract 0 (bt109.1 : Int).toNat) ++ (⟨#[32]⟩ : ByteArray)) ++ t112) ++ (⟨#[32]⟩ : ByteArray)).size + t107.size ≤ 9223372036854775807 then (some (((((a0_0.extract 0 (bt109.1 : Int).toNat) ++ (⟨#[32]⟩ : ByteArray)) ++ t112) ++ (⟨#[32]⟩ : ByteArray)) ++ t107)) else (none)) else (none)) else (none)))) else (none)) else (none)) else (none))) else (if a0_0.size + 1 ≤ 9223372036854775807 then ((runes_Count.f a0_0).bind fun t113 => ((strings_Repeat.f (⟨#[46]⟩ : ByteArray) (wrap64 ((wrap64 ((wrap64 (a2 - (t107.size : Int))) - 2)) - t113))).bind fun t114 => (if (a0_0 ++ (⟨#[32]⟩ : ByteArray)).size + t114.size ≤ 9223372036854775807 then (if ((a0_0 ++ (⟨#[32]⟩ : ByteArray)) ++ t114).size + 1 ≤ 9223372036854775807 then (if (((a0_0 ++ (⟨#[32]⟩ : ByteArray)) ++ t114) ++ (⟨#[32]⟩ : ByteArray)).size + t107.size ≤ 9223372036854775807 then (some ((((a0_0 ++ (⟨#[32]⟩ : ByteArray)) ++ t114) ++ (⟨#[32]⟩ : ByteArray)) ++ t107)) else (none)) else (none)) else (none)))) else (none)))) = some r := by rw [if_neg (show ¬ (false = true) by decide)] at H; exact H
        clear H
        have H := H1
        clear H1
        replace H := Option.bind_eq_some_iff.mp H
        obtain ⟨t108, A120, H⟩ := H
        replace H : (if t108 > (wrap64 ((wrap64 (a2 - (t107.size : Int))) - 2)) then ((runes_At.f a0_0 (wrap64 ((wrap64 (a2 - (t107.size : Int))) - 2))).bind fun bt109 => (if 0 ≤ bt109.1 then (if bt109.1 ≤ (a0_0.size : Int) then (if (a0_0.extract 0 (bt109.1 : Int).toNat).size + 1 ≤ 9223372036854775807 then ((runes_Count.f (a0_0.extract 0 (bt109.1 : Int).toNat)).bind fun t111 => ((strings_Repeat.f (⟨#[46]⟩ : ByteArray) (wrap64 ((wrap64 ((wrap64 (a2 - (t107.size : Int))) - 2)) - t111))).bind fun t112 => (if ((a0_0.extract 0 (bt109.1 : Int).toNat) ++ (⟨#[32]⟩ : ByteArray)).size + t112.size ≤ 9223372036854775807 then (if (((a0_0.extract 0 (bt109.1 : Int).toNat) ++ (⟨#[32]⟩ : ByteArray)) ++ t112).size + 1 ≤ 9223372036854775807 then (if ((((a0_0.extract 0 (bt109.1 : Int).toNat) ++ (⟨#[32]⟩ : ByteArray)) ++ t112) ++ (⟨#[32]⟩ : ByteArray)).size + t107.size ≤ 9223372036854775807 then (some (((((a0_0.extract 0 (bt109.1 : Int).toNat) ++ (⟨#[32]⟩ : ByteArray)) ++ t112) ++ (⟨#[32]⟩ : ByteArray)) ++ t107)) else (none)) else (none)) else (none)))) else (none)) else (none)) else (none))) else (if a0_0.size + 1 ≤ 9223372036854775807 then ((runes_Count.f a0_0).bind fun t113 => ((strings_Repeat.f (⟨#[46]⟩ : ByteArray) (wrap64 ((wrap64 ((wrap64 (a2 - (t107.size : Int))) - 2)) - t113))).bind fun t114 => (if (a0_0 ++ (⟨#[32]⟩ : ByteArray)).size + t114.size ≤ 9223372036854775807 then (if ((a0_0 ++ (⟨#[32]⟩ : ByteArray)) ++ t114).size + 1 ≤ 9223372036854775807 then (if (((a0_0 ++ (⟨#[32]⟩ : ByteArray)) ++ t114) ++ (⟨#[32]⟩ : ByteArray)).size + t107.size ≤ 9223372036854775807 then (some ((((a0_0 ++ (⟨#[32]⟩ : ByteArray)) ++ t114) ++ (⟨#[32]⟩ : ByteArray)) ++ t107)) else (none)) else (none)) else (none)))) else (none))) = some r := H
        have A12 := Aside0.mk A120
        clear A120
        by_cases c13 : t108 > (wrap64 ((wrap64 (a2 - (t107.size : Int))) - 2))
        · rw [if_pos c13] at H
          have c13b0 : decide ((wrap64 ((wrap64 (a2 - (t107.size : Int))) - 2)) < t108) = true := decide_eq_true c13
          clear c13
          replace H := Option.bind_eq_some_iff.mp H
          obtain ⟨⟨t109, t110⟩, A140, H⟩ := H
          replace H : (if 0 ≤ t109 then (if t109 ≤ (a0_0.size : Int) then (if (a0_0.extract 0 (t109 : Int).toNat).size + 1 ≤ 9223372036854775807 then ((runes_Count.f (a0_0.extract 0 (t109 : Int).toNat)).bind fun t111 => ((strings_Repeat.f (⟨#[46]⟩ : ByteArray) (wrap64 ((wrap64 ((wrap64 (a2 - (t107.size : Int))) - 2)) - t111))).bind fun t112 => (if ((a0_0.extract 0 (t109 : Int).toNat) ++ (⟨#[32]⟩ : ByteArray)).size + t112.size ≤ 9223372036854775807 then (if (((a0_0.extract 0 (t109 : Int).toNat) ++ (⟨#[32]⟩ : ByteArray)) ++ t112).size + 1 ≤ 9223372036854775807 then (if ((((a0_0.extract 0 (t109 : Int).toNat) ++ (⟨#[32]⟩ : ByteArray)) ++ t112) ++ (⟨#[32]⟩ : ByteArray)).size + t107.size ≤ 9223372036854775807 then (some (((((a0_0.extract 0 (t109 : Int).toNat) ++ (⟨#[32]⟩ : ByteArray)) ++ t112) ++ (⟨#[32]⟩ : ByteArray)) ++ t107)) else (none)) else (none)) else (none)))) else (none)) else (none)) else (none)) = some r := H
          have A14 := Aside0.mk A140
          clear A140
          by_cases c15 : 0 ≤ t109
          · rw [if_pos c15] at H
            have c15b0 := eq_true c15
            have c15b1 : decide (0 ≤ t109) = true := decide_eq_true c15
            clear c15
            by_cases c16 : t109 ≤ (a0_0.size : Int)
            · rw [if_pos c16] at H
              have c16b0 := eq_true c16
              have c16b1 : decide (t109 ≤ (a0_0.size : Int)) = true := decide_eq_true c16
              clear c16
              by_cases c17 : (a0_0.extract 0 (t109 : Int).toNat).size + 1 ≤ 9223372036854775807
              · rw [if_pos c17] at H
                have c17b0 := eq_true c17
                have c17b1 : decide ((a0_0.extract 0 (t109 : Int).toNat).size + 1 ≤ 9223372036854775807) = true := decide_eq_true c17
                try have c17b2 : (9223372036854775807 < (a0_0.extract 0 (t109 : Int).toNat).size + 1) = False := eq_false (Nat.not_lt.2 c17)
                (try (have c17b3 := c17b2; simp only [ByteArray.size_append] at c17b3))
                (try (have c17b4 : (9223372036854775807 < t109.toNat + 1) = False := eq_false (by have g0_ : t109 ≤ (a0_0.size : Int) := of_decide_eq_true (by assumption); have h_ := c17; simp [ByteArray.size_extract] at h_; simp; omega)))
                replace H := Option.bind_eq_some_iff.mp H
                obtain ⟨t111, A180, H⟩ := H
                replace H : ((strings_Repeat.f (⟨#[46]⟩ : ByteArray) (wrap64 ((wrap64 ((wrap64 (a2 - (t107.size : Int))) - 2)) - t111))).bind fun t112 => (if ((a0_0.extract 0 (t109 : Int).toNat) ++ (⟨#[32]⟩ : ByteArray)).size + t112.size ≤ 9223372036854775807 then (if (((a0_0.extract 0 (t109 : Int).toNat) ++ (⟨#[32]⟩ : ByteArray)) ++ t112).size + 1 ≤ 9223372036854775807 then (if ((((a0_0.extract 0 (t109 : Int).toNat) ++ (⟨#[32]⟩ : ByteArray)) ++ t112) ++ (⟨#[32]⟩ : ByteArray)).size + t107.size ≤ 9223372036854775807 then (some (((((a0_0.extract 0 (t109 : Int).toNat) ++ (⟨#[32]⟩ : ByteArray)) ++ t112) ++ (⟨#[32]⟩ : ByteArray)) ++ t107)) else (none)) else (none)) else (none))) = some r := H
                have A18 := Aside0.mk A180
                clear A180
                replace H := Option.bind_eq_some_iff.mp H
                obtain ⟨t112, A190, H⟩ := H
                replace H : (if ((a0_0.extract 0 (t109 : Int).toNat) ++ (⟨#[32]⟩ : ByteArray)).size + t112.size ≤ 9223372036854775807 then (if (((a0_0.extract 0 (t109 : Int).toNat) ++ (⟨#[32]⟩ : ByteArray)) ++ t112).size + 1 ≤ 9223372036854775807 then (if ((((a0_0.extract 0 (t109 : Int).toNat) ++ (⟨#[32]⟩ : ByteArray)) ++ t112) ++ (⟨#[32]⟩ : ByteArray)).size + t107.size ≤ 9223372036854775807 then (some (((((a0_0.extract 0 (t109 : Int).toNat) ++ (⟨#[32]⟩ : ByteArray)) ++ t112) ++ (⟨#[32]⟩ : ByteArray)) ++ t107)) else (none)) else (none)) else (none)) = some r := H
                have A19 := Aside0.mk A190
                clear A190
                by_cases c20 : ((a0_0.extract 0 (t109 : Int).toNat) ++ (⟨#[32]⟩ : ByteArray)).size + t112.size ≤ 9223372036854775807
                · rw [if_pos c20] at H
                  have c20b0 := eq_true c20
                  have c20b1 : decide (((a0_0.extract 0 (t109 : Int).toNat) ++ (⟨#[32]⟩ : ByteArray)).size + t112.size ≤ 9223372036854775807) = true := decide_eq_true c20
                  try have c20b2 : (9223372036854775807 < ((a0_0.extract 0 (t109 : Int).toNat) ++ (⟨#[32]⟩ : ByteArray)).size + t112.size) = False := eq_false (Nat.not_lt.2 c20)
                  (try (have c20b3 := c20b2; simp only [ByteArray.size_append] at c20b3))
                  (try (have c20b4 : (9223372036854775807 < t109.toNat + 1 + (t112).size) = False := eq_false (by have g0_ : t109 ≤ (a0_0.size : Int) := of_decide_eq_true (by assumption); have l0_ : (⟨#[32]⟩ : ByteArray).size = 1 := rfl; have h_ := c20; simp [ByteArray.size_extract] at h_; simp; omega)))
                  by_cases c21 : (((a0_0.extract 0 (t109 : Int).toNat) ++ (⟨#[32]⟩ : ByteArray)) ++ t112).size + 1 ≤ 9223372036854775807
                  · rw [if_pos c21] at H
                    have c21b0 := eq_true c21
                    have c21b1 : decide ((((a0_0.extract 0 (t109 : Int).toNat) ++ (⟨#[32]⟩ : ByteArray)) ++ t112).size + 1 ≤ 9223372036854775807) = true := decide_eq_true c21
                    try have c21b2 : (9223372036854775807 < (((a0_0.extract 0 (t109 : Int).toNat) ++ (⟨#[32]⟩ : ByteArray)) ++ t112).size + 1) = False := eq_false (Nat.not_lt.2 c21)
                    (try (have c21b3 := c21b2; simp only [ByteArray.size_append] at c21b3))
                    (try (have c21b4 : (9223372036854775807 < t109.toNat + 1 + (t112).size + 1) = False := eq_false (by have g0_ : t109 ≤ (a0_0.size : Int) := of_decide_eq_true (by assumption); have l0_ : (⟨#[32]⟩ : ByteArray).size = 1 := rfl; have h_ := c21; simp [ByteArray.size_extract] at h_; simp; omega)))
                    by_cases c22 : ((((a0_0.extract 0 (t109 : Int).toNat) ++ (⟨#[32]⟩ : ByteArray)) ++ t112) ++ (⟨#[32]⟩ : ByteArray)).size + t107.size ≤ 9223372036854775807
                    · rw [if_pos c22] at H
                      have c22b0 := eq_true c22
                      have c22b1 : decide (((((a0_0.extract 0 (t109 : Int).toNat) ++ (⟨#[32]⟩ : ByteArray)) ++ t112) ++ (⟨#[32]⟩ : ByteArray)).size + t107.size ≤ 9223372036854775807) = true := decide_eq_true c22
                      try have c22b2 : (9223372036854775807 < ((((a0_0.extract 0 (t109 : Int).toNat) ++ (⟨#[32]⟩ : ByteArray)) ++ t112) ++ (⟨#[32]⟩ : ByteArray)).size + t107.size) = False := eq_false (Nat.not_lt.2 c22)
                      (try (have c22b3 := c22b2; simp only [ByteArray.size_append] at c22b3))
                      (try (have c22b4 : (9223372036854775807 < t109.toNat + 1 + (t112).size + 1 + (t107).size) = False := eq_false (by have g0_ : t109 ≤ (a0_0.size : Int) := of_decide_eq_true (by assumption); have l0_ : (⟨#[32]⟩ : ByteArray).size = 1 := rfl; have h_ := c22; simp [ByteArray.size_extract] at h_; simp; omega)))
                      obtain rfl := Option.some.inj H
                      have hcz23_0 : wc.cell? ⟨gb106, 0, none⟩ = some (.string a0_0) := (blk_cell BK106.out 0).trans rfl
                      have hcz23_1 : wc.cell? ⟨gb106, 1, none⟩ = some (.int .i64 a0_1) := (blk_cell BK106.out 1).trans rfl
                      have hcz23_2 : wc.cell? ⟨gb106, 2, none⟩ = some (.int .i64 a0_2) := (blk_cell BK106.out 2).trans rfl
                      have hfz23_0 := blk_frozen BK106.out 0
                      have hfz23_1 := blk_frozen BK106.out 1
                      have hfz23_2 := blk_frozen BK106.out 2
                      go_wp2_with (first | ((with_reducible refine gate_callee (f := 35) rfl ?_); refine goesL_ (some 39) rfl rfl Try.func35 (by kernel_rfl) rfl #[.string a0_0] rfl (by (try simp only [List.map_toArray, List.map_cons, List.map_nil]); first | done | rfl | (simp only [List.length_drop, List.length_take]; rfl)) ?_; (with_reducible refine (runes_Count.calls a0_0 t108 _ A12.out).mono ?_); rintro e w24 ⟨rfl, hb⟩; refine ⟨_, rfl, ?_⟩; have n0_ := Aside0.mk (blk_below (g := gb106) (o := .cells #[.string a0_0, .int .i64 a0_1, .int .i64 a0_2] 28 (0, 0)) (by (with_reducible repeat (first | refine blk_drewN ?_ _ | refine blk_drew ?_ | refine blk_alloc ?_ _)); exact BK106.out) hb); have n1_ := Aside0.mk (below_step (by repeat (first | (with_reducible first | exact HB.out | apply below_alloc | apply pw_below_drewN | apply below_drew1 | refine below_set ?_ GE106.out) | exact HB.out)) hb); clear BK106; clear HB; have BK106 := n0_; have HB := n1_; clear n0_ n1_; (try clear hb); (try clear hb2); (try clear hk); (try clear hi)) | ((with_reducible refine gate_callee (f := 36) rfl ?_); refine goesL_ (some 45) rfl rfl Try.func36 (by kernel_rfl) rfl #[.string a0_0, .int .i64 (wrap64 ((wrap64 (a2 - (t107.size : Int))) - 2))] rfl (by (try simp only [List.map_toArray, List.map_cons, List.map_nil]); first | done | rfl | (simp only [List.length_drop, List.length_take]; rfl)) ?_; (with_reducible refine (runes_At.calls a0_0 (wrap64 ((wrap64 (a2 - (t107.size : Int))) - 2)) t109 t110 _ A14.out).mono ?_); rintro e w25 ⟨rfl, hb⟩; refine ⟨_, rfl, ?_⟩; have n0_ := Aside0.mk (blk_below (g := gb106) (o := .cells #[.string a0_0, .int .i64 a0_1, .int .i64 a0_2] 28 (0, 0)) (by (with_reducible repeat (first | refine blk_drewN ?_ _ | refine blk_drew ?_ | refine blk_alloc ?_ _)); exact BK106.out) hb); have n1_ := Aside0.mk (below_step (by repeat (first | (with_reducible first | exact HB.out | apply below_alloc | apply pw_below_drewN | apply below_drew1 | refine below_set ?_ GE106.out) | exact HB.out)) hb); clear BK106; clear HB; have BK106 := n0_; have HB := n1_; clear n0_ n1_; (try clear hb); (try clear hb2); (try clear hk); (try clear hi)) | ((with_reducible refine gate_callee (f := 35) rfl ?_); refine goesL_ (some 55) rfl rfl Try.func35 (by kernel_rfl) rfl #[.string (a0_0.extract 0 (t109 : Int).toNat)] rfl (by (try simp only [List.map_toArray, List.map_cons, List.map_nil]); first | done | rfl | (simp only [List.length_drop, List.length_take]; rfl)) ?_; (with_reducible refine (runes_Count.calls (a0_0.extract 0 (t109 : Int).toNat) t111 _ A18.out).mono ?_); rintro e w26 ⟨rfl, hb⟩; refine ⟨_, rfl, ?_⟩; have n0_ := Aside0.mk (blk_below (g := gb106) (o := .cells #[.string a0_0, .int .i64 a0_1, .int .i64 a0_2] 28 (0, 0)) (by (with_reducible repeat (first | refine blk_drewN ?_ _ | refine blk_drew ?_ | refine blk_alloc ?_ _)); exact BK106.out) hb); have n1_ := Aside0.mk (below_step (by repeat (first | (with_reducible first | exact HB.out | apply below_alloc | apply pw_below_drewN | apply below_drew1 | refine below_set ?_ GE106.out) | exact HB.out)) hb); clear BK106; clear HB; have BK106 := n0_; have HB := n1_; clear n0_ n1_; (try clear hb); (try clear hb2); (try clear hk); (try clear hi)) | ((with_reducible refine gate_callee (f := 37) rfl ?_); refine goesL_ (some 57) rfl rfl Try.func37 (by kernel_rfl) rfl #[.string (⟨#[46]⟩ : ByteArray), .int .i64 (wrap64 ((wrap64 ((wrap64 (a2 - (t107.size : Int))) - 2)) - t111))] rfl (by (try simp only [List.map_toArray, List.map_cons, List.map_nil]); first | done | rfl | (simp only [List.length_drop, List.length_take]; rfl)) ?_; (with_reducible refine (strings_Repeat.calls (⟨#[46]⟩ : ByteArray) (wrap64 ((wrap64 ((wrap64 (a2 - (t107.size : Int))) - 2)) - t111)) t112 _ A19.out).mono ?_); rintro e w27 ⟨rfl, hb⟩; refine ⟨_, rfl, ?_⟩; have n0_ := Aside0.mk (blk_below (g := gb106) (o := .cells #[.string a0_0, .int .i64 a0_1, .int .i64 a0_2] 28 (0, 0)) (by (with_reducible repeat (first | refine blk_drewN ?_ _ | refine blk_drew ?_ | refine blk_alloc ?_ _)); exact BK106.out) hb); have n1_ := Aside0.mk (below_step (by repeat (first | (with_reducible first | exact HB.out | apply below_alloc | apply pw_below_drewN | apply below_drew1 | refine below_set ?_ GE106.out) | exact HB.out)) hb); clear BK106; clear HB; have BK106 := n0_; have HB := n1_; clear n0_ n1_; (try clear hb); (try clear hb2); (try clear hk); (try clear hi)))
                      go_ret
                      exact ⟨by first | rfl | (simp [errW_none, errW_some] <;> rfl) | (simp [*, errW_none, errW_some] <;> rfl), by repeat (first | (with_reducible first | exact HB.out | apply below_alloc | apply pw_below_drewN | apply below_drew1 | refine below_set ?_ GE106.out) | exact HB.out)⟩
                    · rw [if_neg c22] at H
                      exact absurd H (by simp)
                  · rw [if_neg c21] at H
                    exact absurd H (by simp)
                · rw [if_neg c20] at H
                  exact absurd H (by simp)
              · rw [if_neg c17] at H
                exact absurd H (by simp)
            · rw [if_neg c16] at H
              exact absurd H (by simp)
          · rw [if_neg c15] at H
            exact absurd H (by simp)
        · rw [if_neg c13] at H
          have c13b0 : decide ((wrap64 ((wrap64 (a2 - (t107.size : Int))) - 2)) < t108) = false := decide_eq_false c13
          clear c13
          by_cases c28 : a0_0.size + 1 ≤ 9223372036854775807
          · rw [if_pos c28] at H
            have c28b0 := eq_true c28
            have c28b1 : decide (a0_0.size + 1 ≤ 9223372036854775807) = true := decide_eq_true c28
            try have c28b2 : (9223372036854775807 < a0_0.size + 1) = False := eq_false (Nat.not_lt.2 c28)
            (try (have c28b3 := c28b2; simp only [ByteArray.size_append] at c28b3))
            (try (have c28b4 : (9223372036854775807 < (a0_0).size + 1) = False := eq_false (by have h_ := c28; simp [ByteArray.size_extract] at h_; simp; omega)))
            replace H := Option.bind_eq_some_iff.mp H
            obtain ⟨t113, A290, H⟩ := H
            replace H : ((strings_Repeat.f (⟨#[46]⟩ : ByteArray) (wrap64 ((wrap64 ((wrap64 (a2 - (t107.size : Int))) - 2)) - t113))).bind fun t114 => (if (a0_0 ++ (⟨#[32]⟩ : ByteArray)).size + t114.size ≤ 9223372036854775807 then (if ((a0_0 ++ (⟨#[32]⟩ : ByteArray)) ++ t114).size + 1 ≤ 9223372036854775807 then (if (((a0_0 ++ (⟨#[32]⟩ : ByteArray)) ++ t114) ++ (⟨#[32]⟩ : ByteArray)).size + t107.size ≤ 9223372036854775807 then (some ((((a0_0 ++ (⟨#[32]⟩ : ByteArray)) ++ t114) ++ (⟨#[32]⟩ : ByteArray)) ++ t107)) else (none)) else (none)) else (none))) = some r := H
            have A29 := Aside0.mk A290
            clear A290
            replace H := Option.bind_eq_some_iff.mp H
            obtain ⟨t114, A300, H⟩ := H
            replace H : (if (a0_0 ++ (⟨#[32]⟩ : ByteArray)).size + t114.size ≤ 9223372036854775807 then (if ((a0_0 ++ (⟨#[32]⟩ : ByteArray)) ++ t114).size + 1 ≤ 9223372036854775807 then (if (((a0_0 ++ (⟨#[32]⟩ : ByteArray)) ++ t114) ++ (⟨#[32]⟩ : ByteArray)).size + t107.size ≤ 9223372036854775807 then (some ((((a0_0 ++ (⟨#[32]⟩ : ByteArray)) ++ t114) ++ (⟨#[32]⟩ : ByteArray)) ++ t107)) else (none)) else (none)) else (none)) = some r := H
            have A30 := Aside0.mk A300
            clear A300
            by_cases c31 : (a0_0 ++ (⟨#[32]⟩ : ByteArray)).size + t114.size ≤ 9223372036854775807
            · rw [if_pos c31] at H
              have c31b0 := eq_true c31
              have c31b1 : decide ((a0_0 ++ (⟨#[32]⟩ : ByteArray)).size + t114.size ≤ 9223372036854775807) = true := decide_eq_true c31
              try have c31b2 : (9223372036854775807 < (a0_0 ++ (⟨#[32]⟩ : ByteArray)).size + t114.size) = False := eq_false (Nat.not_lt.2 c31)
              (try (have c31b3 := c31b2; simp only [ByteArray.size_append] at c31b3))
              (try (have c31b4 : (9223372036854775807 < (a0_0).size + 1 + (t114).size) = False := eq_false (by have l0_ : (⟨#[32]⟩ : ByteArray).size = 1 := rfl; have h_ := c31; simp [ByteArray.size_extract] at h_; simp; omega)))
              by_cases c32 : ((a0_0 ++ (⟨#[32]⟩ : ByteArray)) ++ t114).size + 1 ≤ 9223372036854775807
              · rw [if_pos c32] at H
                have c32b0 := eq_true c32
                have c32b1 : decide (((a0_0 ++ (⟨#[32]⟩ : ByteArray)) ++ t114).size + 1 ≤ 9223372036854775807) = true := decide_eq_true c32
                try have c32b2 : (9223372036854775807 < ((a0_0 ++ (⟨#[32]⟩ : ByteArray)) ++ t114).size + 1) = False := eq_false (Nat.not_lt.2 c32)
                (try (have c32b3 := c32b2; simp only [ByteArray.size_append] at c32b3))
                (try (have c32b4 : (9223372036854775807 < (a0_0).size + 1 + (t114).size + 1) = False := eq_false (by have l0_ : (⟨#[32]⟩ : ByteArray).size = 1 := rfl; have h_ := c32; simp [ByteArray.size_extract] at h_; simp; omega)))
                by_cases c33 : (((a0_0 ++ (⟨#[32]⟩ : ByteArray)) ++ t114) ++ (⟨#[32]⟩ : ByteArray)).size + t107.size ≤ 9223372036854775807
                · rw [if_pos c33] at H
                  have c33b0 := eq_true c33
                  have c33b1 : decide ((((a0_0 ++ (⟨#[32]⟩ : ByteArray)) ++ t114) ++ (⟨#[32]⟩ : ByteArray)).size + t107.size ≤ 9223372036854775807) = true := decide_eq_true c33
                  try have c33b2 : (9223372036854775807 < (((a0_0 ++ (⟨#[32]⟩ : ByteArray)) ++ t114) ++ (⟨#[32]⟩ : ByteArray)).size + t107.size) = False := eq_false (Nat.not_lt.2 c33)
                  (try (have c33b3 := c33b2; simp only [ByteArray.size_append] at c33b3))
                  (try (have c33b4 : (9223372036854775807 < (a0_0).size + 1 + (t114).size + 1 + (t107).size) = False := eq_false (by have l0_ : (⟨#[32]⟩ : ByteArray).size = 1 := rfl; have h_ := c33; simp [ByteArray.size_extract] at h_; simp; omega)))
                  obtain rfl := Option.some.inj H
                  have hcz34_0 : wc.cell? ⟨gb106, 0, none⟩ = some (.string a0_0) := (blk_cell BK106.out 0).trans rfl
                  have hcz34_1 : wc.cell? ⟨gb106, 1, none⟩ = some (.int .i64 a0_1) := (blk_cell BK106.out 1).trans rfl
                  have hcz34_2 : wc.cell? ⟨gb106, 2, none⟩ = some (.int .i64 a0_2) := (blk_cell BK106.out 2).trans rfl
                  have hfz34_0 := blk_frozen BK106.out 0
                  have hfz34_1 := blk_frozen BK106.out 1
                  have hfz34_2 := blk_frozen BK106.out 2
                  go_wp2_with (first | ((with_reducible refine gate_callee (f := 35) rfl ?_); refine goesL_ (some 39) rfl rfl Try.func35 (by kernel_rfl) rfl #[.string a0_0] rfl (by (try simp only [List.map_toArray, List.map_cons, List.map_nil]); first | done | rfl | (simp only [List.length_drop, List.length_take]; rfl)) ?_; (with_reducible refine (runes_Count.calls a0_0 t108 _ A12.out).mono ?_); rintro e w35 ⟨rfl, hb⟩; refine ⟨_, rfl, ?_⟩; have n0_ := Aside0.mk (blk_below (g := gb106) (o := .cells #[.string a0_0, .int .i64 a0_1, .int .i64 a0_2] 28 (0, 0)) (by (with_reducible repeat (first | refine blk_drewN ?_ _ | refine blk_drew ?_ | refine blk_alloc ?_ _)); exact BK106.out) hb); have n1_ := Aside0.mk (below_step (by repeat (first | (with_reducible first | exact HB.out | apply below_alloc | apply pw_below_drewN | apply below_drew1 | refine below_set ?_ GE106.out) | exact HB.out)) hb); clear BK106; clear HB; have BK106 := n0_; have HB := n1_; clear n0_ n1_; (try clear hb); (try clear hb2); (try clear hk); (try clear hi)) | ((with_reducible refine gate_callee (f := 35) rfl ?_); refine goesL_ (some 55) rfl rfl Try.func35 (by kernel_rfl) rfl #[.string a0_0] rfl (by (try simp only [List.map_toArray, List.map_cons, List.map_nil]); first | done | rfl | (simp only [List.length_drop, List.length_take]; rfl)) ?_; (with_reducible refine (runes_Count.calls a0_0 t113 _ A29.out).mono ?_); rintro e w36 ⟨rfl, hb⟩; refine ⟨_, rfl, ?_⟩; have n0_ := Aside0.mk (blk_below (g := gb106) (o := .cells #[.string a0_0, .int .i64 a0_1, .int .i64 a0_2] 28 (0, 0)) (by (with_reducible repeat (first | refine blk_drewN ?_ _ | refine blk_drew ?_ | refine blk_alloc ?_ _)); exact BK106.out) hb); have n1_ := Aside0.mk (below_step (by repeat (first | (with_reducible first | exact HB.out | apply below_alloc | apply pw_below_drewN | apply below_drew1 | refine below_set ?_ GE106.out) | exact HB.out)) hb); clear BK106; clear HB; have BK106 := n0_; have HB := n1_; clear n0_ n1_; (try clear hb); (try clear hb2); (try clear hk); (try clear hi)) | ((with_reducible refine gate_callee (f := 37) rfl ?_); refine goesL_ (some 57) rfl rfl Try.func37 (by kernel_rfl) rfl #[.string (⟨#[46]⟩ : ByteArray), .int .i64 (wrap64 ((wrap64 ((wrap64 (a2 - (t107.size : Int))) - 2)) - t113))] rfl (by (try simp only [List.map_toArray, List.map_cons, List.map_nil]); first | done | rfl | (simp only [List.length_drop, List.length_take]; rfl)) ?_; (with_reducible refine (strings_Repeat.calls (⟨#[46]⟩ : ByteArray) (wrap64 ((wrap64 ((wrap64 (a2 - (t107.size : Int))) - 2)) - t113)) t114 _ A30.out).mono ?_); rintro e w37 ⟨rfl, hb⟩; refine ⟨_, rfl, ?_⟩; have n0_ := Aside0.mk (blk_below (g := gb106) (o := .cells #[.string a0_0, .int .i64 a0_1, .int .i64 a0_2] 28 (0, 0)) (by (with_reducible repeat (first | refine blk_drewN ?_ _ | refine blk_drew ?_ | refine blk_alloc ?_ _)); exact BK106.out) hb); have n1_ := Aside0.mk (below_step (by repeat (first | (with_reducible first | exact HB.out | apply below_alloc | apply pw_below_drewN | apply below_drew1 | refine below_set ?_ GE106.out) | exact HB.out)) hb); clear BK106; clear HB; have BK106 := n0_; have HB := n1_; clear n0_ n1_; (try clear hb); (try clear hb2); (try clear hk); (try clear hi)))
                  go_ret
                  exact ⟨by first | rfl | (simp [errW_none, errW_some] <;> rfl) | (simp [*, errW_none, errW_some] <;> rfl), by repeat (first | (with_reducible first | exact HB.out | apply below_alloc | apply pw_below_drewN | apply below_drew1 | refine below_set ?_ GE106.out) | exact HB.out)⟩
                · rw [if_neg c33] at H
                  exact absurd H (by simp)
              · rw [if_neg c32] at H
                exact absurd H (by simp)
            · rw [if_neg c31] at H
              exact absurd H (by simp)
          · rw [if_neg c28] at H
            exact absurd H (by simp)

/-! ### regletlaw22_awake: function 10 -/
def regletlaw22_awake.f (k : Nat)  : Option (Bool) := (outline_Roman.f 1994).bind fun t115 => (if t115.toList = ([109, 99, 109, 120, 99, 105, 118] : List UInt8) then ((outline_Label.f k 2 4).bind fun t116 => (if t116.toList = ([105, 105, 105] : List UInt8) then ((outline_Label.f k 4 4).bind fun t117 => (if t117.toList = ([49] : List UInt8) then ((outline_Row.f k (⟨#[65]⟩ : ByteArray) 0 0 0 8).bind fun t118 => (some (t118.toList == ([65, 32, 46, 46, 46, 46, 32, 49] : List UInt8)))) else (some false))) else (some false))) else (some false))
theorem regletlaw22_awake.mono : ∀ k, LeO (regletlaw22_awake.f k ) (regletlaw22_awake.f (k + 1) ) := by
  intro  k
  unfold regletlaw22_awake.f
  repeat' first
      | (with_reducible exact outline_Label.mono _ _ _)
      | (with_reducible exact outline_Row.mono _ _ _ _ _ _)
      | (with_reducible exact LeO.refl _)
      | (with_reducible exact LeO.none _)
      | (with_reducible refine LeO.ite ?_ ?_)
      | (with_reducible refine LeO.bind ?_ (fun _ => ?_))
      | exact outline_Label.mono _ _ _
      | exact outline_Row.mono _ _ _ _ _ _
      | exact LeO.none _
      | refine LeO.ite ?_ ?_
      | refine LeO.bind ?_ (fun _ => ?_)
set_option maxHeartbeats 8000000 in
set_option maxRecDepth 100000 in
theorem regletlaw22_awake.calls (k : Nat)  (r : Bool) (w : World) (h : regletlaw22_awake.f k  = some r) :
    Calls Try.prog 10 #[] w fun e w' => e = .returned (.bool r) ∧ Below w.heap.size w w' := by
  have hu28 := Try.underlying28
  have HB := Aside0.mk (Below.refl w.heap.size w)
  have H : ((outline_Roman.f 1994).bind fun t115 => (if t115.toList = ([109, 99, 109, 120, 99, 105, 118] : List UInt8) then ((outline_Label.f k 2 4).bind fun t116 => (if t116.toList = ([105, 105, 105] : List UInt8) then ((outline_Label.f k 4 4).bind fun t117 => (if t117.toList = ([49] : List UInt8) then ((outline_Row.f k (⟨#[65]⟩ : ByteArray) 0 0 0 8).bind fun t118 => (some (t118.toList == ([65, 32, 46, 46, 46, 46, 32, 49] : List UInt8)))) else (some false))) else (some false))) else (some false))) = some r := h
  clear h
  replace H := Option.bind_eq_some_iff.mp H
  obtain ⟨t115, A10, H⟩ := H
  replace H : (if t115.toList = ([109, 99, 109, 120, 99, 105, 118] : List UInt8) then ((outline_Label.f k 2 4).bind fun t116 => (if t116.toList = ([105, 105, 105] : List UInt8) then ((outline_Label.f k 4 4).bind fun t117 => (if t117.toList = ([49] : List UInt8) then ((outline_Row.f k (⟨#[65]⟩ : ByteArray) 0 0 0 8).bind fun t118 => (some (t118.toList == ([65, 32, 46, 46, 46, 46, 32, 49] : List UInt8)))) else (some false))) else (some false))) else (some false)) = some r := H
  have A1 := Aside0.mk A10
  clear A10
  by_cases c2 : t115.toList = ([109, 99, 109, 120, 99, 105, 118] : List UInt8)
  · rw [if_pos c2] at H
    have c2b0 : (t115.toList == ([109, 99, 109, 120, 99, 105, 118] : List UInt8)) = true := beq_iff_eq.mpr c2
    have c2b1 : (t115.toList != ([109, 99, 109, 120, 99, 105, 118] : List UInt8)) = false := bne_eq_false_iff_eq.mpr c2
    clear c2
    replace H := Option.bind_eq_some_iff.mp H
    obtain ⟨t116, A30, H⟩ := H
    replace H : (if t116.toList = ([105, 105, 105] : List UInt8) then ((outline_Label.f k 4 4).bind fun t117 => (if t117.toList = ([49] : List UInt8) then ((outline_Row.f k (⟨#[65]⟩ : ByteArray) 0 0 0 8).bind fun t118 => (some (t118.toList == ([65, 32, 46, 46, 46, 46, 32, 49] : List UInt8)))) else (some false))) else (some false)) = some r := H
    have A3 := Aside0.mk A30
    clear A30
    by_cases c4 : t116.toList = ([105, 105, 105] : List UInt8)
    · rw [if_pos c4] at H
      have c4b0 : (t116.toList == ([105, 105, 105] : List UInt8)) = true := beq_iff_eq.mpr c4
      have c4b1 : (t116.toList != ([105, 105, 105] : List UInt8)) = false := bne_eq_false_iff_eq.mpr c4
      clear c4
      replace H := Option.bind_eq_some_iff.mp H
      obtain ⟨t117, A50, H⟩ := H
      replace H : (if t117.toList = ([49] : List UInt8) then ((outline_Row.f k (⟨#[65]⟩ : ByteArray) 0 0 0 8).bind fun t118 => (some (t118.toList == ([65, 32, 46, 46, 46, 46, 32, 49] : List UInt8)))) else (some false)) = some r := H
      have A5 := Aside0.mk A50
      clear A50
      by_cases c6 : t117.toList = ([49] : List UInt8)
      · rw [if_pos c6] at H
        have c6b0 : (t117.toList == ([49] : List UInt8)) = true := beq_iff_eq.mpr c6
        have c6b1 : (t117.toList != ([49] : List UInt8)) = false := bne_eq_false_iff_eq.mpr c6
        clear c6
        replace H := Option.bind_eq_some_iff.mp H
        obtain ⟨t118, A70, H⟩ := H
        replace H : (some (t118.toList == ([65, 32, 46, 46, 46, 46, 32, 49] : List UInt8))) = some r := H
        have A7 := Aside0.mk A70
        clear A70
        obtain rfl := Option.some.inj H
        go_enter Try.func10, Try.ntmps10
        go_wp2_with (first | ((with_reducible refine gate_callee (f := 11) rfl ?_); refine goesL_ (some 1) rfl rfl Try.func11 (by kernel_rfl) rfl #[.int .i64 1994] rfl (by (try simp only [List.map_toArray, List.map_cons, List.map_nil]); first | done | rfl | (simp only [List.length_drop, List.length_take]; rfl)) ?_; (with_reducible refine (outline_Roman.calls 1994 t115 _ A1.out).mono ?_); rintro e w8 ⟨rfl, hb⟩; refine ⟨_, rfl, ?_⟩; have n0_ := Aside0.mk (below_step (by repeat (first | (with_reducible first | exact HB.out | apply below_alloc | apply pw_below_drewN | apply below_drew1) | exact HB.out)) hb); clear HB; have HB := n0_; clear n0_; (try clear hb); (try clear hb2); (try clear hk); (try clear hi)) | (go_at_call 15; (with_reducible refine (outline_Label.calls k 2 4 t116 _ A3.out).mono ?_); rintro e w9 ⟨rfl, hb⟩; have n0_ := Aside0.mk (below_step (by repeat (first | (with_reducible first | exact HB.out | apply below_alloc | apply pw_below_drewN | apply below_drew1) | exact HB.out)) hb); clear HB; have HB := n0_; clear n0_; (try clear hb); (try clear hb2); (try clear hk); (try clear hi)) | (go_at_call 15; (with_reducible refine (outline_Label.calls k 4 4 t117 _ A5.out).mono ?_); rintro e w10 ⟨rfl, hb⟩; have n0_ := Aside0.mk (below_step (by repeat (first | (with_reducible first | exact HB.out | apply below_alloc | apply pw_below_drewN | apply below_drew1) | exact HB.out)) hb); clear HB; have HB := n0_; clear n0_; (try clear hb); (try clear hb2); (try clear hk); (try clear hi)) | (go_at_call 18; (with_reducible refine (outline_Row.calls k (⟨#[65]⟩ : ByteArray) 0 0 0 8 t118 _ A7.out).mono ?_); rintro e w11 ⟨rfl, hb⟩; have n0_ := Aside0.mk (below_step (by repeat (first | (with_reducible first | exact HB.out | apply below_alloc | apply pw_below_drewN | apply below_drew1) | exact HB.out)) hb); clear HB; have HB := n0_; clear n0_; (try clear hb); (try clear hb2); (try clear hk); (try clear hi)))
        go_ret
        exact ⟨by first | rfl | (simp [errW_none, errW_some] <;> rfl) | (simp [*, errW_none, errW_some] <;> rfl), by repeat (first | (with_reducible first | exact HB.out | apply below_alloc | apply pw_below_drewN | apply below_drew1) | exact HB.out)⟩
      · rw [if_neg c6] at H
        have c6b0 : (t117.toList == ([49] : List UInt8)) = false := beq_eq_false_iff_ne.mpr c6
        have c6b1 : (t117.toList != ([49] : List UInt8)) = true := bne_iff_ne.mpr c6
        obtain rfl := Option.some.inj H
        go_enter Try.func10, Try.ntmps10
        go_wp2_with (first | ((with_reducible refine gate_callee (f := 11) rfl ?_); refine goesL_ (some 1) rfl rfl Try.func11 (by kernel_rfl) rfl #[.int .i64 1994] rfl (by (try simp only [List.map_toArray, List.map_cons, List.map_nil]); first | done | rfl | (simp only [List.length_drop, List.length_take]; rfl)) ?_; (with_reducible refine (outline_Roman.calls 1994 t115 _ A1.out).mono ?_); rintro e w12 ⟨rfl, hb⟩; refine ⟨_, rfl, ?_⟩; have n0_ := Aside0.mk (below_step (by repeat (first | (with_reducible first | exact HB.out | apply below_alloc | apply pw_below_drewN | apply below_drew1) | exact HB.out)) hb); clear HB; have HB := n0_; clear n0_; (try clear hb); (try clear hb2); (try clear hk); (try clear hi)) | (go_at_call 15; (with_reducible refine (outline_Label.calls k 2 4 t116 _ A3.out).mono ?_); rintro e w13 ⟨rfl, hb⟩; have n0_ := Aside0.mk (below_step (by repeat (first | (with_reducible first | exact HB.out | apply below_alloc | apply pw_below_drewN | apply below_drew1) | exact HB.out)) hb); clear HB; have HB := n0_; clear n0_; (try clear hb); (try clear hb2); (try clear hk); (try clear hi)) | (go_at_call 15; (with_reducible refine (outline_Label.calls k 4 4 t117 _ A5.out).mono ?_); rintro e w14 ⟨rfl, hb⟩; have n0_ := Aside0.mk (below_step (by repeat (first | (with_reducible first | exact HB.out | apply below_alloc | apply pw_below_drewN | apply below_drew1) | exact HB.out)) hb); clear HB; have HB := n0_; clear n0_; (try clear hb); (try clear hb2); (try clear hk); (try clear hi)))
        go_ret
        exact ⟨by first | rfl | (simp [errW_none, errW_some] <;> rfl) | (simp [*, errW_none, errW_some] <;> rfl), by repeat (first | (with_reducible first | exact HB.out | apply below_alloc | apply pw_below_drewN | apply below_drew1) | exact HB.out)⟩
    · rw [if_neg c4] at H
      have c4b0 : (t116.toList == ([105, 105, 105] : List UInt8)) = false := beq_eq_false_iff_ne.mpr c4
      have c4b1 : (t116.toList != ([105, 105, 105] : List UInt8)) = true := bne_iff_ne.mpr c4
      obtain rfl := Option.some.inj H
      go_enter Try.func10, Try.ntmps10
      go_wp2_with (first | ((with_reducible refine gate_callee (f := 11) rfl ?_); refine goesL_ (some 1) rfl rfl Try.func11 (by kernel_rfl) rfl #[.int .i64 1994] rfl (by (try simp only [List.map_toArray, List.map_cons, List.map_nil]); first | done | rfl | (simp only [List.length_drop, List.length_take]; rfl)) ?_; (with_reducible refine (outline_Roman.calls 1994 t115 _ A1.out).mono ?_); rintro e w15 ⟨rfl, hb⟩; refine ⟨_, rfl, ?_⟩; have n0_ := Aside0.mk (below_step (by repeat (first | (with_reducible first | exact HB.out | apply below_alloc | apply pw_below_drewN | apply below_drew1) | exact HB.out)) hb); clear HB; have HB := n0_; clear n0_; (try clear hb); (try clear hb2); (try clear hk); (try clear hi)) | (go_at_call 15; (with_reducible refine (outline_Label.calls k 2 4 t116 _ A3.out).mono ?_); rintro e w16 ⟨rfl, hb⟩; have n0_ := Aside0.mk (below_step (by repeat (first | (with_reducible first | exact HB.out | apply below_alloc | apply pw_below_drewN | apply below_drew1) | exact HB.out)) hb); clear HB; have HB := n0_; clear n0_; (try clear hb); (try clear hb2); (try clear hk); (try clear hi)))
      go_ret
      exact ⟨by first | rfl | (simp [errW_none, errW_some] <;> rfl) | (simp [*, errW_none, errW_some] <;> rfl), by repeat (first | (with_reducible first | exact HB.out | apply below_alloc | apply pw_below_drewN | apply below_drew1) | exact HB.out)⟩
  · rw [if_neg c2] at H
    have c2b0 : (t115.toList == ([109, 99, 109, 120, 99, 105, 118] : List UInt8)) = false := beq_eq_false_iff_ne.mpr c2
    have c2b1 : (t115.toList != ([109, 99, 109, 120, 99, 105, 118] : List UInt8)) = true := bne_iff_ne.mpr c2
    obtain rfl := Option.some.inj H
    go_enter Try.func10, Try.ntmps10
    go_wp2_with (first | ((with_reducible refine gate_callee (f := 11) rfl ?_); refine goesL_ (some 1) rfl rfl Try.func11 (by kernel_rfl) rfl #[.int .i64 1994] rfl (by (try simp only [List.map_toArray, List.map_cons, List.map_nil]); first | done | rfl | (simp only [List.length_drop, List.length_take]; rfl)) ?_; (with_reducible refine (outline_Roman.calls 1994 t115 _ A1.out).mono ?_); rintro e w17 ⟨rfl, hb⟩; refine ⟨_, rfl, ?_⟩; have n0_ := Aside0.mk (below_step (by repeat (first | (with_reducible first | exact HB.out | apply below_alloc | apply pw_below_drewN | apply below_drew1) | exact HB.out)) hb); clear HB; have HB := n0_; clear n0_; (try clear hb); (try clear hb2); (try clear hk); (try clear hi)))
    go_ret
    exact ⟨by first | rfl | (simp [errW_none, errW_some] <;> rfl) | (simp [*, errW_none, errW_some] <;> rfl), by repeat (first | (with_reducible first | exact HB.out | apply below_alloc | apply pw_below_drewN | apply below_drew1) | exact HB.out)⟩

/-! ### regletlaw22_rising: function 20 -/
def regletlaw22_rising.l0 : Nat → List Int → Int → Option (Bool)
  | 0, _, _ => none
  | k + 1, x0, x3 => if x3 < (x0.length : Int) then (if 0 ≤ x3 then (if (rd x0 x3) < 0 then (some false) else (if (rd x0 x3) ≥ 1099511627776 then (some false) else (if x3 > 0 then (if 0 ≤ (wrap64 (x3 - 1)) then (if (wrap64 (x3 - 1)) < (x0.length : Int) then (if (rd x0 x3) ≤ (rd x0 (wrap64 (x3 - 1))) then (some false) else (regletlaw22_rising.l0 k x0 (wrap64 (x3 + 1)))) else (none)) else (none)) else (regletlaw22_rising.l0 k x0 (wrap64 (x3 + 1)))))) else (none)) else (some true)
def regletlaw22_rising.f (k : Nat) (l0 : List Int) : Option (Bool) := regletlaw22_rising.l0 k l0 0
theorem regletlaw22_rising.mono_l : ∀ k, (∀ y0 y1, LeO (regletlaw22_rising.l0 k y0 y1) (regletlaw22_rising.l0 (k + 1) y0 y1))
  | 0 => fun _ _ r h => by simp [regletlaw22_rising.l0] at h
  | k + 1 => by
    have ih0 := regletlaw22_rising.mono_l k
    · intro y0 y1
      unfold regletlaw22_rising.l0
      repeat' first
      | (with_reducible exact ih0 _ _)
      | (with_reducible exact LeO.refl _)
      | (with_reducible exact LeO.none _)
      | (with_reducible refine LeO.ite ?_ ?_)
      | (with_reducible refine LeO.bind ?_ (fun _ => ?_))
      | exact ih0 _ _
      | exact LeO.none _
      | refine LeO.ite ?_ ?_
      | refine LeO.bind ?_ (fun _ => ?_)
theorem regletlaw22_rising.mono : ∀ a0 k, LeO (regletlaw22_rising.f k a0) (regletlaw22_rising.f (k + 1) a0) := by
  intro a0 k
  have ih0 := regletlaw22_rising.mono_l k
  unfold regletlaw22_rising.f
  repeat' first
      | (with_reducible exact ih0 _ _)
      | (with_reducible exact LeO.refl _)
      | (with_reducible exact LeO.none _)
      | (with_reducible refine LeO.ite ?_ ?_)
      | (with_reducible refine LeO.bind ?_ (fun _ => ?_))
      | exact ih0 _ _
      | exact LeO.none _
      | refine LeO.ite ?_ ?_
      | refine LeO.bind ?_ (fun _ => ?_)
set_option maxHeartbeats 8000000 in
set_option maxRecDepth 100000 in
theorem regletlaw22_rising.calls (k : Nat) (A0 : Option Addr) (c0 : Nat) (l0 : List Int) (r : Bool) (w : World) (hr0 : Kd.C (Kd.int .i64) w A0 l0.length l0) (hc0 : l0.length ≤ c0) (h : regletlaw22_rising.f k l0 = some r) :
    Calls Try.prog 20 #[.slice A0 l0.length c0] w fun e w' => e = .returned (.bool r) ∧ Drawn0 w w' := by
  have HR0 := Aside0.mk hr0
  have HC0 := Aside0.mk hc0
  clear hr0 hc0
  have H : (regletlaw22_rising.l0 k l0 0) = some r := h
  clear h
  have H' := Aside0.mk H
  clear H
  go_enter Try.func20, Try.ntmps20
  go_wp2
  repeat (go_quiet (fail); try go_wp2)
  go_loopg [3] k (fun kq v3 w' => ∃ (x3_1 : Int), v3 = .int .i64 x3_1 ∧ Aside0 (regletlaw22_rising.l0 kq l0 x3_1 = some r) ∧ Aside0 (kq ≤ k) ∧ Drawn0 w w')
  case atStart => exact ⟨(0), (by first | rfl | (simp; done) | (simp [*]; done)), H', ⟨Nat.le_refl _⟩, by repeat (first | exact Drawn0.refl _ | apply Drawn0.step)⟩
  case round =>
    clear H'
    obtain ⟨x3_1, rfl, HA, HK1, ⟨m1, rfl⟩⟩ := hrel
    cases gk with
    | zero => exact absurd HA.out (by simp [regletlaw22_rising.l0])
    | succ k1 =>
      have H := HA.out
      clear HA
      simp only [regletlaw22_rising.l0] at H
      by_cases c2 : x3_1 < (l0.length : Int)
      · rw [if_pos c2] at H
        have c2b0 : decide (x3_1 < (l0.length : Int)) = true := decide_eq_true c2
        clear c2
        by_cases c3 : 0 ≤ x3_1
        · rw [if_pos c3] at H
          have c3b0 : decide (0 ≤ x3_1) = true := decide_eq_true c3
          clear c3
          by_cases c4 : (rd l0 x3_1) < 0
          · rw [if_pos c4] at H
            have c4b0 : decide ((rd l0 x3_1) < 0) = true := decide_eq_true c4
            clear c4
            obtain rfl := Option.some.inj H
            have p119 : 0 ≤ (x3_1 : Int) := of_decide_eq_true (by first | (with_reducible assumption) | assumption)
            have q119 : x3_1 < (l0.length : Int) := of_decide_eq_true (by first | (with_reducible assumption) | assumption)
            obtain ⟨ad119, e119, hx119_0⟩ := Kd.at_int HR0.out x3_1 p119 q119
            cases e119
            replace p119 := eq_true p119
            replace q119 := eq_true q119
            go_wp2
            repeat (go_quiet (fail); try go_wp2)
            go_ret
            exact ⟨by first | rfl | (simp; done) | (simp [*]; done), by repeat (first | exact Drawn0.refl _ | apply Drawn0.step)⟩
          · rw [if_neg c4] at H
            have c4b0 : decide ((rd l0 x3_1) < 0) = false := decide_eq_false c4
            clear c4
            by_cases c5 : (rd l0 x3_1) ≥ 1099511627776
            · rw [if_pos c5] at H
              have c5b0 : decide (1099511627776 ≤ (rd l0 x3_1)) = true := decide_eq_true c5
              clear c5
              obtain rfl := Option.some.inj H
              have p119 : 0 ≤ (x3_1 : Int) := of_decide_eq_true (by first | (with_reducible assumption) | assumption)
              have q119 : x3_1 < (l0.length : Int) := of_decide_eq_true (by first | (with_reducible assumption) | assumption)
              obtain ⟨ad119, e119, hx119_0⟩ := Kd.at_int HR0.out x3_1 p119 q119
              cases e119
              replace p119 := eq_true p119
              replace q119 := eq_true q119
              have p120 : 0 ≤ (x3_1 : Int) := of_decide_eq_true (by first | (with_reducible assumption) | assumption)
              have q120 : x3_1 < (l0.length : Int) := of_decide_eq_true (by first | (with_reducible assumption) | assumption)
              obtain ⟨ad120, e120, hx120_0⟩ := Kd.at_int HR0.out x3_1 p120 q120
              obtain rfl : ad119 = ad120 := (by injection e120)
              replace p120 := eq_true p120
              replace q120 := eq_true q120
              go_wp2
              repeat (go_quiet (fail); try go_wp2)
              go_ret
              exact ⟨by first | rfl | (simp; done) | (simp [*]; done), by repeat (first | exact Drawn0.refl _ | apply Drawn0.step)⟩
            · rw [if_neg c5] at H
              have c5b0 : decide (1099511627776 ≤ (rd l0 x3_1)) = false := decide_eq_false c5
              clear c5
              by_cases c6 : x3_1 > 0
              · rw [if_pos c6] at H
                have c6b0 : decide (0 < x3_1) = true := decide_eq_true c6
                clear c6
                obtain ⟨ji7, hji7⟩ : ∃ j_ : Int, (wrap64 (x3_1 - 1)) = j_ := ⟨_, rfl⟩
                replace H : (if 0 ≤ (ji7) then (if (ji7) < (l0.length : Int) then (if (rd l0 x3_1) ≤ (rd l0 (ji7)) then (some false) else (regletlaw22_rising.l0 k1 l0 (wrap64 (x3_1 + 1)))) else (none)) else (none)) = some r := by first | (rw [hji7] at H; exact H) | (simp only [hji7] at H ⊢; exact H)
                have hji7w : (IntKind.i64.wrap (x3_1 - 1)) = ji7 := (i64_w _).trans hji7
                by_cases c8 : 0 ≤ (ji7)
                · rw [if_pos c8] at H
                  have c8b0 : decide (0 ≤ (ji7)) = true := decide_eq_true c8
                  clear c8
                  by_cases c9 : (ji7) < (l0.length : Int)
                  · rw [if_pos c9] at H
                    have c9b0 : decide ((ji7) < (l0.length : Int)) = true := decide_eq_true c9
                    clear c9
                    by_cases c10 : (rd l0 x3_1) ≤ (rd l0 (ji7))
                    · rw [if_pos c10] at H
                      have c10b0 : decide ((rd l0 x3_1) ≤ (rd l0 (ji7))) = true := decide_eq_true c10
                      clear c10
                      obtain rfl := Option.some.inj H
                      have p119 : 0 ≤ (x3_1 : Int) := of_decide_eq_true (by first | (with_reducible assumption) | assumption)
                      have q119 : x3_1 < (l0.length : Int) := of_decide_eq_true (by first | (with_reducible assumption) | assumption)
                      obtain ⟨ad119, e119, hx119_0⟩ := Kd.at_int HR0.out x3_1 p119 q119
                      cases e119
                      replace p119 := eq_true p119
                      replace q119 := eq_true q119
                      have p120 : 0 ≤ (x3_1 : Int) := of_decide_eq_true (by first | (with_reducible assumption) | assumption)
                      have q120 : x3_1 < (l0.length : Int) := of_decide_eq_true (by first | (with_reducible assumption) | assumption)
                      obtain ⟨ad120, e120, hx120_0⟩ := Kd.at_int HR0.out x3_1 p120 q120
                      obtain rfl : ad119 = ad120 := (by injection e120)
                      replace p120 := eq_true p120
                      replace q120 := eq_true q120
                      have p121 : 0 ≤ (x3_1 : Int) := of_decide_eq_true (by first | (with_reducible assumption) | assumption)
                      have q121 : x3_1 < (l0.length : Int) := of_decide_eq_true (by first | (with_reducible assumption) | assumption)
                      obtain ⟨ad121, e121, hx121_0⟩ := Kd.at_int HR0.out x3_1 p121 q121
                      obtain rfl : ad119 = ad121 := (by injection e121)
                      replace p121 := eq_true p121
                      replace q121 := eq_true q121
                      have p122 : 0 ≤ ((ji7) : Int) := of_decide_eq_true (by first | (with_reducible assumption) | assumption)
                      have q122 : (ji7) < (l0.length : Int) := of_decide_eq_true (by first | (with_reducible assumption) | assumption)
                      obtain ⟨ad122, e122, hx122_0⟩ := Kd.at_int HR0.out (ji7) p122 q122
                      obtain rfl : ad119 = ad122 := (by injection e122)
                      replace p122 := eq_true p122
                      replace q122 := eq_true q122
                      go_wp2
                      repeat (go_quiet (fail); try go_wp2)
                      go_ret
                      exact ⟨by first | rfl | (simp; done) | (simp only [← hji7] <;> (first | rfl | simp)) | (simp [*]; done), by repeat (first | exact Drawn0.refl _ | apply Drawn0.step)⟩
                    · rw [if_neg c10] at H
                      have c10b0 : decide ((rd l0 x3_1) ≤ (rd l0 (ji7))) = false := decide_eq_false c10
                      clear c10
                      have H' := Aside0.mk H
                      clear H
                      have p119 : 0 ≤ (x3_1 : Int) := of_decide_eq_true (by first | (with_reducible assumption) | assumption)
                      have q119 : x3_1 < (l0.length : Int) := of_decide_eq_true (by first | (with_reducible assumption) | assumption)
                      obtain ⟨ad119, e119, hx119_0⟩ := Kd.at_int HR0.out x3_1 p119 q119
                      cases e119
                      replace p119 := eq_true p119
                      replace q119 := eq_true q119
                      have p120 : 0 ≤ (x3_1 : Int) := of_decide_eq_true (by first | (with_reducible assumption) | assumption)
                      have q120 : x3_1 < (l0.length : Int) := of_decide_eq_true (by first | (with_reducible assumption) | assumption)
                      obtain ⟨ad120, e120, hx120_0⟩ := Kd.at_int HR0.out x3_1 p120 q120
                      obtain rfl : ad119 = ad120 := (by injection e120)
                      replace p120 := eq_true p120
                      replace q120 := eq_true q120
                      have p121 : 0 ≤ (x3_1 : Int) := of_decide_eq_true (by first | (with_reducible assumption) | assumption)
                      have q121 : x3_1 < (l0.length : Int) := of_decide_eq_true (by first | (with_reducible assumption) | assumption)
                      obtain ⟨ad121, e121, hx121_0⟩ := Kd.at_int HR0.out x3_1 p121 q121
                      obtain rfl : ad119 = ad121 := (by injection e121)
                      replace p121 := eq_true p121
                      replace q121 := eq_true q121
                      have p122 : 0 ≤ ((ji7) : Int) := of_decide_eq_true (by first | (with_reducible assumption) | assumption)
                      have q122 : (ji7) < (l0.length : Int) := of_decide_eq_true (by first | (with_reducible assumption) | assumption)
                      obtain ⟨ad122, e122, hx122_0⟩ := Kd.at_int HR0.out (ji7) p122 q122
                      obtain rfl : ad119 = ad122 := (by injection e122)
                      replace p122 := eq_true p122
                      replace q122 := eq_true q122
                      go_wp2
                      repeat (go_quiet (fail); try go_wp2)
                      go_roundg k1
                      case measure => have := HK1.out; omega
                      case rel => exact ⟨(wrap64 (x3_1 + 1)), (by first | rfl | (simp; done) | (simp [*]; done)), H', ⟨by have := HK1.out; omega⟩, by repeat (first | exact Drawn0.refl _ | apply Drawn0.step)⟩
                  · rw [if_neg c9] at H
                    exact absurd H (by simp)
                · rw [if_neg c8] at H
                  exact absurd H (by simp)
              · rw [if_neg c6] at H
                have c6b0 : decide (0 < x3_1) = false := decide_eq_false c6
                clear c6
                have H' := Aside0.mk H
                clear H
                have p119 : 0 ≤ (x3_1 : Int) := of_decide_eq_true (by first | (with_reducible assumption) | assumption)
                have q119 : x3_1 < (l0.length : Int) := of_decide_eq_true (by first | (with_reducible assumption) | assumption)
                obtain ⟨ad119, e119, hx119_0⟩ := Kd.at_int HR0.out x3_1 p119 q119
                cases e119
                replace p119 := eq_true p119
                replace q119 := eq_true q119
                have p120 : 0 ≤ (x3_1 : Int) := of_decide_eq_true (by first | (with_reducible assumption) | assumption)
                have q120 : x3_1 < (l0.length : Int) := of_decide_eq_true (by first | (with_reducible assumption) | assumption)
                obtain ⟨ad120, e120, hx120_0⟩ := Kd.at_int HR0.out x3_1 p120 q120
                obtain rfl : ad119 = ad120 := (by injection e120)
                replace p120 := eq_true p120
                replace q120 := eq_true q120
                go_wp2
                repeat (go_quiet (fail); try go_wp2)
                go_roundg k1
                case measure => have := HK1.out; omega
                case rel => exact ⟨(wrap64 (x3_1 + 1)), (by first | rfl | (simp; done) | (simp [*]; done)), H', ⟨by have := HK1.out; omega⟩, by repeat (first | exact Drawn0.refl _ | apply Drawn0.step)⟩
        · rw [if_neg c3] at H
          exact absurd H (by simp)
      · rw [if_neg c2] at H
        have c2b0 : decide (x3_1 < (l0.length : Int)) = false := decide_eq_false c2
        clear c2
        obtain rfl := Option.some.inj H
        go_wp2
        repeat (go_quiet (fail); try go_wp2)
        go_ret
        exact ⟨by first | rfl | (simp; done) | (simp [*]; done), by repeat (first | exact Drawn0.refl _ | apply Drawn0.step)⟩

end Go.Proofs.Ytmgflcepgbgcmaa.POutlineEntries
