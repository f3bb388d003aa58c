import Derived.Test.YtmgflcepgbgcmaaRomSameOutlineEntries
/-! Our own text: Roman letters and digits, the program's and the reference's. -/
namespace Go.Proofs.Ytmgflcepgbgcmaa.POutlineEntries
set_option linter.unusedVariables false
open Go.RowKit Go.Proofs.YtmgflcepgbgcmaaW.PrintWords

theorem plc1 : ∀ d : Fin 10, regletref22_place.f 12 (d.val : Int) ⟨#[109]⟩ ⟨#[]⟩ ⟨#[]⟩ = some (bs_ (plc_ d.val [109] [] [])) := by decide +kernel
theorem plc2 : ∀ d : Fin 10, regletref22_place.f 12 (d.val : Int) ⟨#[99]⟩ ⟨#[100]⟩ ⟨#[109]⟩ = some (bs_ (plc_ d.val [99] [100] [109])) := by decide +kernel
theorem plc3 : ∀ d : Fin 10, regletref22_place.f 12 (d.val : Int) ⟨#[120]⟩ ⟨#[108]⟩ ⟨#[99]⟩ = some (bs_ (plc_ d.val [120] [108] [99])) := by decide +kernel
theorem plc4 : ∀ d : Fin 10, regletref22_place.f 12 (d.val : Int) ⟨#[105]⟩ ⟨#[118]⟩ ⟨#[120]⟩ = some (bs_ (plc_ d.val [105] [118] [120])) := by decide +kernel
theorem plcE1 (d : Nat) (h : d < 10) : Ev (fun k => regletref22_place.f k (d : Int) ⟨#[109]⟩ ⟨#[]⟩ ⟨#[]⟩) (bs_ (plc_ d [109] [] [])) :=
  Ev.of (g := fun k => regletref22_place.f k (d : Int) ⟨#[109]⟩ ⟨#[]⟩ ⟨#[]⟩) (fun k => regletref22_place.mono (d : Int) ⟨#[109]⟩ ⟨#[]⟩ ⟨#[]⟩ k) (k := 12) (plc1 ⟨d, h⟩)
theorem plcE2 (d : Nat) (h : d < 10) : Ev (fun k => regletref22_place.f k (d : Int) ⟨#[99]⟩ ⟨#[100]⟩ ⟨#[109]⟩) (bs_ (plc_ d [99] [100] [109])) :=
  Ev.of (g := fun k => regletref22_place.f k (d : Int) ⟨#[99]⟩ ⟨#[100]⟩ ⟨#[109]⟩) (fun k => regletref22_place.mono (d : Int) ⟨#[99]⟩ ⟨#[100]⟩ ⟨#[109]⟩ k) (k := 12) (plc2 ⟨d, h⟩)
theorem plcE3 (d : Nat) (h : d < 10) : Ev (fun k => regletref22_place.f k (d : Int) ⟨#[120]⟩ ⟨#[108]⟩ ⟨#[99]⟩) (bs_ (plc_ d [120] [108] [99])) :=
  Ev.of (g := fun k => regletref22_place.f k (d : Int) ⟨#[120]⟩ ⟨#[108]⟩ ⟨#[99]⟩) (fun k => regletref22_place.mono (d : Int) ⟨#[120]⟩ ⟨#[108]⟩ ⟨#[99]⟩ k) (k := 12) (plc3 ⟨d, h⟩)
theorem plcE4 (d : Nat) (h : d < 10) : Ev (fun k => regletref22_place.f k (d : Int) ⟨#[105]⟩ ⟨#[118]⟩ ⟨#[120]⟩) (bs_ (plc_ d [105] [118] [120])) :=
  Ev.of (g := fun k => regletref22_place.f k (d : Int) ⟨#[105]⟩ ⟨#[118]⟩ ⟨#[120]⟩) (fun k => regletref22_place.mono (d : Int) ⟨#[105]⟩ ⟨#[118]⟩ ⟨#[120]⟩ k) (k := 12) (plc4 ⟨d, h⟩)
theorem plc_len : ∀ d : Fin 10, (plc_ d.val [109] [] []).length ≤ 9 ∧ (plc_ d.val [99] [100] [109]).length ≤ 9 ∧ (plc_ d.val [120] [108] [99]).length ≤ 9 ∧ (plc_ d.val [105] [118] [120]).length ≤ 9 := by decide +kernel
theorem le2_ {a b : Nat} (ha : a ≤ 9) (hb : b ≤ 9) : a + b ≤ 9223372036854775807 := by omega
theorem le3_ {a b c : Nat} (ha : a ≤ 9) (hb : b ≤ 9) (hc : c ≤ 9) : a + b + c ≤ 9223372036854775807 := by omega
theorem le4_ {a b c d : Nat} (ha : a ≤ 9) (hb : b ≤ 9) (hc : c ≤ 9) (hd : d ≤ 9) : a + b + c + d ≤ 9223372036854775807 := by omega
theorem rj0_ev (n q1 q2 q3 q4 : Int) (x1 x2 x3 x4 : List UInt8) (hq1 : wrap64 (Int.tdiv n 1000) = q1) (hq2 : Int.tmod (wrap64 (Int.tdiv n 100)) 10 = q2) (hq3 : Int.tmod (wrap64 (Int.tdiv n 10)) 10 = q3) (hq4 : Int.tmod n 10 = q4)
    (p1 : Ev (fun k => regletref22_place.f k q1 ⟨#[109]⟩ ⟨#[]⟩ ⟨#[]⟩) (bs_ x1)) (p2 : Ev (fun k => regletref22_place.f k q2 ⟨#[99]⟩ ⟨#[100]⟩ ⟨#[109]⟩) (bs_ x2))
    (p3 : Ev (fun k => regletref22_place.f k q3 ⟨#[120]⟩ ⟨#[108]⟩ ⟨#[99]⟩) (bs_ x3)) (p4 : Ev (fun k => regletref22_place.f k q4 ⟨#[105]⟩ ⟨#[118]⟩ ⟨#[120]⟩) (bs_ x4))
    (l1 : x1.length ≤ 9) (l2 : x2.length ≤ 9) (l3 : x3.length ≤ 9) (l4 : x4.length ≤ 9) :
    Ev (fun k => regletref22_Roman.j0 k n false) (bs_ (x1 ++ x2 ++ x3 ++ x4)) := by
  have s2 : (bs_ x1).size + (bs_ x2).size ≤ 9223372036854775807 := by rw [bs_size, bs_size]; exact le2_ l1 l2
  have s3 : (bs_ x1 ++ bs_ x2).size + (bs_ x3).size ≤ 9223372036854775807 := by rw [bs_app, bs_size, bs_size, List.length_append]; exact le3_ l1 l2 l3
  have s4 : ((bs_ x1 ++ bs_ x2) ++ bs_ x3).size + (bs_ x4).size ≤ 9223372036854775807 := by rw [bs_app, bs_app, bs_size, bs_size, List.length_append, List.length_append]; exact le4_ l1 l2 l3 l4
  refine Ev.step (fun k => by rw [regletref22_Roman.j0, if_neg Bool.false_ne_true, hq1, hq2, hq3, hq4]) ?_
  refine Ev.bind p1 ?_
  refine Ev.bind p2 ?_
  simp only [if_pos s2]
  refine Ev.bind p3 ?_
  simp only [if_pos s3]
  refine Ev.bind p4 ?_
  simp only [if_pos s4]
  rw [bs_app, bs_app, bs_app]
  exact Ev.now _
theorem nd_ (m c : Nat) : Int.tdiv (m : Int) (c : Int) = ((m / c : Nat) : Int) := rfl
theorem nm_ (m c : Nat) : Int.tmod (m : Int) (c : Int) = ((m % c : Nat) : Int) := rfl
theorem wsm_ (m : Nat) (h : m < 4000) : wrap64 (m : Int) = (m : Int) := by unfold wrap64; omega
theorem td_ (m c : Nat) (h : m < 4000) : wrap64 (Int.tdiv (m : Int) (c : Int)) = ((m / c : Nat) : Int) := by
  rw [nd_, wsm_ _ (Nat.lt_of_le_of_lt (Nat.div_le_self m c) h)]
theorem tdm_ (m c : Nat) (h : m < 4000) : Int.tmod (wrap64 (Int.tdiv (m : Int) (c : Int))) 10 = ((m / c % 10 : Nat) : Int) := by
  rw [td_ m c h]; exact nm_ _ 10
theorem tm_ (m : Nat) : Int.tmod (m : Int) 10 = ((m % 10 : Nat) : Int) := nm_ m 10
theorem rroman_ev (n : Int) : Ev (fun k => regletref22_Roman.f k n) (if n < 1 ∨ n > 3999 then bs_ [] else bs_ (romL_ romT_ n.toNat)) := by
  have stop : Ev (fun k => regletref22_Roman.j0 k n true) (bs_ []) := Ev.step (fun k => by rw [regletref22_Roman.j0, if_pos rfl]; rfl) (Ev.now _)
  unfold regletref22_Roman.f
  by_cases h1 : n < 1
  · rw [if_pos (.inl h1)]
    simp only [if_pos h1]
    exact stop
  simp only [if_neg h1]
  by_cases h2 : n > 3999
  · rw [if_pos (.inr h2)]
    simp only [decide_eq_true h2]
    exact stop
  simp only [decide_eq_false h2]
  rw [if_neg (fun h => h.elim (fun h => h1 h) (fun h => h2 h))]
  obtain ⟨m, rfl⟩ : ∃ m : Nat, n = m := ⟨n.toNat, by omega⟩
  have hm : m < 4000 := by omega
  rw [Int.toNat_natCast, rom_same m hm]
  have l1 : (plc_ (m / 1000) [109] [] []).length ≤ 9 := (plc_len ⟨m / 1000, by omega⟩).1
  have l2 : (plc_ (m / 100 % 10) [99] [100] [109]).length ≤ 9 := (plc_len ⟨m / 100 % 10, by omega⟩).2.1
  have l3 : (plc_ (m / 10 % 10) [120] [108] [99]).length ≤ 9 := (plc_len ⟨m / 10 % 10, by omega⟩).2.2.1
  have l4 : (plc_ (m % 10) [105] [118] [120]).length ≤ 9 := (plc_len ⟨m % 10, by omega⟩).2.2.2
  have hj := rj0_ev m _ _ _ _ _ _ _ _ (td_ m 1000 hm) (tdm_ m 100 hm) (tdm_ m 10 hm) (tm_ m) (plcE1 (m / 1000) (by omega)) (plcE2 (m / 100 % 10) (by omega)) (plcE3 (m / 10 % 10) (by omega)) (plcE4 (m % 10) (by omega)) l1 l2 l3 l4
  unfold rr_
  exact hj
/-! ### digits -/
def dgs_ : Nat → Nat → List UInt8
  | 0, u => [UInt8.ofNat (48 + u)]
  | f + 1, u => if u < 10 then [UInt8.ofNat (48 + u)] else dgs_ f (u / 10) ++ [UInt8.ofNat (48 + u % 10)]
theorem dgs_len : ∀ (f u : Nat), (dgs_ f u).length ≤ f + 1
  | 0, _ => by simp [dgs_]
  | f + 1, u => by
    simp only [dgs_]
    split
    · simp
    · have := dgs_len f (u / 10)
      simp; omega
theorem dig_lit : ∀ d : Fin 10, Utf8.encode (bt (⟨#[48, 49, 50, 51, 52, 53, 54, 55, 56, 57]⟩ : ByteArray) (d.val : Int)) = bs_ [UInt8.ofNat (48 + d.val)] := by decide +kernel
theorem digit_f : ∀ d : Fin 10, regletref22_digit.f (d.val : Int) = some (bs_ [UInt8.ofNat (48 + d.val)]) := by decide +kernel
theorem digits_ev : ∀ (f u : Nat), u < 10 ^ (f + 1) → u < 18446744073709551616 → f ≤ 100 → Ev (fun k => outline_digits.f k (u : Int)) (bs_ (dgs_ f u)) := by
  intro f
  induction f with
  | zero =>
    intro u h0 h1 hf
    refine Ev.step (fun k => by simp only [outline_digits.f]; rw [if_pos (by omega), if_pos (by omega)]) ?_
    rw [dig_lit ⟨u, by omega⟩]
    exact Ev.now _
  | succ f ih =>
    intro u h0 h1 hf
    simp only [dgs_]
    by_cases h : u < 10
    · rw [if_pos h]
      refine Ev.step (fun k => by simp only [outline_digits.f]; rw [if_pos (by omega), if_pos (by omega)]) ?_
      rw [dig_lit ⟨u, by omega⟩]
      exact Ev.now _
    · rw [if_neg h]
      have h10 : u / 10 < 10 ^ (f + 1) := by rw [Nat.pow_succ] at h0; omega
      have e1 : IntKind.u64.wrap (Int.tdiv (u : Int) 10) = ((u / 10 : Nat) : Int) := by rw [Int.tdiv_eq_ediv_of_nonneg (by omega), IntKind.wrap_u64]; omega
      have e2 : Int.tmod (u : Int) 10 = ((u % 10 : Nat) : Int) := by rw [Int.tmod_eq_emod_of_nonneg (by omega)]; omega
      refine Ev.step (fun k => by simp only [outline_digits.f]; rw [if_neg (by omega), e1, e2]) ?_
      refine Ev.bind (ih (u / 10) h10 (by omega) (by omega)) ?_
      have hl := dgs_len f (u / 10)
      rw [dig_lit ⟨u % 10, by omega⟩]
      simp only [if_pos (show (0 : Int) ≤ ((u % 10 : Nat) : Int) by omega), if_pos (show ((u % 10 : Nat) : Int) < 10 by omega), bs_size, List.length_singleton, if_pos (show (dgs_ f (u / 10)).length + 1 ≤ 9223372036854775807 by omega), bs_app]
      exact Ev.now _
def dec_ (n : Int) : List UInt8 := if n < 0 then 45 :: dgs_ 19 (-n).toNat else dgs_ 19 n.toNat
theorem decimal_ev {n : Int} (h0 : -9223372036854775808 ≤ n) (h1 : n ≤ 9223372036854775807) : Ev (fun k => outline_Decimal.f k n) (bs_ (dec_ n)) := by
  unfold outline_Decimal.f dec_
  by_cases h : n < 0
  · have e : IntKind.u64.wrap (wrap64 (-n)) = (((-n).toNat : Nat) : Int) := by rw [IntKind.wrap_u64]; unfold wrap64; omega
    simp only [if_pos h, e]
    refine Ev.bind (digits_ev 19 (-n).toNat (by omega) (by omega) (by omega)) ?_
    have hl := dgs_len 19 (-n).toNat
    simp only [bs_size, if_pos (show 1 + (dgs_ 19 (-n).toNat).length ≤ 9223372036854775807 by omega)]
    rw [show (⟨#[45]⟩ : ByteArray) = bs_ [45] from rfl, bs_app]
    exact Ev.now _
  · have e : IntKind.u64.wrap n = ((n.toNat : Nat) : Int) := by rw [IntKind.wrap_u64]; omega
    simp only [if_neg h, e]
    refine Ev.bind (digits_ev 19 n.toNat (by omega) (by omega) (by omega)) ?_
    exact Ev.now _
theorem rdec_pos : ∀ (f u : Nat), u < 10 ^ (f + 1) → (u : Int) ≤ 9223372036854775807 → f ≤ 100 → Ev (fun k => regletref22_Decimal.f k (u : Int)) (bs_ (dgs_ f u)) := by
  intro f
  induction f with
  | zero =>
    intro u h0 h1 hf
    refine Ev.step (fun k => by simp only [regletref22_Decimal.f]; rw [if_neg (by omega), if_pos (by omega)]) ?_
    rw [digit_f ⟨u, by omega⟩]
    exact Ev.now _
  | succ f ih =>
    intro u h0 h1 hf
    simp only [dgs_]
    by_cases h : u < 10
    · rw [if_pos h]
      refine Ev.step (fun k => by simp only [regletref22_Decimal.f]; rw [if_neg (by omega), if_pos (by omega)]) ?_
      rw [digit_f ⟨u, by omega⟩]
      exact Ev.now _
    · rw [if_neg h]
      have h10 : u / 10 < 10 ^ (f + 1) := by rw [Nat.pow_succ] at h0; omega
      have e1 : wrap64 (Int.tdiv (u : Int) 10) = ((u / 10 : Nat) : Int) := by rw [Int.tdiv_eq_ediv_of_nonneg (by omega), w64r (by omega) (by omega)]; omega
      have e2 : Int.tmod (u : Int) 10 = ((u % 10 : Nat) : Int) := by rw [Int.tmod_eq_emod_of_nonneg (by omega)]; omega
      refine Ev.step (fun k => by simp only [regletref22_Decimal.f]; rw [if_neg (by omega), if_neg (by omega), e1, e2]) ?_
      refine Ev.bind (ih (u / 10) h10 (by omega) (by omega)) ?_
      have hl := dgs_len f (u / 10)
      rw [digit_f ⟨u % 10, by omega⟩]
      simp only [Option.bind_some, bs_size, List.length_singleton, if_pos (show (dgs_ f (u / 10)).length + 1 ≤ 9223372036854775807 by omega), bs_app]
      exact Ev.now _
theorem rdec_neg : ∀ (f u : Nat), 0 < u → u < 10 ^ (f + 1) → (u : Int) ≤ 9223372036854775808 → f ≤ 100 → Ev (fun k => regletref22_Decimal.f k (-(u : Int))) (bs_ (45 :: dgs_ f u)) := by
  have small : ∀ u : Nat, 0 < u → u < 10 → Ev (fun k => regletref22_Decimal.f k (-(u : Int))) (bs_ (45 :: [UInt8.ofNat (48 + u)])) := by
    intro u h0 h1
    have e1 : wrap64 (Int.tdiv (-(u : Int)) 10) = 0 := by
      rw [Int.neg_tdiv, Int.tdiv_eq_ediv_of_nonneg (by omega), show (u : Int) / 10 = 0 by omega]; decide +kernel
    have e2 : wrap64 (-(-(u : Int))) = u := by rw [Int.neg_neg, w64r (by omega) (by omega)]
    refine Ev.step (fun k => by simp only [regletref22_Decimal.f]; rw [if_pos (by omega), if_pos e1, e2]) ?_
    rw [digit_f ⟨u, h1⟩]
    simp only [Option.bind_some, bs_size, List.length_singleton, if_pos (show 1 + 1 ≤ 9223372036854775807 by omega)]
    rw [show (⟨#[45]⟩ : ByteArray) = bs_ [45] from rfl, bs_app]
    exact Ev.now _
  intro f
  induction f with
  | zero =>
    intro u hu h0 h1 hf
    exact small u hu (by omega)
  | succ f ih =>
    intro u hu h0 h1 hf
    simp only [dgs_]
    by_cases h : u < 10
    · rw [if_pos h]
      exact small u hu h
    · rw [if_neg h]
      have h10 : u / 10 < 10 ^ (f + 1) := by rw [Nat.pow_succ] at h0; omega
      have e1 : wrap64 (Int.tdiv (-(u : Int)) 10) = -((u / 10 : Nat) : Int) := by
        rw [Int.neg_tdiv, Int.tdiv_eq_ediv_of_nonneg (by omega), w64r (by omega) (by omega)]; omega
      have e2 : wrap64 (-(Int.tmod (-(u : Int)) 10)) = ((u % 10 : Nat) : Int) := by
        rw [Int.neg_tmod, Int.tmod_eq_emod_of_nonneg (by omega), Int.neg_neg, w64r (by omega) (by omega)]; omega
      refine Ev.step (fun k => by simp only [regletref22_Decimal.f]; rw [if_pos (by omega), e1, if_neg (by omega), e2]) ?_
      refine Ev.bind (ih (u / 10) (by omega) h10 (by omega) (by omega)) ?_
      have hl := dgs_len f (u / 10)
      rw [digit_f ⟨u % 10, by omega⟩]
      simp only [Option.bind_some, bs_size, List.length_cons, List.length_nil, if_pos (show (dgs_ f (u / 10)).length + 1 + (0 + 1) ≤ 9223372036854775807 by omega), bs_app]
      exact Ev.now _
theorem rdecimal_ev {n : Int} (h0 : -9223372036854775808 ≤ n) (h1 : n ≤ 9223372036854775807) : Ev (fun k => regletref22_Decimal.f k n) (bs_ (dec_ n)) := by
  unfold dec_
  by_cases h : n < 0
  · rw [if_pos h]
    have := rdec_neg 19 (-n).toNat (by omega) (by omega) (by omega) (by omega)
    rw [show -(((-n).toNat : Nat) : Int) = n by omega] at this
    exact this
  · rw [if_neg h]
    have := rdec_pos 19 n.toNat (by omega) (by omega) (by omega)
    rw [show ((n.toNat : Nat) : Int) = n by omega] at this
    exact this
theorem lit64 {n : Int} (h : (Lit.int .i64 n).wf = true) : -9223372036854775808 ≤ n ∧ n ≤ 9223372036854775807 := by
  simp [Lit.wf, IntKind.min, IntKind.max, IntKind.signed, IntKind.bits] at h
  exact ⟨by omega, by omega⟩
end Go.Proofs.Ytmgflcepgbgcmaa.POutlineEntries
