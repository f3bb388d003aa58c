import Derived.Test.YtmgflcepgbgcmaaRomDecOutlineEntries
/-! Our own text: a page's label, the program's and the reference's: the same, and short. -/
namespace Go.Proofs.Ytmgflcepgbgcmaa.POutlineEntries
open Go.RowKit Go.Proofs.YtmgflcepgbgcmaaW.PrintWords

theorem wrange (x : Int) : -9223372036854775808 ≤ wrap64 x ∧ wrap64 x ≤ 9223372036854775807 := by unfold wrap64; omega
theorem le36_ {a b c d : Nat} (ha : a ≤ 9) (hb : b ≤ 9) (hc : c ≤ 9) (hd : d ≤ 9) : a + b + c + d ≤ 64 := by omega
theorem rr_len (n : Nat) (h : n < 4000) : (rr_ n).length ≤ 64 := by
  have l1 : (plc_ (n / 1000) [109] [] []).length ≤ 9 := (plc_len ⟨n / 1000, by omega⟩).1
  have l2 : (plc_ (n / 100 % 10) [99] [100] [109]).length ≤ 9 := (plc_len ⟨n / 100 % 10, by omega⟩).2.1
  have l3 : (plc_ (n / 10 % 10) [120] [108] [99]).length ≤ 9 := (plc_len ⟨n / 10 % 10, by omega⟩).2.2.1
  have l4 : (plc_ (n % 10) [105] [118] [120]).length ≤ 9 := (plc_len ⟨n % 10, by omega⟩).2.2.2
  unfold rr_
  rw [List.length_append, List.length_append, List.length_append]
  exact le36_ l1 l2 l3 l4
theorem rom_size (n : Int) : (if n < 1 ∨ n > 3999 then bs_ [] else bs_ (romL_ romT_ n.toNat)).size ≤ 64 := by
  by_cases h : n < 1 ∨ n > 3999
  · rw [if_pos h]; decide
  · rw [if_neg h, bs_size, rom_same n.toNat (by omega)]
    exact rr_len n.toNat (by omega)
theorem dec_size (n : Int) : (bs_ (dec_ n)).size ≤ 64 := by
  rw [bs_size]
  unfold dec_
  split
  · have := dgs_len 19 (-n).toNat
    rw [List.length_cons]; omega
  · have := dgs_len 19 n.toNat
    omega
theorem label_ev (a b : Int) : ∃ t, t.size ≤ 64 ∧ Ev (fun k => outline_Label.f k a b) t ∧ Ev (fun k => regletref22_Label.f k a b) t := by
  unfold outline_Label.f regletref22_Label.f
  by_cases h1 : a < 0
  · simp only [if_pos h1]; exact ⟨_, by decide, Ev.now _, Ev.now _⟩
  by_cases h2 : a < b
  · simp only [if_neg h1, if_pos h2, roman_f, Option.bind_some]
    exact ⟨_, rom_size _, Ev.now _, Ev.bind (rroman_ev _) (Ev.now _)⟩
  · simp only [if_neg h1, if_neg h2]
    exact ⟨_, dec_size _, Ev.bind (decimal_ev (wrange _).1 (wrange _).2) (Ev.now _), Ev.bind (rdecimal_ev (wrange _).1 (wrange _).2) (Ev.now _)⟩
end Go.Proofs.Ytmgflcepgbgcmaa.POutlineEntries
