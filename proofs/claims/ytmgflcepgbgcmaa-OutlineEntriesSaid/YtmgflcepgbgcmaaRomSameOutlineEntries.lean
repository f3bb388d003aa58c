import Derived.Test.YtmgflcepgbgcmaaPOutlineEntriesx
/-! Our own text: Roman letters and digits, the program's and the reference's. -/
namespace Go.Proofs.Ytmgflcepgbgcmaa.POutlineEntries
set_option linter.unusedVariables false
open Go.RowKit Go.Proofs.YtmgflcepgbgcmaaW.PrintWords

theorem w64r {x : Int} (h0 : -9223372036854775808 ≤ x) (h1 : x ≤ 9223372036854775807) : wrap64 x = x := by unfold wrap64; omega
def bs_ (l : List UInt8) : ByteArray := ⟨l.toArray⟩
theorem bs_app (l m : List UInt8) : bs_ l ++ bs_ m = bs_ (l ++ m) := by apply ByteArray.ext; simp [bs_]
theorem bs_size (l : List UInt8) : (bs_ l).size = l.length := by simp [bs_, ByteArray.size]

/-! ### Roman -/
def plc_ (d : Nat) (a b c : List UInt8) : List UInt8 := (if d = 0 then [] else if d = 4 then a ++ b else if d = 9 then a ++ c else if d ≥ 5 then b ++ (List.replicate (d - 5) a).flatten else (List.replicate d a).flatten)
def rr_ (n : Nat) : List UInt8 := plc_ (n / 1000) [109] [] [] ++ plc_ (n / 100 % 10) [99] [100] [109] ++ plc_ (n / 10 % 10) [120] [108] [99] ++ plc_ (n % 10) [105] [118] [120]
theorem rom_same0 : ∀ (x : Fin 40) (y : Fin 100), romL_ romT_ (x.val * 100 + y.val) = rr_ (x.val * 100 + y.val) := by decide +kernel
theorem rom_same (n : Nat) (h : n < 4000) : romL_ romT_ n = rr_ n := by
  have := rom_same0 ⟨n / 100, by omega⟩ ⟨n % 100, by omega⟩
  simp only [show n / 100 * 100 + n % 100 = n by omega] at this
  exact this
theorem roman_f (n : Int) : outline_Roman.f n = some (if n < 1 ∨ n > 3999 then bs_ [] else bs_ (romL_ romT_ n.toNat)) := by
  unfold outline_Roman.f
  by_cases h1 : n < 1
  · rw [if_pos h1, if_pos (.inl h1)]; rfl
  rw [if_neg h1]
  by_cases h2 : n > 3999
  · rw [if_pos h2, if_pos (.inr h2)]; rfl
  rw [if_neg h2, if_neg (by omega)]; rfl
end Go.Proofs.Ytmgflcepgbgcmaa.POutlineEntries
