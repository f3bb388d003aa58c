import Derived.Test.YtmgflcepgbgcmaaPOutlineRomanx
/-! Our own text: Roman letters and digits, the program's and the reference's. -/
namespace Go.Proofs.Ytmgflcepgbgcmaa.POutlineRoman
set_option linter.unusedVariables false
open Go.RowKit Go.Proofs.YtmgflcepgbgcmaaW.PrintWords

theorem w64 {x : Int} (h0 : -9223372036854775808 ≤ x) (h1 : x ≤ 9223372036854775807) : wrap64 x = x := by unfold wrap64; omega
def bs_ (l : List UInt8) : ByteArray := ⟨l.toArray⟩
theorem bs_app (l m : List UInt8) : bs_ l ++ bs_ m = bs_ (l ++ m) := by apply ByteArray.ext; simp [bs_]
theorem bs_size (l : List UInt8) : (bs_ l).size = l.length := by simp [bs_, ByteArray.size]

/-! ### Roman -/
def plc_ (d : Nat) (a b c : List UInt8) : List UInt8 := (if d = 0 then [] else if d = 4 then a ++ b else if d = 9 then a ++ c else if d ≥ 5 then b ++ (List.replicate (d - 5) a).flatten else (List.replicate d a).flatten)
theorem plc1 : ∀ d : Fin 10, regletref22_place.f 12 (d.val : Int) ⟨#[109]⟩ ⟨#[]⟩ ⟨#[]⟩ = some (bs_ (plc_ d.val [109] [] [])) := by decide +kernel
theorem plc2 : ∀ d : Fin 10, regletref22_place.f 12 (d.val : Int) ⟨#[99]⟩ ⟨#[100]⟩ ⟨#[109]⟩ = some (bs_ (plc_ d.val [99] [100] [109])) := by decide +kernel
theorem plc3 : ∀ d : Fin 10, regletref22_place.f 12 (d.val : Int) ⟨#[120]⟩ ⟨#[108]⟩ ⟨#[99]⟩ = some (bs_ (plc_ d.val [120] [108] [99])) := by decide +kernel
theorem plc4 : ∀ d : Fin 10, regletref22_place.f 12 (d.val : Int) ⟨#[105]⟩ ⟨#[118]⟩ ⟨#[120]⟩ = some (bs_ (plc_ d.val [105] [118] [120])) := by decide +kernel
theorem plcE1 (d : Nat) (h : d < 10) : Ev (fun k => regletref22_place.f k (d : Int) ⟨#[109]⟩ ⟨#[]⟩ ⟨#[]⟩) (bs_ (plc_ d [109] [] [])) :=
  Ev.of (g := fun k => regletref22_place.f k (d : Int) ⟨#[109]⟩ ⟨#[]⟩ ⟨#[]⟩) (fun k => regletref22_place.mono (d : Int) ⟨#[109]⟩ ⟨#[]⟩ ⟨#[]⟩ k) (k := 12) (plc1 ⟨d, h⟩)
theorem plcE2 (d : Nat) (h : d < 10) : Ev (fun k => regletref22_place.f k (d : Int) ⟨#[99]⟩ ⟨#[100]⟩ ⟨#[109]⟩) (bs_ (plc_ d [99] [100] [109])) :=
  Ev.of (g := fun k => regletref22_place.f k (d : Int) ⟨#[99]⟩ ⟨#[100]⟩ ⟨#[109]⟩) (fun k => regletref22_place.mono (d : Int) ⟨#[99]⟩ ⟨#[100]⟩ ⟨#[109]⟩ k) (k := 12) (plc2 ⟨d, h⟩)
theorem plcE3 (d : Nat) (h : d < 10) : Ev (fun k => regletref22_place.f k (d : Int) ⟨#[120]⟩ ⟨#[108]⟩ ⟨#[99]⟩) (bs_ (plc_ d [120] [108] [99])) :=
  Ev.of (g := fun k => regletref22_place.f k (d : Int) ⟨#[120]⟩ ⟨#[108]⟩ ⟨#[99]⟩) (fun k => regletref22_place.mono (d : Int) ⟨#[120]⟩ ⟨#[108]⟩ ⟨#[99]⟩ k) (k := 12) (plc3 ⟨d, h⟩)
theorem plcE4 (d : Nat) (h : d < 10) : Ev (fun k => regletref22_place.f k (d : Int) ⟨#[105]⟩ ⟨#[118]⟩ ⟨#[120]⟩) (bs_ (plc_ d [105] [118] [120])) :=
  Ev.of (g := fun k => regletref22_place.f k (d : Int) ⟨#[105]⟩ ⟨#[118]⟩ ⟨#[120]⟩) (fun k => regletref22_place.mono (d : Int) ⟨#[105]⟩ ⟨#[118]⟩ ⟨#[120]⟩ k) (k := 12) (plc4 ⟨d, h⟩)
theorem plc_len : ∀ d : Fin 10, (plc_ d.val [109] [] []).length ≤ 9 ∧ (plc_ d.val [99] [100] [109]).length ≤ 9 ∧ (plc_ d.val [120] [108] [99]).length ≤ 9 ∧ (plc_ d.val [105] [118] [120]).length ≤ 9 := by decide +kernel
def rr_ (n : Nat) : List UInt8 := plc_ (n / 1000) [109] [] [] ++ plc_ (n / 100 % 10) [99] [100] [109] ++ plc_ (n / 10 % 10) [120] [108] [99] ++ plc_ (n % 10) [105] [118] [120]
theorem rom_same0 : ∀ (x : Fin 40) (y : Fin 100), romL_ romT_ (x.val * 100 + y.val) = rr_ (x.val * 100 + y.val) := by decide +kernel
theorem rom_same (n : Nat) (h : n < 4000) : romL_ romT_ n = rr_ n := by
  have := rom_same0 ⟨n / 100, by omega⟩ ⟨n % 100, by omega⟩
  simp only [show n / 100 * 100 + n % 100 = n by omega] at this
  exact this
end Go.Proofs.Ytmgflcepgbgcmaa.POutlineRoman
