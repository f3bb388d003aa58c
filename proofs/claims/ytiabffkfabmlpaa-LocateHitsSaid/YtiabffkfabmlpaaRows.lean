/-
  No cell of these rows narrows 'for every input' (looked for: loops, veiled, ifaces, maps, wideKeys, modest, calm, conditions, laid).
  DERIVED. THE GIVEN ROWS OF THIS SEAT. 6 by the template 'for every input the law returns true; each argument reads behind the call as it read before'; 0 by the template 'total and deterministic' (their statements: YtiabffkfabmlpaaTotals.lean).
  GIVEN WITH THE SEED: the statements are not yours to turn. If you find one false, say at which input.
  Laid BY PROGRAM, IN A SANDBOX (cutbox-rows.mjs): the forced cells as the released guide's own fill.sh prints them over the translation 2d080d98d2d2d46e… (all of the seat's roots in one cut). By AI agents, Wed Nov 11 2026. No macro, syntax, notation, axiom, sorry.
-/
import Derived.Test.YtiabffkfabmlpaaChecked
import GoSem.Claim
import GoSem.ClaimJoined
import GoSem.ClaimMapViews
import Derived.JoinedTies
import Derived.KernelRfl
namespace Go.Proofs.Ytiabffkfabmlpaa
/- THE CELL 'sum', in the pinned program and in every row, IS THE sha256 OF THE DUMP (.gsa) THAT YtiabffkfabmlpaaProg.lean LOADS. Nothing in Lean hashes anything: it is a label: what it is worth is what the hold of that sum in a sandbox is worth. -/
noncomputable def Try.pinned : Pinned := { name := "ytiabffkfabmlpaa", sum := "2d080d98d2d2d46e9ad3e92901da809ebb98cea849937e157ceed5aa5f52d4ae", checked := Try.checked }
namespace Rows
def none {H : Type} : Left H := { results := [], args := [] }

/-- 'regletlaw15.LocateHeights': WHATEVER THE INPUT: true; the input reads as it did. -/
def locateHeightsSpec : ChangeSpec := { name := "locateHeights", fn := fun _ => fun
  | [d1, d2] => { results := [.lit (.bool true)], args := [d1, d2] }
  | _ => none }
def locateHeightsRow : OpenClaim := { program := "ytiabffkfabmlpaa", sum := "2d080d98d2d2d46e9ad3e92901da809ebb98cea849937e157ceed5aa5f52d4ae", func := "reglet/regletlaw15.LocateHeights", spec := "locateHeights", named := ["math/bits.divideError", "math/bits.overflowError"], apart := false }
def LocateHeightsSaid : Prop := locateHeightsRow.holds Try.pinned (OpenSpec.ofChange locateHeightsSpec)

/-- ITS FALSE NEIGHBOUR: 'it returns false'. Refute it at one input. -/
def locateHeightsWrong : ChangeSpec := { name := "locateHeights", fn := fun _ => fun
  | [d1, d2] => { results := [.lit (.bool false)], args := [d1, d2] }
  | _ => none }
def LocateHeightsWrongFalsely : Prop := locateHeightsRow.holds Try.pinned (OpenSpec.ofChange locateHeightsWrong)

/-- 'regletlaw15.LocateStops': WHATEVER THE INPUT: true; the input reads as it did. -/
def locateStopsSpec : ChangeSpec := { name := "locateStops", fn := fun _ => fun
  | [d1, d2] => { results := [.lit (.bool true)], args := [d1, d2] }
  | _ => none }
def locateStopsRow : OpenClaim := { program := "ytiabffkfabmlpaa", sum := "2d080d98d2d2d46e9ad3e92901da809ebb98cea849937e157ceed5aa5f52d4ae", func := "reglet/regletlaw15.LocateStops", spec := "locateStops", named := ["math/bits.divideError", "math/bits.overflowError"], apart := false }
def LocateStopsSaid : Prop := locateStopsRow.holds Try.pinned (OpenSpec.ofChange locateStopsSpec)

/-- ITS FALSE NEIGHBOUR: 'it returns false'. Refute it at one input. -/
def locateStopsWrong : ChangeSpec := { name := "locateStops", fn := fun _ => fun
  | [d1, d2] => { results := [.lit (.bool false)], args := [d1, d2] }
  | _ => none }
def LocateStopsWrongFalsely : Prop := locateStopsRow.holds Try.pinned (OpenSpec.ofChange locateStopsWrong)

/-- 'regletlaw15.LocateSpots': WHATEVER THE INPUT: true; the input reads as it did. -/
def locateSpotsSpec : ChangeSpec := { name := "locateSpots", fn := fun _ => fun
  | [d1, d2, d3] => { results := [.lit (.bool true)], args := [d1, d2, d3] }
  | _ => none }
def locateSpotsRow : OpenClaim := { program := "ytiabffkfabmlpaa", sum := "2d080d98d2d2d46e9ad3e92901da809ebb98cea849937e157ceed5aa5f52d4ae", func := "reglet/regletlaw15.LocateSpots", spec := "locateSpots", named := ["math/bits.divideError", "math/bits.overflowError"], apart := false }
def LocateSpotsSaid : Prop := locateSpotsRow.holds Try.pinned (OpenSpec.ofChange locateSpotsSpec)

/-- ITS FALSE NEIGHBOUR: 'it returns false'. Refute it at one input. -/
def locateSpotsWrong : ChangeSpec := { name := "locateSpots", fn := fun _ => fun
  | [d1, d2, d3] => { results := [.lit (.bool false)], args := [d1, d2, d3] }
  | _ => none }
def LocateSpotsWrongFalsely : Prop := locateSpotsRow.holds Try.pinned (OpenSpec.ofChange locateSpotsWrong)

/-- 'regletlaw15.LocateHits': WHATEVER THE INPUT: true; the input reads as it did. -/
def locateHitsSpec : ChangeSpec := { name := "locateHits", fn := fun _ => fun
  | [d1, d2, d3] => { results := [.lit (.bool true)], args := [d1, d2, d3] }
  | _ => none }
def locateHitsRow : OpenClaim := { program := "ytiabffkfabmlpaa", sum := "2d080d98d2d2d46e9ad3e92901da809ebb98cea849937e157ceed5aa5f52d4ae", func := "reglet/regletlaw15.LocateHits", spec := "locateHits", named := ["math/bits.divideError", "math/bits.overflowError"], apart := false }
def LocateHitsSaid : Prop := locateHitsRow.holds Try.pinned (OpenSpec.ofChange locateHitsSpec)

/-- ITS FALSE NEIGHBOUR: 'it returns false'. Refute it at one input. -/
def locateHitsWrong : ChangeSpec := { name := "locateHits", fn := fun _ => fun
  | [d1, d2, d3] => { results := [.lit (.bool false)], args := [d1, d2, d3] }
  | _ => none }
def LocateHitsWrongFalsely : Prop := locateHitsRow.holds Try.pinned (OpenSpec.ofChange locateHitsWrong)

/-- 'regletlaw15.LocateLines': WHATEVER THE INPUT: true; the input reads as it did. -/
def locateLinesSpec : ChangeSpec := { name := "locateLines", fn := fun _ => fun
  | [d1, d2, d3] => { results := [.lit (.bool true)], args := [d1, d2, d3] }
  | _ => none }
def locateLinesRow : OpenClaim := { program := "ytiabffkfabmlpaa", sum := "2d080d98d2d2d46e9ad3e92901da809ebb98cea849937e157ceed5aa5f52d4ae", func := "reglet/regletlaw15.LocateLines", spec := "locateLines", named := ["math/bits.divideError", "math/bits.overflowError"], apart := false }
def LocateLinesSaid : Prop := locateLinesRow.holds Try.pinned (OpenSpec.ofChange locateLinesSpec)

/-- ITS FALSE NEIGHBOUR: 'it returns false'. Refute it at one input. -/
def locateLinesWrong : ChangeSpec := { name := "locateLines", fn := fun _ => fun
  | [d1, d2, d3] => { results := [.lit (.bool false)], args := [d1, d2, d3] }
  | _ => none }
def LocateLinesWrongFalsely : Prop := locateLinesRow.holds Try.pinned (OpenSpec.ofChange locateLinesWrong)

/-- 'regletlaw15.LocateBack': WHATEVER THE INPUT: true; the input reads as it did. -/
def locateBackSpec : ChangeSpec := { name := "locateBack", fn := fun _ => fun
  | [d1, d2] => { results := [.lit (.bool true)], args := [d1, d2] }
  | _ => none }
def locateBackRow : OpenClaim := { program := "ytiabffkfabmlpaa", sum := "2d080d98d2d2d46e9ad3e92901da809ebb98cea849937e157ceed5aa5f52d4ae", func := "reglet/regletlaw15.LocateBack", spec := "locateBack", named := ["math/bits.divideError", "math/bits.overflowError"], apart := false }
def LocateBackSaid : Prop := locateBackRow.holds Try.pinned (OpenSpec.ofChange locateBackSpec)

/-- ITS FALSE NEIGHBOUR: 'it returns false'. Refute it at one input. -/
def locateBackWrong : ChangeSpec := { name := "locateBack", fn := fun _ => fun
  | [d1, d2] => { results := [.lit (.bool false)], args := [d1, d2] }
  | _ => none }
def LocateBackWrongFalsely : Prop := locateBackRow.holds Try.pinned (OpenSpec.ofChange locateBackWrong)

/- THE SECOND FORM. 'bulk': how many values and letters a reading holds, each counted each time it is reached (what is shared counts as often as it is met; a slice's spare places count too). A statement '..UptoSaid' is the law's where the arguments, and the package variables that the reading takes, are together of bulk at most 1048576: NARROWER than '..Said'. Prove '..Said' where nothing that the law and all that it calls make is longer than what came in: it says more and counts as full. Else prove '..UptoSaid'. A law counts once. -/
mutual
def uptoBulk {H : Type} : DataW H → Nat
  | .lit (.string bytes) => bytes.length + 1
  | .lit _ => 1
  | .nil => 1
  | .ptr d => uptoBulk d + 1
  | .slice elems spare => uptoBulkAll elems + uptoBulkAll spare + 1
  | .agg parts => uptoBulkAll parts + 1
  | .iface _ d => uptoBulk d + 1
  | .map entries => uptoBulkEntries entries + 1
  | .held _ => 1
def uptoBulkAll {H : Type} : List (DataW H) → Nat
  | [] => 0
  | d :: r => uptoBulk d + uptoBulkAll r
def uptoBulkEntries {H : Type} : List (Lit × DataW H) → Nat
  | [] => 0
  | x :: r => uptoBulkEntry x + uptoBulkEntries r
def uptoBulkEntry {H : Type} : Lit × DataW H → Nat
  | (.string bytes, d) => bytes.length + uptoBulk d + 1
  | (_, d) => uptoBulk d + 1
 end
def uptoSmall : (H : Type) → List (DataW H) → Bool := fun _ ds => decide (uptoBulkAll ds ≤ 1048576)
def OpenSpec.upto (s : _root_.Go.ChangeSpec) : _root_.Go.OpenSpec := { _root_.Go.OpenSpec.ofChange s with cond := some uptoSmall }

/-- 'regletlaw15.LocateHeights', WHERE WHAT IT READS IS OF BULK AT MOST 1048576: true; the input reads as it did. -/
def locateHeightsUptoRow : OpenClaim := { program := "ytiabffkfabmlpaa", sum := "2d080d98d2d2d46e9ad3e92901da809ebb98cea849937e157ceed5aa5f52d4ae", func := "reglet/regletlaw15.LocateHeights", spec := "locateHeights", named := ["math/bits.divideError", "math/bits.overflowError"], apart := false, narrowed := true }
def LocateHeightsUptoSaid : Prop := locateHeightsUptoRow.holds Try.pinned (OpenSpec.upto locateHeightsSpec)

/-- 'regletlaw15.LocateStops', WHERE WHAT IT READS IS OF BULK AT MOST 1048576: true; the input reads as it did. -/
def locateStopsUptoRow : OpenClaim := { program := "ytiabffkfabmlpaa", sum := "2d080d98d2d2d46e9ad3e92901da809ebb98cea849937e157ceed5aa5f52d4ae", func := "reglet/regletlaw15.LocateStops", spec := "locateStops", named := ["math/bits.divideError", "math/bits.overflowError"], apart := false, narrowed := true }
def LocateStopsUptoSaid : Prop := locateStopsUptoRow.holds Try.pinned (OpenSpec.upto locateStopsSpec)

/-- 'regletlaw15.LocateSpots', WHERE WHAT IT READS IS OF BULK AT MOST 1048576: true; the input reads as it did. -/
def locateSpotsUptoRow : OpenClaim := { program := "ytiabffkfabmlpaa", sum := "2d080d98d2d2d46e9ad3e92901da809ebb98cea849937e157ceed5aa5f52d4ae", func := "reglet/regletlaw15.LocateSpots", spec := "locateSpots", named := ["math/bits.divideError", "math/bits.overflowError"], apart := false, narrowed := true }
def LocateSpotsUptoSaid : Prop := locateSpotsUptoRow.holds Try.pinned (OpenSpec.upto locateSpotsSpec)

/-- 'regletlaw15.LocateHits', WHERE WHAT IT READS IS OF BULK AT MOST 1048576: true; the input reads as it did. -/
def locateHitsUptoRow : OpenClaim := { program := "ytiabffkfabmlpaa", sum := "2d080d98d2d2d46e9ad3e92901da809ebb98cea849937e157ceed5aa5f52d4ae", func := "reglet/regletlaw15.LocateHits", spec := "locateHits", named := ["math/bits.divideError", "math/bits.overflowError"], apart := false, narrowed := true }
def LocateHitsUptoSaid : Prop := locateHitsUptoRow.holds Try.pinned (OpenSpec.upto locateHitsSpec)

/-- 'regletlaw15.LocateLines', WHERE WHAT IT READS IS OF BULK AT MOST 1048576: true; the input reads as it did. -/
def locateLinesUptoRow : OpenClaim := { program := "ytiabffkfabmlpaa", sum := "2d080d98d2d2d46e9ad3e92901da809ebb98cea849937e157ceed5aa5f52d4ae", func := "reglet/regletlaw15.LocateLines", spec := "locateLines", named := ["math/bits.divideError", "math/bits.overflowError"], apart := false, narrowed := true }
def LocateLinesUptoSaid : Prop := locateLinesUptoRow.holds Try.pinned (OpenSpec.upto locateLinesSpec)

/-- 'regletlaw15.LocateBack', WHERE WHAT IT READS IS OF BULK AT MOST 1048576: true; the input reads as it did. -/
def locateBackUptoRow : OpenClaim := { program := "ytiabffkfabmlpaa", sum := "2d080d98d2d2d46e9ad3e92901da809ebb98cea849937e157ceed5aa5f52d4ae", func := "reglet/regletlaw15.LocateBack", spec := "locateBack", named := ["math/bits.divideError", "math/bits.overflowError"], apart := false, narrowed := true }
def LocateBackUptoSaid : Prop := locateBackUptoRow.holds Try.pinned (OpenSpec.upto locateBackSpec)

end Rows
end Go.Proofs.Ytiabffkfabmlpaa
