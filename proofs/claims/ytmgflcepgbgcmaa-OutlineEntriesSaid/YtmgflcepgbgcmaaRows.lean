/-
  No cell of these rows narrows 'for every input' (looked for: loops, veiled, ifaces, maps, wideKeys, modest, calm, conditions, laid).
  DERIVED. THE GIVEN ROWS OF THIS SEAT. 7 by the template 'for every input the law returns true; each argument reads behind the call as it read before'; 0 by the template 'total and deterministic' (their statements: YtmgflcepgbgcmaaTotals.lean).
  GIVEN WITH THE SEED: the statements are not yours to turn. If you find one false, say at which input.
  Laid BY PROGRAM, IN A SANDBOX (cutbox-rows.mjs): the forced cells as the released guide's own fill.sh prints them over the translation 6e276a9733e9dcad… (all of the seat's roots in one cut). By AI agents, Wed Nov 11 2026. No macro, syntax, notation, axiom, sorry.
-/
import Derived.Test.YtmgflcepgbgcmaaChecked
import GoSem.Claim
import GoSem.ClaimJoined
import GoSem.ClaimMapViews
import Derived.JoinedTies
import Derived.KernelRfl
namespace Go.Proofs.Ytmgflcepgbgcmaa
/- THE CELL 'sum', in the pinned program and in every row, IS THE sha256 OF THE DUMP (.gsa) THAT YtmgflcepgbgcmaaProg.lean LOADS. Nothing in Lean hashes anything: it is a label: what it is worth is what the hold of that sum in a sandbox is worth. -/
noncomputable def Try.pinned : Pinned := { name := "ytmgflcepgbgcmaa", sum := "6e276a9733e9dcada9bf6d8a9ca3bea9d957b574b245220ad96730471e37e4f6", checked := Try.checked }
namespace Rows
def none {H : Type} : Left H := { results := [], args := [] }

/-- 'regletlaw22.OutlineRoman': WHATEVER THE INPUT: true; the input reads as it did. -/
def outlineRomanSpec : ChangeSpec := { name := "outlineRoman", fn := fun _ => fun
  | [d] => { results := [.lit (.bool true)], args := [d] }
  | _ => none }
def outlineRomanRow : OpenClaim := { program := "ytmgflcepgbgcmaa", sum := "6e276a9733e9dcada9bf6d8a9ca3bea9d957b574b245220ad96730471e37e4f6", func := "reglet/regletlaw22.OutlineRoman", spec := "outlineRoman", inPlace := ["internal/abi.NoEscape", "internal/bytealg.MakeNoZero"], recurses := true, apart := false }
def OutlineRomanSaid : Prop := outlineRomanRow.holds Try.pinned (OpenSpec.ofChange outlineRomanSpec)

/-- ITS FALSE NEIGHBOUR: 'it returns false'. Refute it at one input. -/
def outlineRomanWrong : ChangeSpec := { name := "outlineRoman", fn := fun _ => fun
  | [d] => { results := [.lit (.bool false)], args := [d] }
  | _ => none }
def OutlineRomanWrongFalsely : Prop := outlineRomanRow.holds Try.pinned (OpenSpec.ofChange outlineRomanWrong)

/-- 'regletlaw22.OutlineUnlike': WHATEVER THE INPUT: true; the input reads as it did. -/
def outlineUnlikeSpec : ChangeSpec := { name := "outlineUnlike", fn := fun _ => fun
  | [d1, d2] => { results := [.lit (.bool true)], args := [d1, d2] }
  | _ => none }
def outlineUnlikeRow : OpenClaim := { program := "ytmgflcepgbgcmaa", sum := "6e276a9733e9dcada9bf6d8a9ca3bea9d957b574b245220ad96730471e37e4f6", func := "reglet/regletlaw22.OutlineUnlike", spec := "outlineUnlike", inPlace := ["internal/abi.NoEscape", "internal/bytealg.MakeNoZero"], recurses := true, apart := false }
def OutlineUnlikeSaid : Prop := outlineUnlikeRow.holds Try.pinned (OpenSpec.ofChange outlineUnlikeSpec)

/-- ITS FALSE NEIGHBOUR: 'it returns false'. Refute it at one input. -/
def outlineUnlikeWrong : ChangeSpec := { name := "outlineUnlike", fn := fun _ => fun
  | [d1, d2] => { results := [.lit (.bool false)], args := [d1, d2] }
  | _ => none }
def OutlineUnlikeWrongFalsely : Prop := outlineUnlikeRow.holds Try.pinned (OpenSpec.ofChange outlineUnlikeWrong)

/-- 'regletlaw22.OutlineLabels': WHATEVER THE INPUT: true; the input reads as it did. -/
def outlineLabelsSpec : ChangeSpec := { name := "outlineLabels", fn := fun _ => fun
  | [d1, d2] => { results := [.lit (.bool true)], args := [d1, d2] }
  | _ => none }
def outlineLabelsRow : OpenClaim := { program := "ytmgflcepgbgcmaa", sum := "6e276a9733e9dcada9bf6d8a9ca3bea9d957b574b245220ad96730471e37e4f6", func := "reglet/regletlaw22.OutlineLabels", spec := "outlineLabels", inPlace := ["internal/abi.NoEscape", "internal/bytealg.MakeNoZero"], recurses := true, apart := false }
def OutlineLabelsSaid : Prop := outlineLabelsRow.holds Try.pinned (OpenSpec.ofChange outlineLabelsSpec)

/-- ITS FALSE NEIGHBOUR: 'it returns false'. Refute it at one input. -/
def outlineLabelsWrong : ChangeSpec := { name := "outlineLabels", fn := fun _ => fun
  | [d1, d2] => { results := [.lit (.bool false)], args := [d1, d2] }
  | _ => none }
def OutlineLabelsWrongFalsely : Prop := outlineLabelsRow.holds Try.pinned (OpenSpec.ofChange outlineLabelsWrong)

/-- 'regletlaw22.OutlineRows': WHATEVER THE INPUT: true; the input reads as it did. -/
def outlineRowsSpec : ChangeSpec := { name := "outlineRows", fn := fun _ => fun
  | [d1, d2, d3] => { results := [.lit (.bool true)], args := [d1, d2, d3] }
  | _ => none }
def outlineRowsRow : OpenClaim := { program := "ytmgflcepgbgcmaa", sum := "6e276a9733e9dcada9bf6d8a9ca3bea9d957b574b245220ad96730471e37e4f6", func := "reglet/regletlaw22.OutlineRows", spec := "outlineRows", inPlace := ["internal/abi.NoEscape", "internal/bytealg.MakeNoZero"], recurses := true, apart := false }
def OutlineRowsSaid : Prop := outlineRowsRow.holds Try.pinned (OpenSpec.ofChange outlineRowsSpec)

/-- ITS FALSE NEIGHBOUR: 'it returns false'. Refute it at one input. -/
def outlineRowsWrong : ChangeSpec := { name := "outlineRows", fn := fun _ => fun
  | [d1, d2, d3] => { results := [.lit (.bool false)], args := [d1, d2, d3] }
  | _ => none }
def OutlineRowsWrongFalsely : Prop := outlineRowsRow.holds Try.pinned (OpenSpec.ofChange outlineRowsWrong)

/-- 'regletlaw22.OutlineSpans': WHATEVER THE INPUT: true; the input reads as it did. -/
def outlineSpansSpec : ChangeSpec := { name := "outlineSpans", fn := fun _ => fun
  | [d] => { results := [.lit (.bool true)], args := [d] }
  | _ => none }
def outlineSpansRow : OpenClaim := { program := "ytmgflcepgbgcmaa", sum := "6e276a9733e9dcada9bf6d8a9ca3bea9d957b574b245220ad96730471e37e4f6", func := "reglet/regletlaw22.OutlineSpans", spec := "outlineSpans", inPlace := ["internal/abi.NoEscape", "internal/bytealg.MakeNoZero"], recurses := true, apart := false }
def OutlineSpansSaid : Prop := outlineSpansRow.holds Try.pinned (OpenSpec.ofChange outlineSpansSpec)

/-- ITS FALSE NEIGHBOUR: 'it returns false'. Refute it at one input. -/
def outlineSpansWrong : ChangeSpec := { name := "outlineSpans", fn := fun _ => fun
  | [d] => { results := [.lit (.bool false)], args := [d] }
  | _ => none }
def OutlineSpansWrongFalsely : Prop := outlineSpansRow.holds Try.pinned (OpenSpec.ofChange outlineSpansWrong)

/-- 'regletlaw22.OutlineEntries': WHATEVER THE INPUT: true; the input reads as it did. -/
def outlineEntriesSpec : ChangeSpec := { name := "outlineEntries", fn := fun _ => fun
  | [d1, d2, d3] => { results := [.lit (.bool true)], args := [d1, d2, d3] }
  | _ => none }
def outlineEntriesRow : OpenClaim := { program := "ytmgflcepgbgcmaa", sum := "6e276a9733e9dcada9bf6d8a9ca3bea9d957b574b245220ad96730471e37e4f6", func := "reglet/regletlaw22.OutlineEntries", spec := "outlineEntries", inPlace := ["internal/abi.NoEscape", "internal/bytealg.MakeNoZero"], recurses := true, apart := false }
def OutlineEntriesSaid : Prop := outlineEntriesRow.holds Try.pinned (OpenSpec.ofChange outlineEntriesSpec)

/-- ITS FALSE NEIGHBOUR: 'it returns false'. Refute it at one input. -/
def outlineEntriesWrong : ChangeSpec := { name := "outlineEntries", fn := fun _ => fun
  | [d1, d2, d3] => { results := [.lit (.bool false)], args := [d1, d2, d3] }
  | _ => none }
def OutlineEntriesWrongFalsely : Prop := outlineEntriesRow.holds Try.pinned (OpenSpec.ofChange outlineEntriesWrong)

/-- 'regletlaw22.OutlineIndex': WHATEVER THE INPUT: true; the input reads as it did. -/
def outlineIndexSpec : ChangeSpec := { name := "outlineIndex", fn := fun _ => fun
  | [d1, d2] => { results := [.lit (.bool true)], args := [d1, d2] }
  | _ => none }
def outlineIndexRow : OpenClaim := { program := "ytmgflcepgbgcmaa", sum := "6e276a9733e9dcada9bf6d8a9ca3bea9d957b574b245220ad96730471e37e4f6", func := "reglet/regletlaw22.OutlineIndex", spec := "outlineIndex", inPlace := ["internal/abi.NoEscape", "internal/bytealg.MakeNoZero", "internal/bytealg.abigen_runtime_cmpstring"], unfollowed := true, recurses := true, apart := false }
def OutlineIndexSaid : Prop := outlineIndexRow.holds Try.pinned (OpenSpec.ofChange outlineIndexSpec)

/-- ITS FALSE NEIGHBOUR: 'it returns false'. Refute it at one input. -/
def outlineIndexWrong : ChangeSpec := { name := "outlineIndex", fn := fun _ => fun
  | [d1, d2] => { results := [.lit (.bool false)], args := [d1, d2] }
  | _ => none }
def OutlineIndexWrongFalsely : Prop := outlineIndexRow.holds Try.pinned (OpenSpec.ofChange outlineIndexWrong)

/- THE SECOND FORM. 'bulk': how many values and letters a reading holds, each counted each time it is reached (what is shared counts as often as it is met; a slice's spare places count too). A statement '..UptoSaid' is the law's where the arguments, and the package variables that the reading takes, are together of bulk at most 1048576: NARROWER than '..Said'. Prove '..Said' where nothing that the law and all that it calls make is longer than what came in: it says more and counts as full. Else prove '..UptoSaid'. A law counts once. -/
mutual
def uptoBulk {H : Type} : DataW H → Nat
  | .lit (.string bytes) => bytes.length + 1
  | .lit _ => 1
  | .nil => 1
  | .ptr d => uptoBulk d + 1
  | .slice elems spare => uptoBulkAll elems + uptoBulkAll spare + 1
  | .agg parts => uptoBulkAll parts + 1
  | .iface _ d => uptoBulk d + 1
  | .map entries => uptoBulkEntries entries + 1
  | .held _ => 1
def uptoBulkAll {H : Type} : List (DataW H) → Nat
  | [] => 0
  | d :: r => uptoBulk d + uptoBulkAll r
def uptoBulkEntries {H : Type} : List (Lit × DataW H) → Nat
  | [] => 0
  | x :: r => uptoBulkEntry x + uptoBulkEntries r
def uptoBulkEntry {H : Type} : Lit × DataW H → Nat
  | (.string bytes, d) => bytes.length + uptoBulk d + 1
  | (_, d) => uptoBulk d + 1
 end
def uptoSmall : (H : Type) → List (DataW H) → Bool := fun _ ds => decide (uptoBulkAll ds ≤ 1048576)
def OpenSpec.upto (s : _root_.Go.ChangeSpec) : _root_.Go.OpenSpec := { _root_.Go.OpenSpec.ofChange s with cond := some uptoSmall }

/-- 'regletlaw22.OutlineRoman', WHERE WHAT IT READS IS OF BULK AT MOST 1048576: true; the input reads as it did. -/
def outlineRomanUptoRow : OpenClaim := { program := "ytmgflcepgbgcmaa", sum := "6e276a9733e9dcada9bf6d8a9ca3bea9d957b574b245220ad96730471e37e4f6", func := "reglet/regletlaw22.OutlineRoman", spec := "outlineRoman", inPlace := ["internal/abi.NoEscape", "internal/bytealg.MakeNoZero"], recurses := true, apart := false, narrowed := true }
def OutlineRomanUptoSaid : Prop := outlineRomanUptoRow.holds Try.pinned (OpenSpec.upto outlineRomanSpec)

/-- 'regletlaw22.OutlineUnlike', WHERE WHAT IT READS IS OF BULK AT MOST 1048576: true; the input reads as it did. -/
def outlineUnlikeUptoRow : OpenClaim := { program := "ytmgflcepgbgcmaa", sum := "6e276a9733e9dcada9bf6d8a9ca3bea9d957b574b245220ad96730471e37e4f6", func := "reglet/regletlaw22.OutlineUnlike", spec := "outlineUnlike", inPlace := ["internal/abi.NoEscape", "internal/bytealg.MakeNoZero"], recurses := true, apart := false, narrowed := true }
def OutlineUnlikeUptoSaid : Prop := outlineUnlikeUptoRow.holds Try.pinned (OpenSpec.upto outlineUnlikeSpec)

/-- 'regletlaw22.OutlineLabels', WHERE WHAT IT READS IS OF BULK AT MOST 1048576: true; the input reads as it did. -/
def outlineLabelsUptoRow : OpenClaim := { program := "ytmgflcepgbgcmaa", sum := "6e276a9733e9dcada9bf6d8a9ca3bea9d957b574b245220ad96730471e37e4f6", func := "reglet/regletlaw22.OutlineLabels", spec := "outlineLabels", inPlace := ["internal/abi.NoEscape", "internal/bytealg.MakeNoZero"], recurses := true, apart := false, narrowed := true }
def OutlineLabelsUptoSaid : Prop := outlineLabelsUptoRow.holds Try.pinned (OpenSpec.upto outlineLabelsSpec)

/-- 'regletlaw22.OutlineRows', WHERE WHAT IT READS IS OF BULK AT MOST 1048576: true; the input reads as it did. -/
def outlineRowsUptoRow : OpenClaim := { program := "ytmgflcepgbgcmaa", sum := "6e276a9733e9dcada9bf6d8a9ca3bea9d957b574b245220ad96730471e37e4f6", func := "reglet/regletlaw22.OutlineRows", spec := "outlineRows", inPlace := ["internal/abi.NoEscape", "internal/bytealg.MakeNoZero"], recurses := true, apart := false, narrowed := true }
def OutlineRowsUptoSaid : Prop := outlineRowsUptoRow.holds Try.pinned (OpenSpec.upto outlineRowsSpec)

/-- 'regletlaw22.OutlineSpans', WHERE WHAT IT READS IS OF BULK AT MOST 1048576: true; the input reads as it did. -/
def outlineSpansUptoRow : OpenClaim := { program := "ytmgflcepgbgcmaa", sum := "6e276a9733e9dcada9bf6d8a9ca3bea9d957b574b245220ad96730471e37e4f6", func := "reglet/regletlaw22.OutlineSpans", spec := "outlineSpans", inPlace := ["internal/abi.NoEscape", "internal/bytealg.MakeNoZero"], recurses := true, apart := false, narrowed := true }
def OutlineSpansUptoSaid : Prop := outlineSpansUptoRow.holds Try.pinned (OpenSpec.upto outlineSpansSpec)

/-- 'regletlaw22.OutlineEntries', WHERE WHAT IT READS IS OF BULK AT MOST 1048576: true; the input reads as it did. -/
def outlineEntriesUptoRow : OpenClaim := { program := "ytmgflcepgbgcmaa", sum := "6e276a9733e9dcada9bf6d8a9ca3bea9d957b574b245220ad96730471e37e4f6", func := "reglet/regletlaw22.OutlineEntries", spec := "outlineEntries", inPlace := ["internal/abi.NoEscape", "internal/bytealg.MakeNoZero"], recurses := true, apart := false, narrowed := true }
def OutlineEntriesUptoSaid : Prop := outlineEntriesUptoRow.holds Try.pinned (OpenSpec.upto outlineEntriesSpec)

/-- 'regletlaw22.OutlineIndex', WHERE WHAT IT READS IS OF BULK AT MOST 1048576: true; the input reads as it did. -/
def outlineIndexUptoRow : OpenClaim := { program := "ytmgflcepgbgcmaa", sum := "6e276a9733e9dcada9bf6d8a9ca3bea9d957b574b245220ad96730471e37e4f6", func := "reglet/regletlaw22.OutlineIndex", spec := "outlineIndex", inPlace := ["internal/abi.NoEscape", "internal/bytealg.MakeNoZero", "internal/bytealg.abigen_runtime_cmpstring"], unfollowed := true, recurses := true, apart := false, narrowed := true }
def OutlineIndexUptoSaid : Prop := outlineIndexUptoRow.holds Try.pinned (OpenSpec.upto outlineIndexSpec)

end Rows
end Go.Proofs.Ytmgflcepgbgcmaa
