/-
  No cell of these rows narrows 'for every input' (looked for: loops, veiled, ifaces, maps, wideKeys, modest, calm, conditions, laid).
  DERIVED. THE GIVEN ROWS OF THIS SEAT. 5 by the template 'for every input the law returns true; each argument reads behind the call as it read before'; 0 by the template 'total and deterministic' (their statements: YthfijdffkbkifaaTotals.lean).
  GIVEN WITH THE SEED: the statements are not yours to turn. If you find one false, say at which input.
  Laid BY PROGRAM, IN A SANDBOX (cutbox-rows.mjs): the forced cells as the released guide's own fill.sh prints them over the translation 4a6cbfa01eb90e99… (all of the seat's roots in one cut). By AI agents, Wed Nov 11 2026. No macro, syntax, notation, axiom, sorry.
-/
import Derived.Test.YthfijdffkbkifaaChecked
import GoSem.Claim
import GoSem.ClaimJoined
import GoSem.ClaimMapViews
import Derived.JoinedTies
import Derived.KernelRfl
namespace Go.Proofs.Ythfijdffkbkifaa
/- THE CELL 'sum', in the pinned program and in every row, IS THE sha256 OF THE DUMP (.gsa) THAT YthfijdffkbkifaaProg.lean LOADS. Nothing in Lean hashes anything: it is a label: what it is worth is what the hold of that sum in a sandbox is worth. -/
noncomputable def Try.pinned : Pinned := { name := "ythfijdffkbkifaa", sum := "4a6cbfa01eb90e998471fc15949cd0a954b50f919e46ccfb36fc20927a58458c", checked := Try.checked }
namespace Rows
def none {H : Type} : Left H := { results := [], args := [] }

/-- 'regletlaw16.MarksMany': WHATEVER THE INPUT: true; the input reads as it did. -/
def marksManySpec : ChangeSpec := { name := "marksMany", fn := fun _ => fun
  | [d1, d2] => { results := [.lit (.bool true)], args := [d1, d2] }
  | _ => none }
def marksManyRow : OpenClaim := { program := "ythfijdffkbkifaa", sum := "4a6cbfa01eb90e998471fc15949cd0a954b50f919e46ccfb36fc20927a58458c", func := "reglet/regletlaw16.MarksMany", spec := "marksMany", unfollowed := true, recurses := true, apart := false }
def MarksManySaid : Prop := marksManyRow.holds Try.pinned (OpenSpec.ofChange marksManySpec)

/-- ITS FALSE NEIGHBOUR: 'it returns false'. Refute it at one input. -/
def marksManyWrong : ChangeSpec := { name := "marksMany", fn := fun _ => fun
  | [d1, d2] => { results := [.lit (.bool false)], args := [d1, d2] }
  | _ => none }
def MarksManyWrongFalsely : Prop := marksManyRow.holds Try.pinned (OpenSpec.ofChange marksManyWrong)

/-- 'regletlaw16.MarksOrder': WHATEVER THE INPUT: true; the input reads as it did. -/
def marksOrderSpec : ChangeSpec := { name := "marksOrder", fn := fun _ => fun
  | [d1, d2, d3] => { results := [.lit (.bool true)], args := [d1, d2, d3] }
  | _ => none }
def marksOrderRow : OpenClaim := { program := "ythfijdffkbkifaa", sum := "4a6cbfa01eb90e998471fc15949cd0a954b50f919e46ccfb36fc20927a58458c", func := "reglet/regletlaw16.MarksOrder", spec := "marksOrder", unfollowed := true, recurses := true, apart := false }
def MarksOrderSaid : Prop := marksOrderRow.holds Try.pinned (OpenSpec.ofChange marksOrderSpec)

/-- ITS FALSE NEIGHBOUR: 'it returns false'. Refute it at one input. -/
def marksOrderWrong : ChangeSpec := { name := "marksOrder", fn := fun _ => fun
  | [d1, d2, d3] => { results := [.lit (.bool false)], args := [d1, d2, d3] }
  | _ => none }
def MarksOrderWrongFalsely : Prop := marksOrderRow.holds Try.pinned (OpenSpec.ofChange marksOrderWrong)

/-- 'regletlaw16.MarksBack': WHATEVER THE INPUT: true; the input reads as it did. -/
def marksBackSpec : ChangeSpec := { name := "marksBack", fn := fun _ => fun
  | [d1, d2, d3] => { results := [.lit (.bool true)], args := [d1, d2, d3] }
  | _ => none }
def marksBackRow : OpenClaim := { program := "ythfijdffkbkifaa", sum := "4a6cbfa01eb90e998471fc15949cd0a954b50f919e46ccfb36fc20927a58458c", func := "reglet/regletlaw16.MarksBack", spec := "marksBack", unfollowed := true, recurses := true, apart := false }
def MarksBackSaid : Prop := marksBackRow.holds Try.pinned (OpenSpec.ofChange marksBackSpec)

/-- ITS FALSE NEIGHBOUR: 'it returns false'. Refute it at one input. -/
def marksBackWrong : ChangeSpec := { name := "marksBack", fn := fun _ => fun
  | [d1, d2, d3] => { results := [.lit (.bool false)], args := [d1, d2, d3] }
  | _ => none }
def MarksBackWrongFalsely : Prop := marksBackRow.holds Try.pinned (OpenSpec.ofChange marksBackWrong)

/-- 'regletlaw16.MarksPlay': WHATEVER THE INPUT: true; the input reads as it did. -/
def marksPlaySpec : ChangeSpec := { name := "marksPlay", fn := fun _ => fun
  | [d1, d2, d3] => { results := [.lit (.bool true)], args := [d1, d2, d3] }
  | _ => none }
def marksPlayRow : OpenClaim := { program := "ythfijdffkbkifaa", sum := "4a6cbfa01eb90e998471fc15949cd0a954b50f919e46ccfb36fc20927a58458c", func := "reglet/regletlaw16.MarksPlay", spec := "marksPlay", unfollowed := true, recurses := true, apart := false }
def MarksPlaySaid : Prop := marksPlayRow.holds Try.pinned (OpenSpec.ofChange marksPlaySpec)

/-- ITS FALSE NEIGHBOUR: 'it returns false'. Refute it at one input. -/
def marksPlayWrong : ChangeSpec := { name := "marksPlay", fn := fun _ => fun
  | [d1, d2, d3] => { results := [.lit (.bool false)], args := [d1, d2, d3] }
  | _ => none }
def MarksPlayWrongFalsely : Prop := marksPlayRow.holds Try.pinned (OpenSpec.ofChange marksPlayWrong)

/-- 'regletlaw16.MarksBetween': WHATEVER THE INPUT: true; the input reads as it did. -/
def marksBetweenSpec : ChangeSpec := { name := "marksBetween", fn := fun _ => fun
  | [d1, d2, d3] => { results := [.lit (.bool true)], args := [d1, d2, d3] }
  | _ => none }
def marksBetweenRow : OpenClaim := { program := "ythfijdffkbkifaa", sum := "4a6cbfa01eb90e998471fc15949cd0a954b50f919e46ccfb36fc20927a58458c", func := "reglet/regletlaw16.MarksBetween", spec := "marksBetween", unfollowed := true, recurses := true, apart := false }
def MarksBetweenSaid : Prop := marksBetweenRow.holds Try.pinned (OpenSpec.ofChange marksBetweenSpec)

/-- ITS FALSE NEIGHBOUR: 'it returns false'. Refute it at one input. -/
def marksBetweenWrong : ChangeSpec := { name := "marksBetween", fn := fun _ => fun
  | [d1, d2, d3] => { results := [.lit (.bool false)], args := [d1, d2, d3] }
  | _ => none }
def MarksBetweenWrongFalsely : Prop := marksBetweenRow.holds Try.pinned (OpenSpec.ofChange marksBetweenWrong)

/- THE SECOND FORM. 'bulk': how many values and letters a reading holds, each counted each time it is reached (what is shared counts as often as it is met; a slice's spare places count too). A statement '..UptoSaid' is the law's where the arguments, and the package variables that the reading takes, are together of bulk at most 1048576: NARROWER than '..Said'. Prove '..Said' where nothing that the law and all that it calls make is longer than what came in: it says more and counts as full. Else prove '..UptoSaid'. A law counts once. -/
mutual
def uptoBulk {H : Type} : DataW H → Nat
  | .lit (.string bytes) => bytes.length + 1
  | .lit _ => 1
  | .nil => 1
  | .ptr d => uptoBulk d + 1
  | .slice elems spare => uptoBulkAll elems + uptoBulkAll spare + 1
  | .agg parts => uptoBulkAll parts + 1
  | .iface _ d => uptoBulk d + 1
  | .map entries => uptoBulkEntries entries + 1
  | .held _ => 1
def uptoBulkAll {H : Type} : List (DataW H) → Nat
  | [] => 0
  | d :: r => uptoBulk d + uptoBulkAll r
def uptoBulkEntries {H : Type} : List (Lit × DataW H) → Nat
  | [] => 0
  | x :: r => uptoBulkEntry x + uptoBulkEntries r
def uptoBulkEntry {H : Type} : Lit × DataW H → Nat
  | (.string bytes, d) => bytes.length + uptoBulk d + 1
  | (_, d) => uptoBulk d + 1
 end
def uptoSmall : (H : Type) → List (DataW H) → Bool := fun _ ds => decide (uptoBulkAll ds ≤ 1048576)
def OpenSpec.upto (s : _root_.Go.ChangeSpec) : _root_.Go.OpenSpec := { _root_.Go.OpenSpec.ofChange s with cond := some uptoSmall }

/-- 'regletlaw16.MarksMany', WHERE WHAT IT READS IS OF BULK AT MOST 1048576: true; the input reads as it did. -/
def marksManyUptoRow : OpenClaim := { program := "ythfijdffkbkifaa", sum := "4a6cbfa01eb90e998471fc15949cd0a954b50f919e46ccfb36fc20927a58458c", func := "reglet/regletlaw16.MarksMany", spec := "marksMany", unfollowed := true, recurses := true, apart := false, narrowed := true }
def MarksManyUptoSaid : Prop := marksManyUptoRow.holds Try.pinned (OpenSpec.upto marksManySpec)

/-- 'regletlaw16.MarksOrder', WHERE WHAT IT READS IS OF BULK AT MOST 1048576: true; the input reads as it did. -/
def marksOrderUptoRow : OpenClaim := { program := "ythfijdffkbkifaa", sum := "4a6cbfa01eb90e998471fc15949cd0a954b50f919e46ccfb36fc20927a58458c", func := "reglet/regletlaw16.MarksOrder", spec := "marksOrder", unfollowed := true, recurses := true, apart := false, narrowed := true }
def MarksOrderUptoSaid : Prop := marksOrderUptoRow.holds Try.pinned (OpenSpec.upto marksOrderSpec)

/-- 'regletlaw16.MarksBack', WHERE WHAT IT READS IS OF BULK AT MOST 1048576: true; the input reads as it did. -/
def marksBackUptoRow : OpenClaim := { program := "ythfijdffkbkifaa", sum := "4a6cbfa01eb90e998471fc15949cd0a954b50f919e46ccfb36fc20927a58458c", func := "reglet/regletlaw16.MarksBack", spec := "marksBack", unfollowed := true, recurses := true, apart := false, narrowed := true }
def MarksBackUptoSaid : Prop := marksBackUptoRow.holds Try.pinned (OpenSpec.upto marksBackSpec)

/-- 'regletlaw16.MarksPlay', WHERE WHAT IT READS IS OF BULK AT MOST 1048576: true; the input reads as it did. -/
def marksPlayUptoRow : OpenClaim := { program := "ythfijdffkbkifaa", sum := "4a6cbfa01eb90e998471fc15949cd0a954b50f919e46ccfb36fc20927a58458c", func := "reglet/regletlaw16.MarksPlay", spec := "marksPlay", unfollowed := true, recurses := true, apart := false, narrowed := true }
def MarksPlayUptoSaid : Prop := marksPlayUptoRow.holds Try.pinned (OpenSpec.upto marksPlaySpec)

/-- 'regletlaw16.MarksBetween', WHERE WHAT IT READS IS OF BULK AT MOST 1048576: true; the input reads as it did. -/
def marksBetweenUptoRow : OpenClaim := { program := "ythfijdffkbkifaa", sum := "4a6cbfa01eb90e998471fc15949cd0a954b50f919e46ccfb36fc20927a58458c", func := "reglet/regletlaw16.MarksBetween", spec := "marksBetween", unfollowed := true, recurses := true, apart := false, narrowed := true }
def MarksBetweenUptoSaid : Prop := marksBetweenUptoRow.holds Try.pinned (OpenSpec.upto marksBetweenSpec)

end Rows
end Go.Proofs.Ythfijdffkbkifaa
