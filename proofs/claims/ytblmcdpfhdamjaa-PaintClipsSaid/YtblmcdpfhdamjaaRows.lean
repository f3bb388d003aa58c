/-
  No cell of these rows narrows 'for every input' (looked for: loops, veiled, ifaces, maps, wideKeys, modest, calm, conditions, laid).
  DERIVED. THE GIVEN ROWS OF THIS SEAT. 7 by the template 'for every input the law returns true; each argument reads behind the call as it read before'; 0 by the template 'total and deterministic' (their statements: YtblmcdpfhdamjaaTotals.lean).
  GIVEN WITH THE SEED: the statements are not yours to turn. If you find one false, say at which input.
  Laid BY PROGRAM, IN A SANDBOX (cutbox-rows.mjs): the forced cells as the released guide's own fill.sh prints them over the translation 95fab7fb39834d53… (all of the seat's roots in one cut). By AI agents, Wed Nov 11 2026. No macro, syntax, notation, axiom, sorry.
-/
import Derived.Test.YtblmcdpfhdamjaaChecked
import GoSem.Claim
import GoSem.ClaimJoined
import GoSem.ClaimMapViews
import Derived.JoinedTies
import Derived.KernelRfl
namespace Go.Proofs.Ytblmcdpfhdamjaa
/- THE CELL 'sum', in the pinned program and in every row, IS THE sha256 OF THE DUMP (.gsa) THAT YtblmcdpfhdamjaaProg.lean LOADS. Nothing in Lean hashes anything: it is a label: what it is worth is what the hold of that sum in a sandbox is worth. -/
noncomputable def Try.pinned : Pinned := { name := "ytblmcdpfhdamjaa", sum := "95fab7fb39834d5339a235e558d7d4174c24ec9870cc128946e73f243f2dcc85", checked := Try.checked }
namespace Rows
def none {H : Type} : Left H := { results := [], args := [] }

/-- 'regletlaw21.PaintLines': WHATEVER THE INPUT: true; the input reads as it did. -/
def paintLinesSpec : ChangeSpec := { name := "paintLines", fn := fun _ => fun
  | [d1, d2] => { results := [.lit (.bool true)], args := [d1, d2] }
  | _ => none }
def paintLinesRow : OpenClaim := { program := "ytblmcdpfhdamjaa", sum := "95fab7fb39834d5339a235e558d7d4174c24ec9870cc128946e73f243f2dcc85", func := "reglet/regletlaw21.PaintLines", spec := "paintLines", named := ["math/bits.divideError", "math/bits.overflowError"], apart := false }
def PaintLinesSaid : Prop := paintLinesRow.holds Try.pinned (OpenSpec.ofChange paintLinesSpec)

/-- ITS FALSE NEIGHBOUR: 'it returns false'. Refute it at one input. -/
def paintLinesWrong : ChangeSpec := { name := "paintLines", fn := fun _ => fun
  | [d1, d2] => { results := [.lit (.bool false)], args := [d1, d2] }
  | _ => none }
def PaintLinesWrongFalsely : Prop := paintLinesRow.holds Try.pinned (OpenSpec.ofChange paintLinesWrong)

/-- 'regletlaw21.PaintSeen': WHATEVER THE INPUT: true; the input reads as it did. -/
def paintSeenSpec : ChangeSpec := { name := "paintSeen", fn := fun _ => fun
  | [d1, d2] => { results := [.lit (.bool true)], args := [d1, d2] }
  | _ => none }
def paintSeenRow : OpenClaim := { program := "ytblmcdpfhdamjaa", sum := "95fab7fb39834d5339a235e558d7d4174c24ec9870cc128946e73f243f2dcc85", func := "reglet/regletlaw21.PaintSeen", spec := "paintSeen", named := ["math/bits.divideError", "math/bits.overflowError"], apart := false }
def PaintSeenSaid : Prop := paintSeenRow.holds Try.pinned (OpenSpec.ofChange paintSeenSpec)

/-- ITS FALSE NEIGHBOUR: 'it returns false'. Refute it at one input. -/
def paintSeenWrong : ChangeSpec := { name := "paintSeen", fn := fun _ => fun
  | [d1, d2] => { results := [.lit (.bool false)], args := [d1, d2] }
  | _ => none }
def PaintSeenWrongFalsely : Prop := paintSeenRow.holds Try.pinned (OpenSpec.ofChange paintSeenWrong)

/-- 'regletlaw21.PaintWindow': WHATEVER THE INPUT: true; the input reads as it did. -/
def paintWindowSpec : ChangeSpec := { name := "paintWindow", fn := fun _ => fun
  | [d1, d2, d3] => { results := [.lit (.bool true)], args := [d1, d2, d3] }
  | _ => none }
def paintWindowRow : OpenClaim := { program := "ytblmcdpfhdamjaa", sum := "95fab7fb39834d5339a235e558d7d4174c24ec9870cc128946e73f243f2dcc85", func := "reglet/regletlaw21.PaintWindow", spec := "paintWindow", named := ["math/bits.divideError", "math/bits.overflowError"], apart := false }
def PaintWindowSaid : Prop := paintWindowRow.holds Try.pinned (OpenSpec.ofChange paintWindowSpec)

/-- ITS FALSE NEIGHBOUR: 'it returns false'. Refute it at one input. -/
def paintWindowWrong : ChangeSpec := { name := "paintWindow", fn := fun _ => fun
  | [d1, d2, d3] => { results := [.lit (.bool false)], args := [d1, d2, d3] }
  | _ => none }
def PaintWindowWrongFalsely : Prop := paintWindowRow.holds Try.pinned (OpenSpec.ofChange paintWindowWrong)

/-- 'regletlaw21.PaintPages': WHATEVER THE INPUT: true; the input reads as it did. -/
def paintPagesSpec : ChangeSpec := { name := "paintPages", fn := fun _ => fun
  | [d1, d2] => { results := [.lit (.bool true)], args := [d1, d2] }
  | _ => none }
def paintPagesRow : OpenClaim := { program := "ytblmcdpfhdamjaa", sum := "95fab7fb39834d5339a235e558d7d4174c24ec9870cc128946e73f243f2dcc85", func := "reglet/regletlaw21.PaintPages", spec := "paintPages", named := ["math/bits.divideError", "math/bits.overflowError"], apart := false }
def PaintPagesSaid : Prop := paintPagesRow.holds Try.pinned (OpenSpec.ofChange paintPagesSpec)

/-- ITS FALSE NEIGHBOUR: 'it returns false'. Refute it at one input. -/
def paintPagesWrong : ChangeSpec := { name := "paintPages", fn := fun _ => fun
  | [d1, d2] => { results := [.lit (.bool false)], args := [d1, d2] }
  | _ => none }
def PaintPagesWrongFalsely : Prop := paintPagesRow.holds Try.pinned (OpenSpec.ofChange paintPagesWrong)

/-- 'regletlaw21.PaintEnough': WHATEVER THE INPUT: true; the input reads as it did. -/
def paintEnoughSpec : ChangeSpec := { name := "paintEnough", fn := fun _ => fun
  | [d1, d2] => { results := [.lit (.bool true)], args := [d1, d2] }
  | _ => none }
def paintEnoughRow : OpenClaim := { program := "ytblmcdpfhdamjaa", sum := "95fab7fb39834d5339a235e558d7d4174c24ec9870cc128946e73f243f2dcc85", func := "reglet/regletlaw21.PaintEnough", spec := "paintEnough", named := ["math/bits.divideError", "math/bits.overflowError"], apart := false }
def PaintEnoughSaid : Prop := paintEnoughRow.holds Try.pinned (OpenSpec.ofChange paintEnoughSpec)

/-- ITS FALSE NEIGHBOUR: 'it returns false'. Refute it at one input. -/
def paintEnoughWrong : ChangeSpec := { name := "paintEnough", fn := fun _ => fun
  | [d1, d2] => { results := [.lit (.bool false)], args := [d1, d2] }
  | _ => none }
def PaintEnoughWrongFalsely : Prop := paintEnoughRow.holds Try.pinned (OpenSpec.ofChange paintEnoughWrong)

/-- 'regletlaw21.PaintJoins': WHATEVER THE INPUT: true; the input reads as it did. -/
def paintJoinsSpec : ChangeSpec := { name := "paintJoins", fn := fun _ => fun
  | [d1, d2, d3] => { results := [.lit (.bool true)], args := [d1, d2, d3] }
  | _ => none }
def paintJoinsRow : OpenClaim := { program := "ytblmcdpfhdamjaa", sum := "95fab7fb39834d5339a235e558d7d4174c24ec9870cc128946e73f243f2dcc85", func := "reglet/regletlaw21.PaintJoins", spec := "paintJoins", unfollowed := true, recurses := true, named := ["math/bits.divideError", "math/bits.overflowError"], apart := false }
def PaintJoinsSaid : Prop := paintJoinsRow.holds Try.pinned (OpenSpec.ofChange paintJoinsSpec)

/-- ITS FALSE NEIGHBOUR: 'it returns false'. Refute it at one input. -/
def paintJoinsWrong : ChangeSpec := { name := "paintJoins", fn := fun _ => fun
  | [d1, d2, d3] => { results := [.lit (.bool false)], args := [d1, d2, d3] }
  | _ => none }
def PaintJoinsWrongFalsely : Prop := paintJoinsRow.holds Try.pinned (OpenSpec.ofChange paintJoinsWrong)

/-- 'regletlaw21.PaintClips': WHATEVER THE INPUT: true; the input reads as it did. -/
def paintClipsSpec : ChangeSpec := { name := "paintClips", fn := fun _ => fun
  | [d1, d2, d3] => { results := [.lit (.bool true)], args := [d1, d2, d3] }
  | _ => none }
def paintClipsRow : OpenClaim := { program := "ytblmcdpfhdamjaa", sum := "95fab7fb39834d5339a235e558d7d4174c24ec9870cc128946e73f243f2dcc85", func := "reglet/regletlaw21.PaintClips", spec := "paintClips", unfollowed := true, recurses := true, named := ["math/bits.divideError", "math/bits.overflowError"], apart := false }
def PaintClipsSaid : Prop := paintClipsRow.holds Try.pinned (OpenSpec.ofChange paintClipsSpec)

/-- ITS FALSE NEIGHBOUR: 'it returns false'. Refute it at one input. -/
def paintClipsWrong : ChangeSpec := { name := "paintClips", fn := fun _ => fun
  | [d1, d2, d3] => { results := [.lit (.bool false)], args := [d1, d2, d3] }
  | _ => none }
def PaintClipsWrongFalsely : Prop := paintClipsRow.holds Try.pinned (OpenSpec.ofChange paintClipsWrong)

/- THE SECOND FORM. 'bulk': how many values and letters a reading holds, each counted each time it is reached (what is shared counts as often as it is met; a slice's spare places count too). A statement '..UptoSaid' is the law's where the arguments, and the package variables that the reading takes, are together of bulk at most 1048576: NARROWER than '..Said'. Prove '..Said' where nothing that the law and all that it calls make is longer than what came in: it says more and counts as full. Else prove '..UptoSaid'. A law counts once. -/
mutual
def uptoBulk {H : Type} : DataW H → Nat
  | .lit (.string bytes) => bytes.length + 1
  | .lit _ => 1
  | .nil => 1
  | .ptr d => uptoBulk d + 1
  | .slice elems spare => uptoBulkAll elems + uptoBulkAll spare + 1
  | .agg parts => uptoBulkAll parts + 1
  | .iface _ d => uptoBulk d + 1
  | .map entries => uptoBulkEntries entries + 1
  | .held _ => 1
def uptoBulkAll {H : Type} : List (DataW H) → Nat
  | [] => 0
  | d :: r => uptoBulk d + uptoBulkAll r
def uptoBulkEntries {H : Type} : List (Lit × DataW H) → Nat
  | [] => 0
  | x :: r => uptoBulkEntry x + uptoBulkEntries r
def uptoBulkEntry {H : Type} : Lit × DataW H → Nat
  | (.string bytes, d) => bytes.length + uptoBulk d + 1
  | (_, d) => uptoBulk d + 1
 end
def uptoSmall : (H : Type) → List (DataW H) → Bool := fun _ ds => decide (uptoBulkAll ds ≤ 1048576)
def OpenSpec.upto (s : _root_.Go.ChangeSpec) : _root_.Go.OpenSpec := { _root_.Go.OpenSpec.ofChange s with cond := some uptoSmall }

/-- 'regletlaw21.PaintLines', WHERE WHAT IT READS IS OF BULK AT MOST 1048576: true; the input reads as it did. -/
def paintLinesUptoRow : OpenClaim := { program := "ytblmcdpfhdamjaa", sum := "95fab7fb39834d5339a235e558d7d4174c24ec9870cc128946e73f243f2dcc85", func := "reglet/regletlaw21.PaintLines", spec := "paintLines", named := ["math/bits.divideError", "math/bits.overflowError"], apart := false, narrowed := true }
def PaintLinesUptoSaid : Prop := paintLinesUptoRow.holds Try.pinned (OpenSpec.upto paintLinesSpec)

/-- 'regletlaw21.PaintSeen', WHERE WHAT IT READS IS OF BULK AT MOST 1048576: true; the input reads as it did. -/
def paintSeenUptoRow : OpenClaim := { program := "ytblmcdpfhdamjaa", sum := "95fab7fb39834d5339a235e558d7d4174c24ec9870cc128946e73f243f2dcc85", func := "reglet/regletlaw21.PaintSeen", spec := "paintSeen", named := ["math/bits.divideError", "math/bits.overflowError"], apart := false, narrowed := true }
def PaintSeenUptoSaid : Prop := paintSeenUptoRow.holds Try.pinned (OpenSpec.upto paintSeenSpec)

/-- 'regletlaw21.PaintWindow', WHERE WHAT IT READS IS OF BULK AT MOST 1048576: true; the input reads as it did. -/
def paintWindowUptoRow : OpenClaim := { program := "ytblmcdpfhdamjaa", sum := "95fab7fb39834d5339a235e558d7d4174c24ec9870cc128946e73f243f2dcc85", func := "reglet/regletlaw21.PaintWindow", spec := "paintWindow", named := ["math/bits.divideError", "math/bits.overflowError"], apart := false, narrowed := true }
def PaintWindowUptoSaid : Prop := paintWindowUptoRow.holds Try.pinned (OpenSpec.upto paintWindowSpec)

/-- 'regletlaw21.PaintPages', WHERE WHAT IT READS IS OF BULK AT MOST 1048576: true; the input reads as it did. -/
def paintPagesUptoRow : OpenClaim := { program := "ytblmcdpfhdamjaa", sum := "95fab7fb39834d5339a235e558d7d4174c24ec9870cc128946e73f243f2dcc85", func := "reglet/regletlaw21.PaintPages", spec := "paintPages", named := ["math/bits.divideError", "math/bits.overflowError"], apart := false, narrowed := true }
def PaintPagesUptoSaid : Prop := paintPagesUptoRow.holds Try.pinned (OpenSpec.upto paintPagesSpec)

/-- 'regletlaw21.PaintEnough', WHERE WHAT IT READS IS OF BULK AT MOST 1048576: true; the input reads as it did. -/
def paintEnoughUptoRow : OpenClaim := { program := "ytblmcdpfhdamjaa", sum := "95fab7fb39834d5339a235e558d7d4174c24ec9870cc128946e73f243f2dcc85", func := "reglet/regletlaw21.PaintEnough", spec := "paintEnough", named := ["math/bits.divideError", "math/bits.overflowError"], apart := false, narrowed := true }
def PaintEnoughUptoSaid : Prop := paintEnoughUptoRow.holds Try.pinned (OpenSpec.upto paintEnoughSpec)

/-- 'regletlaw21.PaintJoins', WHERE WHAT IT READS IS OF BULK AT MOST 1048576: true; the input reads as it did. -/
def paintJoinsUptoRow : OpenClaim := { program := "ytblmcdpfhdamjaa", sum := "95fab7fb39834d5339a235e558d7d4174c24ec9870cc128946e73f243f2dcc85", func := "reglet/regletlaw21.PaintJoins", spec := "paintJoins", unfollowed := true, recurses := true, named := ["math/bits.divideError", "math/bits.overflowError"], apart := false, narrowed := true }
def PaintJoinsUptoSaid : Prop := paintJoinsUptoRow.holds Try.pinned (OpenSpec.upto paintJoinsSpec)

/-- 'regletlaw21.PaintClips', WHERE WHAT IT READS IS OF BULK AT MOST 1048576: true; the input reads as it did. -/
def paintClipsUptoRow : OpenClaim := { program := "ytblmcdpfhdamjaa", sum := "95fab7fb39834d5339a235e558d7d4174c24ec9870cc128946e73f243f2dcc85", func := "reglet/regletlaw21.PaintClips", spec := "paintClips", unfollowed := true, recurses := true, named := ["math/bits.divideError", "math/bits.overflowError"], apart := false, narrowed := true }
def PaintClipsUptoSaid : Prop := paintClipsUptoRow.holds Try.pinned (OpenSpec.upto paintClipsSpec)

end Rows
end Go.Proofs.Ytblmcdpfhdamjaa
