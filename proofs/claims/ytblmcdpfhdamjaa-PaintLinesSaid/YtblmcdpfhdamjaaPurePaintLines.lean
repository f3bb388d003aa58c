/-
What is drawn of any line is what the reference says: the pure statement of the law PaintLines. No condition.
-/
import Derived.Test.YtblmcdpfhdamjaaOpensPaintLines
import Derived.Test.YtblmcdpfhdamjaaRLin3PaintLines
import Derived.Test.YtblmcdpfhdamjaaTabPaintLines
namespace Go.Proofs.Ytblmcdpfhdamjaa.Pure
set_option linter.unusedVariables false
open Go.RowKit hiding wrap64
open Go.Proofs.Ytblmcdpfhdamjaa.PPaintLines
open Go.Proofs.YtblmcdpfhdamjaaW.PrintWords hiding mx mn

theorem awake_ev : Ev (fun k => regletlaw21_awake.f k) true :=
  Ev.of (fun k => regletlaw21_awake.mono k) (k := 60) (by decide +kernel)
theorem PaintLines : regletlaw21_PaintLines.PureX := by
  intro t x ht hx
  apply Ev.rounds
  unfold regletlaw21_PaintLines.f
  refine Ev.bind awake_ev ?_
  refine Ev.congr (fun k => by rw [if_pos rfl]) ?_
  obtain ⟨T, hT1, hT2⟩ := table_ev t
  refine Ev.bind hT1 ?_
  have stop : ∀ U, Ev (fun k => regletlaw21_PaintLines.j0 k t U true x.f0 x.f1 x.f2 x.f3 x.f4 x.f5 x.f6 x.f7 x.f8) true := fun U => Ev.step (fun k => by rw [regletlaw21_PaintLines.j0, if_pos rfl]) (Ev.now true)
  rcases hT2 with e | ⟨e, hr⟩
  · subst e
    exact Ev.congr (fun k => by rw [if_pos (by rfl)]) (stop _)
  subst e
  obtain ⟨b, hb, hb2⟩ := line_ev x
  refine Ev.congr (fun k => by rw [if_neg (by simp)]) (Ev.bind hb ?_)
  cases b with
  | false => exact stop _
  | true =>
    obtain ⟨out, h0, h1, h2⟩ := lines2_ev hr (hb2 rfl)
    refine Ev.step (g := fun k => regletlaw21_PaintLines.j0 k t [⟨t⟩] (!true) x.f0 x.f1 x.f2 x.f3 x.f4 x.f5 x.f6 x.f7 x.f8) (fun k => by rw [regletlaw21_PaintLines.j0, if_neg (by decide)]) ?_
    refine Ev.bind h1 (Ev.bind (marks_ev (by omega)) (Ev.bind h2 (Ev.bind (same_ev (by rw [List.length_map]; omega)) (Ev.now true))))
end Go.Proofs.Ytblmcdpfhdamjaa.Pure
