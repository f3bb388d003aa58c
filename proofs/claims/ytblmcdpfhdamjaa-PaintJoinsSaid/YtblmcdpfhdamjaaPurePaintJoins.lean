/-
Bands joined are the same heights, in order, and none touches another one: the pure statement of the law PaintJoins. No condition.
-/
import Derived.Test.YtblmcdpfhdamjaaOpensPaintJoins
import Derived.Test.YtblmcdpfhdamjaaPJoPaintJoins
namespace Go.Proofs.Ytblmcdpfhdamjaa.Pure
set_option linter.unusedVariables false
open Go.RowKit hiding wrap64
open Go.Proofs.Ytblmcdpfhdamjaa.PPaintJoins
open Go.Proofs.YtblmcdpfhdamjaaW.PrintWords hiding mx mn

theorem awake_ev : Ev (fun k => regletlaw21_awake.f k) true :=
  Ev.of (fun k => regletlaw21_awake.mono k) (k := 60) (by decide +kernel)
theorem PaintJoins : regletlaw21_PaintJoins.PureX := by
  intro l p y hl hp hy
  apply Ev.rounds
  unfold regletlaw21_PaintJoins.f
  refine Ev.bind awake_ev ?_
  refine Ev.congr (fun k => by rw [if_pos rfl]) ?_
  by_cases c : (l.length : Int) > 200
  · exact Ev.congr (fun k => if_pos c) (Ev.now true)
  obtain ⟨o, h1, h2, h3, h4⟩ := join_ev (l := l) (by omega)
  obtain ⟨r, g1, g2⟩ := in_ev (l := o) (by omega) p y
  obtain ⟨q, f1, f2⟩ := in_ev (l := l) (by omega) p y
  refine Ev.congr (fun k => if_neg c) (Ev.bind h1 (Ev.bind (bands_ev (by omega)) (Ev.bind (tidy_ev (by omega) h3) (Ev.congr (fun k => if_pos rfl) (Ev.bind g1 (Ev.bind (bands_ev (by omega)) (Ev.bind f1 ?_)))))))
  have : r = q := Bool.eq_iff_iff.2 (by rw [g2, f2, h4])
  subst this
  exact Ev.congr (fun k => by rw [beq_self_eq_true]) (Ev.now true)
end Go.Proofs.Ytblmcdpfhdamjaa.Pure
