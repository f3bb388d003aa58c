/-
A row of the outline is set as the reference sets it: the pure statement of the law OutlineRows. No condition.
-/
import Derived.Test.YtmgflcepgbgcmaaOpensOutlineRows
import Derived.Test.YtmgflcepgbgcmaaRowsOutlineRows
namespace Go.Proofs.Ytmgflcepgbgcmaa.Pure
open Go.RowKit Go.Proofs.Ytmgflcepgbgcmaa.POutlineRows Go.Proofs.YtmgflcepgbgcmaaW.PrintWords Go.Proofs.YtmgflcepgbgcmaaW.PrintLast

theorem awake_ev : Ev (fun k => regletlaw22_awake.f k) true :=
  Ev.of (fun k => regletlaw22_awake.mono k) (k := 40) (by decide +kernel)
theorem stop_ev (a b : Int) (s : ByteArray) (p l : Int) : Ev (fun k => regletlaw22_OutlineRows.j0 k a b true s p l) true := Ev.step (fun k => by rw [regletlaw22_OutlineRows.j0, if_pos rfl]) (Ev.now _)
theorem OutlineRows : regletlaw22_OutlineRows.PureX := by
  intro x a b hx ha hb
  obtain ⟨b0, b1⟩ := lit64 hb
  apply Ev.rounds
  unfold regletlaw22_OutlineRows.f
  refine Ev.bind awake_ev ?_
  simp only [if_true]
  by_cases h1 : x.f1 ≥ 1099511627776
  · simp only [if_pos h1]; exact stop_ev ..
  by_cases h2 : a ≥ 1099511627776
  · simp only [if_neg h1, if_pos h2]; exact stop_ev ..
  by_cases h3 : (x.f0.size : Int) > 400
  · simp only [if_neg h1, if_neg h2, if_pos h3]; exact stop_ev ..
  by_cases h4 : b > 2000
  · simp only [if_neg h1, if_neg h2, if_neg h3, if_pos h4]; exact stop_ev ..
  simp only [if_neg h1, if_neg h2, if_neg h3, if_neg h4]
  refine Ev.bind (right_ev (by omega)) ?_
  cases hr : right_ x.f0 with
  | false => exact stop_ev ..
  | true =>
    obtain ⟨t, p, q⟩ := row_ev (s := x.f0) (p := x.f1) (l := x.f2) (front := a) (a2 := b) (by omega) hr (by omega) b0
    refine Ev.step (fun k => by rw [regletlaw22_OutlineRows.j0, if_neg (by decide)]) ?_
    refine Ev.bind p ?_
    refine Ev.bind q ?_
    rw [show (t.toList == t.toList) = true by simp]
    exact Ev.now _
end Go.Proofs.Ytmgflcepgbgcmaa.Pure
