/-
A page has the label that the reference gives it: the pure statement of the law OutlineLabels. No condition.
-/
import Derived.Test.YtmgflcepgbgcmaaRomDecOutlineLabels
namespace Go.Proofs.Ytmgflcepgbgcmaa.Pure
open Go.RowKit Go.Proofs.Ytmgflcepgbgcmaa.POutlineLabels Go.Proofs.YtmgflcepgbgcmaaW.PrintWords Go.Proofs.YtmgflcepgbgcmaaW.PrintLast

theorem awake_ev : Ev (fun k => regletlaw22_awake.f k) true :=
  Ev.of (fun k => regletlaw22_awake.mono k) (k := 40) (by decide +kernel)
theorem stop_ev (a b : Int) : Ev (fun k => regletlaw22_OutlineLabels.j0 k a b true) true := Ev.step (fun k => by rw [regletlaw22_OutlineLabels.j0, if_pos rfl]) (Ev.now _)
theorem wrange (x : Int) : -9223372036854775808 ≤ wrap64 x ∧ wrap64 x ≤ 9223372036854775807 := by unfold wrap64; omega
theorem label_ev (a b : Int) : ∃ t, Ev (fun k => outline_Label.f k a b) t ∧ Ev (fun k => regletref22_Label.f k a b) t := by
  unfold outline_Label.f regletref22_Label.f
  by_cases h1 : a < 0
  · simp only [if_pos h1]; exact ⟨_, Ev.now _, Ev.now _⟩
  by_cases h2 : a < b
  · simp only [if_neg h1, if_pos h2, roman_f, Option.bind_some]
    exact ⟨_, Ev.now _, Ev.bind (rroman_ev _) (Ev.now _)⟩
  · simp only [if_neg h1, if_neg h2]
    exact ⟨_, Ev.bind (decimal_ev (wrange _).1 (wrange _).2) (Ev.now _), Ev.bind (rdecimal_ev (wrange _).1 (wrange _).2) (Ev.now _)⟩
theorem OutlineLabels : regletlaw22_OutlineLabels.Pure := by
  intro a b ha hb
  apply Ev.rounds
  unfold regletlaw22_OutlineLabels.f
  refine Ev.bind awake_ev ?_
  simp only [if_true]
  by_cases h1 : a ≥ 1099511627776
  · simp only [if_pos h1]; exact stop_ev a b
  by_cases h2 : b ≥ 1099511627776
  · simp only [if_neg h1, decide_eq_true h2]; exact stop_ev a b
  simp only [if_neg h1, decide_eq_false h2]
  obtain ⟨t, p, q⟩ := label_ev a b
  refine Ev.step (fun k => by rw [regletlaw22_OutlineLabels.j0, if_neg Bool.false_ne_true]) ?_
  refine Ev.bind p ?_
  refine Ev.bind q ?_
  rw [show (t.toList == t.toList) = true by simp]
  exact Ev.now _
end Go.Proofs.Ytmgflcepgbgcmaa.Pure
