/-
Any bytes are read as the records that they begin with, as the reference reads them: the pure statement of the law JournalReads. No condition.
-/
import Derived.Test.YtkgpnegebpkhlaaJParseJournalReads
namespace Go.Proofs.Ytkgpnegebpkhlaa.Pure
open Go.RowKit Go.Proofs.Ytkgpnegebpkhlaa.PJournalReads Go.Proofs.YtkgpnegebpkhlaaW.PrintWords

theorem awake_ev : Ev (fun k => regletlaw23_awake.f k) true :=
  Ev.of (fun k => regletlaw23_awake.mono k) (k := 40) (by decide +kernel)
theorem JournalReads : regletlaw23_JournalReads.Pure := by
  intro l _ _ hw
  have hb : byt_ l := fun x hx => by
    have := hw x hx
    simp [Lit.wf, IntKind.min, IntKind.max, IntKind.signed, IntKind.bits] at this
    exact ⟨by omega, by omega⟩
  apply Ev.rounds
  unfold regletlaw23_JournalReads.f
  refine Ev.bind awake_ev ?_
  refine Ev.congr (fun k => by rw [if_pos rfl]) ?_
  by_cases c1 : (l.length : Int) > 2000
  · simp only [if_pos c1]
    exact Ev.now _
  simp only [if_neg c1]
  have hl : l.length ≤ 2000 := by omega
  obtain ⟨q, n, h1, h2, h3, h4⟩ := parse_ev hb hl
  have hq : q.length ≤ 2000 := by omega
  have hq2 : (q.map cv_).length ≤ 2000 := by rw [List.length_map]; exact hq
  refine Ev.bind h3 (Ev.bind h4 (Ev.bind (refs_ev hq) (Ev.bind (same_ev hq2) ?_)))
  refine Ev.congr (fun k => ?_) (Ev.now true)
  rw [if_pos rfl, if_pos rfl]
  by_cases h : n = l.length
  · subst h
    simp
  · have h5 : ((n : Int) == (l.length : Int)) = false := by rw [beq_eq_false_iff_ne]; omega
    have h6 : decide ((n : Int) < (l.length : Int)) = true := decide_eq_true (by omega)
    rw [if_neg h, h5, h6]
    rfl
end Go.Proofs.Ytkgpnegebpkhlaa.Pure
