/-
The line that has any byte is told, and how many bytes are ahead of any line, as the reference tells them: the pure statement of the law LocateLines. No condition.
-/
import Derived.Test.YtiabffkfabmlpaaOpensLocateLines
import Derived.Test.YtiabffkfabmlpaaOffsLocateLines
namespace Go.Proofs.Ytiabffkfabmlpaa.Pure
open Go.RowKit Go.Proofs.Ytiabffkfabmlpaa.PLocateLines Go.Proofs.YtiabffkfabmlpaaW.PrintWords Go.Proofs.YtiabffkfabmlpaaW.PrintLast

theorem awake_ev : Ev (fun k => regletlaw15_awake.f k) true :=
  Ev.of (fun k => regletlaw15_awake.mono k) (k := 40) (by decide +kernel)
theorem lit64 {n : Int} (h : (Lit.int .i64 n).wf = true) : -9223372036854775808 ≤ n ∧ n ≤ 9223372036854775807 := by
  simp [Lit.wf, IntKind.min, IntKind.max, IntKind.signed, IntKind.bits] at h
  exact ⟨by omega, by omega⟩
theorem LocateLines : regletlaw15_LocateLines.PureX := by
  intro L a q hL ha hq
  obtain ⟨a0, a1⟩ := lit64 ha
  apply Ev.rounds
  unfold regletlaw15_LocateLines.f
  refine Ev.bind awake_ev ?_
  simp only [if_true]
  obtain ⟨r, p, f⟩ := few_ev (L := L) hL.1
  refine Ev.bind p ?_
  cases r with
  | false => exact Ev.now _
  | true =>
    have h := f rfl
    simp only [if_true]
    refine Ev.bind (pline_ev h a1) ?_
    refine Ev.bind (rline_ev h a) ?_
    have hb : ((lineP L a).2.2.2 != (lineP L a).2.2.2) = false := by simp
    simp only [hb, Bool.false_eq_true, if_false, if_true]
    refine Ev.bind (size_ev h) ?_
    refine Ev.bind (bytes_ev h) ?_
    have hs : (((totP L : Nat) : Int) != ((bsP L 0).length : Int)) = false := by rw [bsP_len]; simp
    rw [hs]
    refine Ev.step (fun k => by rw [regletlaw15_LocateLines.j0, if_neg (by decide)]) ?_
    obtain ⟨r, p1, p2⟩ := off_ev h q.f0 q.f1
    refine Ev.bind p1 ?_
    refine Ev.bind p2 ?_
    have hr : (r.2 == r.2) = true := by simp
    simp only [if_true, hr]
    exact Ev.now _
end Go.Proofs.Ytiabffkfabmlpaa.Pure
