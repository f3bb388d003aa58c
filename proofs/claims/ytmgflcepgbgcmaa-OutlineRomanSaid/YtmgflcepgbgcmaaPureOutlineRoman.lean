/-
Any number is written in Roman letters, and by its digits, as the reference writes it: the pure statement of the law OutlineRoman. No condition.
-/
import Derived.Test.YtmgflcepgbgcmaaRomDecOutlineRoman
namespace Go.Proofs.Ytmgflcepgbgcmaa.Pure
open Go.RowKit Go.Proofs.Ytmgflcepgbgcmaa.POutlineRoman Go.Proofs.YtmgflcepgbgcmaaW.PrintWords Go.Proofs.YtmgflcepgbgcmaaW.PrintLast

theorem awake_ev : Ev (fun k => regletlaw22_awake.f k) true :=
  Ev.of (fun k => regletlaw22_awake.mono k) (k := 40) (by decide +kernel)
theorem OutlineRoman : regletlaw22_OutlineRoman.Pure := by
  intro n hn
  obtain ⟨h0, h1⟩ := lit64 hn
  apply Ev.rounds
  unfold regletlaw22_OutlineRoman.f
  refine Ev.bind awake_ev ?_
  simp only [if_true, roman_f, Option.bind_some]
  refine Ev.bind (rroman_ev n) ?_
  simp only [if_true]
  refine Ev.bind (decimal_ev h0 h1) ?_
  refine Ev.bind (rdecimal_ev h0 h1) ?_
  rw [show ((bs_ (dec_ n)).toList == (bs_ (dec_ n)).toList) = true by simp]
  exact Ev.now _
end Go.Proofs.Ytmgflcepgbgcmaa.Pure
