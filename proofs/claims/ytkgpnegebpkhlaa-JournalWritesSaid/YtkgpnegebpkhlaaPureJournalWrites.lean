/-
Any record is written behind any bytes just as the reference writes it, or is refused with the reference's error, and the bytes that it is written behind stay as they were: the pure statement of the law JournalWrites. No condition.
-/
import Derived.Test.YtkgpnegebpkhlaaOpensJournalWrites
import Derived.Test.YtkgpnegebpkhlaaJRecJournalWrites
namespace Go.Proofs.Ytkgpnegebpkhlaa.Pure
open Go.RowKit Go.Proofs.Ytkgpnegebpkhlaa.PJournalWrites Go.Proofs.YtkgpnegebpkhlaaW.PrintWords Go.Proofs.YtkgpnegebpkhlaaW.PrintLast

theorem awake_ev : Ev (fun k => regletlaw23_awake.f k) true :=
  Ev.of (fun k => regletlaw23_awake.mono k) (k := 40) (by decide +kernel)
theorem JournalWrites : regletlaw23_JournalWrites.PureX := by
  intro l r hl hr
  obtain ⟨h0, h1, h2, h3, h4⟩ := hr
  apply Ev.rounds
  have b1 := lit64 h1
  have b2 := lit64 h2
  have b3 := lit64 h3
  unfold regletlaw23_JournalWrites.f
  refine Ev.bind awake_ev ?_
  refine Ev.congr (fun k => by rw [if_pos rfl]) ?_
  have stop : ∀ (l : List Int) (a b c d : Int) (t : ByteArray), Ev (fun k => regletlaw23_JournalWrites.j0 k l true a b c d t) true := fun l a b c d t =>
    Ev.step (fun k => by simp only [regletlaw23_JournalWrites.j0]; rw [if_pos trivial]) (Ev.now _)
  by_cases c1 : (l.length : Int) > 1000
  · simp only [if_pos c1]
    exact stop _ _ _ _ _ _
  simp only [if_neg c1]
  by_cases c2 : (r.f4.size : Int) > 1000
  · simp only [decide_eq_true c2]
    exact stop _ _ _ _ _ _
  simp only [decide_eq_false c2]
  refine Ev.step (fun k => by simp only [regletlaw23_JournalWrites.j0]; rw [if_neg (by decide)]) ?_
  refine Ev.bind (append_ev (by omega) (by omega) b1 b2 b3) ?_
  simp only [regletlaw23_ref.f, Option.bind_some]
  refine Ev.bind (rright_ev (by omega)) ?_
  have e : (if rcode_ r.f0 r.f1 r.f2 r.f3 r.f4 = 0 then (l ++ rbytes_ r.f0 r.f1 r.f2 r.f3 r.f4, (0 : Int)) else (l, rcode_ r.f0 r.f1 r.f2 r.f3 r.f4)).2 = rcode_ r.f0 r.f1 r.f2 r.f3 r.f4 := by
    split
    · rename_i h; exact h.symm
    · rfl
  refine Ev.congr (fun k => by rw [if_pos e]) ?_
  refine Ev.bind (jright_ev (by omega)) ?_
  refine Ev.congr (fun k => by rw [if_pos rfl]) ?_
  have en : ((strOfNums l).toList != (strOfNums l).toList) = false := by simp
  rw [en]
  refine Ev.step (fun k => by simp only [regletlaw23_JournalWrites.j1]; rw [if_neg (by decide)]) ?_
  by_cases hz : rcode_ r.f0 r.f1 r.f2 r.f3 r.f4 = 0
  · simp only [if_pos hz, regletlaw23_ref.f, Option.bind_some]
    refine Ev.bind (rbytes_ev (by omega) b1 b2 b3) ?_
    have hlen : (rbytes_ r.f0 r.f1 r.f2 r.f3 r.f4).length ≤ 100000 := by
      have hm := many_range r.f0
      unfold rbytes_ tail_
      have g1 := leb_len 10 (zig_ r.f1)
      have g2 := leb_len 10 (zig_ r.f2)
      have g3 := leb_len 10 (zig_ r.f3)
      have g4 := leb_len 10 (r.f4.size : Int)
      have hn : ∀ n : Nat, n ≤ 3 → (nums_ ([r.f1, r.f2, r.f3].take n)).length ≤ 33 := by
        intro n hn
        match n, hn with
        | 0, _ => simp [nums_]
        | 1, _ => simp [nums_]; omega
        | 2, _ => simp [nums_]; omega
        | 3, _ => simp [nums_]; omega
      have := hn (many_ r.f0).toNat (by omega)
      have hb := bytesOf_length r.f4
      split
      · simp only [List.length_append, List.length_singleton]; omega
      · simp only [List.length_append, List.length_singleton, List.length_nil]; omega
    refine Ev.congr (fun k => by rw [if_pos (by rw [strOfNums_size, strOfNums_size]; omega), strOfNums_append]) ?_
    rw [show ((strOfNums l ++ strOfNums (rbytes_ r.f0 r.f1 r.f2 r.f3 r.f4)).toList == (strOfNums l ++ strOfNums (rbytes_ r.f0 r.f1 r.f2 r.f3 r.f4)).toList) = true by simp]
    exact Ev.now _
  · simp only [if_neg hz]
    rw [show ((strOfNums l).toList == (strOfNums l).toList) = true by simp]
    exact Ev.now _
end Go.Proofs.Ytkgpnegebpkhlaa.Pure
