import Derived.Test.YtkgpnegebpkhlaaRunesJournalReads
/-! Our own text: the program's check of a text. -/
namespace Go.Proofs.Ytkgpnegebpkhlaa.PJournalReads
open Go.RowKit Go.Proofs.YtkgpnegebpkhlaaW.PrintWords
theorem bad_bd (s : ByteArray) : ∀ (f : Nat) (i : Int), 0 ≤ i → i ≤ s.size → bad_ s f i = bd_ s f i
  | 0, _, _, _ => rfl
  | f + 1, i, h0, h1 => by
    have hr := rsize_rng s i
    simp only [bad_, bd_]
    by_cases hi : i = (s.size : Int)
    · rw [if_pos hi, if_neg (show ¬ i < (s.size : Int) by omega)]
    rw [if_neg hi, if_pos (show i < (s.size : Int) by omega)]
    by_cases hz : rsize_ s i = 0
    · rw [if_pos hz, if_pos hz]
    · rw [if_neg hz, if_neg hz]
      exact bad_bd s f _ (by omega) (by omega)
theorem check_f {s : ByteArray} (hs : (s.size : Int) ≤ 1000000) : runes_Check.f s = some (if right_ s = true then 0 else 20) := by
  unfold runes_Check.f runes_Bad.f
  rw [if_pos (by omega), bad_bd s _ _ (by omega) (by omega)]
  simp only [Option.bind_some]
  unfold right_
  by_cases h : bd_ s (s.size + 1) 0 < 0
  · rw [if_neg (show ¬ bd_ s (s.size + 1) 0 ≥ 0 by omega), if_pos (decide_eq_true h)]
  · rw [if_pos (show bd_ s (s.size + 1) 0 ≥ 0 by omega), if_neg (by rw [decide_eq_false h]; decide)]
end Go.Proofs.Ytkgpnegebpkhlaa.PJournalReads
