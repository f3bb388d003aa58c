import Derived.Test.YtblmcdpfhdamjaaUtf8PaintSeen
/-! Our own text: the reference's runes of a text, its right texts, and the program's check. -/
namespace Go.Proofs.Ytblmcdpfhdamjaa.PPaintSeen
open Go.RowKit Go.Proofs.YtblmcdpfhdamjaaW.PrintWords

theorem runes_l0 {s : ByteArray} (hs : (s.size : Int) ≤ 1000000) : ∀ (f : Nat) (i : Int) (l a : List Int), 0 ≤ i → i ≤ s.size → (s.size : Int) - i ≤ f → (l.length : Int) + (s.size - i) ≤ 2000000 → (a.length : Int) + (s.size - i) ≤ 2000000 →
    Ev (fun k => regletref02_Runes.l0 k s l a i) (l ++ rl_ s (f + 1) i, a ++ al_ s (f + 1) i, bd_ s (f + 1) i)
  | f, i, l, a, h0, h1, hf, hl, ha => by
    by_cases hi : i < (s.size : Int)
    case neg =>
      simp only [rl_, al_, bd_]
      rw [if_neg hi, if_neg hi, if_neg hi, List.append_nil, List.append_nil]
      refine Ev.step (f := fun _ => some (l, a, -1)) (fun k => ?_) (Ev.now _)
      simp only [regletref02_Runes.l0]
      rw [if_neg hi]
    have hr := rsize_rng s i
    simp only [rl_, al_, bd_]
    rw [if_pos hi, if_pos hi, if_pos hi]
    refine Ev.step (fun k => by simp only [regletref02_Runes.l0]; rw [if_pos hi]) ?_
    refine Ev.bind (read_ev (by omega) h0 hi) ?_
    by_cases hz : rsize_ s i = 0
    · rw [if_pos hz, if_pos hz, if_pos hz, if_pos hz, List.append_nil, List.append_nil]
      exact Ev.congr (fun k => by rw [if_pos rfl]) (Ev.now _)
    rw [if_neg hz, if_neg hz, if_neg hz, if_neg hz]
    match f, hf with
    | 0, hf => omega
    | f + 1, hf =>
      have ih := runes_l0 hs f (i + rsize_ s i) (l ++ [vOf s i (rsize_ s i)]) (a ++ [i]) (by omega) (by omega) (by omega) (by simp; omega) (by simp; omega)
      rw [List.append_assoc, List.append_assoc] at ih
      refine Ev.congr (fun k => ?_) ih
      simp only []
      rw [if_neg hz, if_pos (by omega), if_pos (by omega), w64 (by omega) (by omega)]
theorem runes_ev {s : ByteArray} (hs : (s.size : Int) ≤ 1000000) : Ev (fun k => regletref02_Runes.f k s) (rl_ s (s.size + 1) 0, al_ s (s.size + 1) 0, bd_ s (s.size + 1) 0) := by
  unfold regletref02_Runes.f
  have := runes_l0 hs s.size 0 [] [] (by omega) (by omega) (by omega) (by simp; omega) (by simp; omega)
  simpa using this
theorem right_ev {s : ByteArray} (hs : (s.size : Int) ≤ 1000000) : Ev (fun k => regletref02_Right.f k s) (right_ s) := by
  unfold regletref02_Right.f
  exact Ev.bind (runes_ev hs) (Ev.now _)
end Go.Proofs.Ytblmcdpfhdamjaa.PPaintSeen
