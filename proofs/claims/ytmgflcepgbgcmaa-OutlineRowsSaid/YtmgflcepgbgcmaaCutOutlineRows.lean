import Derived.Test.YtmgflcepgbgcmaaRunesOutlineRows
/-! Our own text: a right text cut at the place of one of its runes. -/
namespace Go.Proofs.Ytmgflcepgbgcmaa.POutlineRows
open Go.RowKit Go.Proofs.YtmgflcepgbgcmaaW.PrintWords

theorem al_cons_ {s : ByteArray} {q : Nat} {i : Int} (hi : i < s.size) (hz : ¬ rsize_ s i = 0) : al_ s (q + 1) i = i :: al_ s q (i + rsize_ s i) := by
  simp only [al_]; rw [if_pos hi, if_neg hz]
theorem al_end_ {s : ByteArray} {q : Nat} {i : Int} (hi : ¬ i < s.size) : al_ s q i = [] := by
  cases q with
  | zero => rfl
  | succ q => simp only [al_]; rw [if_neg hi]
theorem al_none {s : ByteArray} {q : Nat} {i : Int} (hz : rsize_ s i = 0) : al_ s q i = [] := by
  cases q with
  | zero => rfl
  | succ q => simp only [al_]; rw [if_pos hz]; split <;> rfl
theorem rl_al_len (s : ByteArray) : ∀ (k : Nat) (i : Int), (rl_ s k i).length = (al_ s k i).length
  | 0, _ => rfl
  | k + 1, i => by
    simp only [rl_, al_]
    split
    · split
      · rfl
      · simp [rl_al_len s k]
    · rfl
theorem al_ge {s : ByteArray} : ∀ (k : Nat) (i : Int) (n : Nat) (p : Int), (al_ s k i)[n]? = some p → i ≤ p ∧ p < s.size
  | 0, i, n, p, h => by simp [al_] at h
  | k + 1, i, n, p, h => by
    have hr := rsize_rng s i
    by_cases hi : i < (s.size : Int)
    case neg => rw [al_end_ hi] at h; simp at h
    by_cases hz : rsize_ s i = 0
    case pos => rw [al_none hz] at h; simp at h
    rw [al_cons_ hi hz] at h
    cases n with
    | zero => simp at h; omega
    | succ n =>
      rw [List.getElem?_cons_succ] at h
      have := al_ge k _ n p h
      omega
/-- A text's beginning: as many bytes, and the same ones. -/
def Pre_ (t s : ByteArray) : Prop := t.size ≤ s.size ∧ ∀ i : Int, 0 ≤ i → i < t.size → bt t i = bt s i
theorem pre_is2 {t s : ByteArray} (hp : Pre_ t s) {i : Int} (h0 : 0 ≤ i) (h : i + 2 ≤ t.size) : is2_ t i = is2_ s i := by
  unfold is2_; rw [hp.2 i h0 (by omega), hp.2 (i + 1) (by omega) (by omega)]
theorem pre_is3 {t s : ByteArray} (hp : Pre_ t s) {i : Int} (h0 : 0 ≤ i) (h : i + 3 ≤ t.size) : is3_ t i = is3_ s i := by
  unfold is3_; rw [hp.2 i h0 (by omega), hp.2 (i + 1) (by omega) (by omega), hp.2 (i + 2) (by omega) (by omega)]
theorem pre_is4 {t s : ByteArray} (hp : Pre_ t s) {i : Int} (h0 : 0 ≤ i) (h : i + 4 ≤ t.size) : is4_ t i = is4_ s i := by
  unfold is4_; rw [hp.2 i h0 (by omega), hp.2 (i + 1) (by omega) (by omega), hp.2 (i + 2) (by omega) (by omega), hp.2 (i + 3) (by omega) (by omega)]
theorem pre_rsize {t s : ByteArray} (hp : Pre_ t s) {i : Int} (h0 : 0 ≤ i) (hz : ¬ rsize_ s i = 0) (h : i + rsize_ s i ≤ t.size) : rsize_ t i = rsize_ s i := by
  have hr := rsize_rng s i
  have hs := rsize_is s i h0 (by omega)
  have ht := rsize_is t i h0 (by omega)
  have hb := hp.2 i h0 (by omega)
  have hsz := hp.1
  rw [hb] at ht
  by_cases c1 : bt s i < 128
  · rw [if_pos c1] at hs ht; rw [hs, ht]
  rw [if_neg c1] at hs ht
  by_cases c2 : i + 2 ≤ s.size ∧ is2_ s i = true
  · rw [if_pos c2] at hs
    rw [if_pos ⟨by omega, by rw [pre_is2 hp h0 (by omega)]; exact c2.2⟩] at ht
    rw [hs, ht]
  rw [if_neg c2] at hs
  by_cases c3 : i + 3 ≤ s.size ∧ is3_ s i = true
  · rw [if_pos c3] at hs
    rw [if_neg (fun x => c2 ⟨by omega, by rw [← pre_is2 hp h0 (by omega)]; exact x.2⟩), if_pos ⟨by omega, by rw [pre_is3 hp h0 (by omega)]; exact c3.2⟩] at ht
    rw [hs, ht]
  rw [if_neg c3] at hs
  by_cases c4 : i + 4 ≤ s.size ∧ is4_ s i = true
  · rw [if_pos c4] at hs
    rw [if_neg (fun x => c2 ⟨by omega, by rw [← pre_is2 hp h0 (by omega)]; exact x.2⟩), if_neg (fun x => c3 ⟨by omega, by rw [← pre_is3 hp h0 (by omega)]; exact x.2⟩), if_pos ⟨by omega, by rw [pre_is4 hp h0 (by omega)]; exact c4.2⟩] at ht
    rw [hs, ht]
  rw [if_neg c4] at hs
  exact absurd hs hz
theorem cut_at {t s : ByteArray} (hp : Pre_ t s) : ∀ (k : Nat) (i : Int) (n f : Nat), 0 ≤ i → (al_ s k i)[n]? = some (t.size : Int) → (t.size : Int) - i < f → (rl_ t f i).length = n ∧ bd_ t f i = -1
  | 0, i, n, f, h0, h, hf => by simp [al_] at h
  | k + 1, i, n, f, h0, h, hf => by
    have hr := rsize_rng s i
    by_cases hi : i < (s.size : Int)
    case neg => rw [al_end_ hi] at h; simp at h
    by_cases hz : rsize_ s i = 0
    case pos => rw [al_none hz] at h; simp at h
    rw [al_cons_ hi hz] at h
    have hsz := hp.1
    cases n with
    | zero =>
      have hit : ¬ i < (t.size : Int) := by simp at h; omega
      rw [rl_end hit]
      refine ⟨rfl, ?_⟩
      cases f with
      | zero => rfl
      | succ f => simp only [bd_]; rw [if_neg hit]
    | succ n =>
      rw [List.getElem?_cons_succ] at h
      have hge := al_ge k _ n _ h
      have ht := pre_rsize hp h0 hz (by omega)
      cases f with
      | zero => omega
      | succ f =>
        have ih := cut_at hp k (i + rsize_ s i) n f (by omega) h (by omega)
        have hit : i < (t.size : Int) := by omega
        have hzt : ¬ rsize_ t i = 0 := by rw [ht]; exact hz
        rw [rl_cons hit hzt, ht]
        simp only [bd_]
        rw [if_pos hit, if_neg hzt, ht]
        exact ⟨by rw [List.length_cons, ih.1], ih.2⟩
end Go.Proofs.Ytmgflcepgbgcmaa.POutlineRows
