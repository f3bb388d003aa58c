import Derived.Test.YtmgflcepgbgcmaaLabelOutlineRows
import Derived.Test.YtmgflcepgbgcmaaCutOutlineRows
/-! Our own text: an outline's row, the program's and the reference's. -/
namespace Go.Proofs.Ytmgflcepgbgcmaa.POutlineRows
open Go.RowKit Go.Proofs.YtmgflcepgbgcmaaW.PrintWords

abbrev sp_ : ByteArray := ⟨#[32]⟩
def rowT (a b c : ByteArray) : ByteArray := (((a ++ sp_) ++ b) ++ sp_) ++ c
theorem sp_size : sp_.size = 1 := rfl
theorem row_fits {a b c : ByteArray} (h1 : a.size ≤ 400) (h2 : b.size ≤ 4000) (h3 : c.size ≤ 64) :
    a.size + 1 ≤ 9223372036854775807 ∧ (a ++ sp_).size + b.size ≤ 9223372036854775807 ∧ ((a ++ sp_) ++ b).size + 1 ≤ 9223372036854775807 ∧ (((a ++ sp_) ++ b) ++ sp_).size + c.size ≤ 9223372036854775807 := by
  simp only [ByteArray.size_append, sp_size]
  generalize a.size = x at *
  generalize b.size = y at *
  generalize c.size = z at *
  omega
def dots_ (n : Nat) : ByteArray := bs_ (List.replicate n 46)
theorem dots_size (n : Nat) : (dots_ n).size = n := by unfold dots_; rw [bs_size, List.length_replicate]
theorem dots_more (n : Nat) : dots_ n ++ (⟨#[46]⟩ : ByteArray) = dots_ (n + 1) := by
  unfold dots_
  rw [show (⟨#[46]⟩ : ByteArray) = bs_ [46] from rfl, bs_app, List.replicate_succ']
theorem repeat_f (n : Nat) (h : n ≤ 1000000) : strings_Repeat.f ⟨#[46]⟩ (n : Int) = some (dots_ n) := by
  unfold strings_Repeat.f
  rw [if_pos ⟨by omega, by omega, by decide⟩, Int.toNat_natCast]
  have := Lib.repeatL_replicate 46 1 n
  rw [Nat.mul_one] at this
  show some (⟨(Lib.repeatL (List.replicate 1 46) n).toArray⟩ : ByteArray) = _
  rw [this]; rfl

/-! ### the cut text -/
theorem count_f {s : ByteArray} (hs : s.size ≤ 400) (hr : right_ s = true) : runes_Count.f s = some ((rl_ s (s.size + 1) 0).length : Int) := by
  unfold runes_Count.f; rw [if_pos (by omega), if_pos hr]
theorem at_f {s : ByteArray} (hs : s.size ≤ 400) (hr : right_ s = true) {r : Nat} (h : r ≤ 4000) {p : Int} (hp : (al_ s (s.size + 1) 0)[r]? = some p) : runes_At.f s (r : Int) = some (p, true) := by
  unfold runes_At.f
  rw [if_pos (by omega), if_pos hr, if_neg (by omega), if_pos (by omega)]
  unfold atF_
  rw [Int.toNat_natCast, hp]
theorem pre_extract (s : ByteArray) (n : Nat) (h : n ≤ s.size) : (s.extract 0 n).size = n ∧ Pre_ (s.extract 0 n) s := by
  have hsz : (s.extract 0 n).size = n := by rw [ByteArray.size_extract]; omega
  refine ⟨hsz, by omega, fun i h0 h1 => ?_⟩
  rw [← bt_at (s.extract 0 n) i (by omega), ← bt_at s i (by omega)]
  congr 2
  rw [ByteArray.getElem_extract]
  congr 1
  omega
theorem cut_count {s : ByteArray} (hs : s.size ≤ 400) {r : Nat} {p : Int} (hp : (al_ s (s.size + 1) 0)[r]? = some p) :
    0 ≤ p ∧ p ≤ s.size ∧ (s.extract 0 p.toNat).size ≤ 400 ∧ runes_Count.f (s.extract 0 p.toNat) = some (r : Int) := by
  have hg := al_ge _ _ _ _ hp
  obtain ⟨h1, h2⟩ := pre_extract s p.toNat (by omega)
  have hc := cut_at h2 (s.size + 1) 0 r ((s.extract 0 p.toNat).size + 1) (by omega) (by rw [h1, hp]; congr 1; omega) (by omega)
  refine ⟨hg.1, by omega, by omega, ?_⟩
  rw [count_f (by omega) (by unfold right_; rw [hc.2]; decide), hc.1]

/-! ### the program's row -/
theorem prow_cut {s t : ByteArray} {a2 p l : Int} {r : Nat} {q : Int} (hs : s.size ≤ 400) (hr : right_ s = true) (ht : t.size ≤ 64) (hr0 : r ≤ 4000) (hw : wrap64 (wrap64 (a2 - (t.size : Int)) - 2) = (r : Int))
    (hq : (al_ s (s.size + 1) 0)[r]? = some q) : Ev (fun k => outline_Row.j0 k a2 t false s p l) (rowT (s.extract 0 q.toNat) (dots_ 0) t) := by
  obtain ⟨q0, q1, qs, qc⟩ := cut_count hs hq
  have hlen : r < (rl_ s (s.size + 1) 0).length := by
    rw [rl_al_len]
    exact (List.getElem?_eq_some_iff.1 hq).1
  obtain ⟨f1, f2, f3, f4⟩ := row_fits (b := dots_ 0) qs (by rw [dots_size]; omega) ht
  have hz : wrap64 ((r : Int) - (r : Int)) = ((0 : Nat) : Int) := by rw [Int.sub_self]; decide +kernel
  have hgt : ((rl_ s (s.size + 1) 0).length : Int) > (r : Int) := by omega
  have h1 := count_f hs hr
  have h2 := at_f hs hr hr0 hq
  have h3 := repeat_f 0 (by omega)
  refine Ev.step (fun k => by rw [outline_Row.j0, if_neg Bool.false_ne_true, hw, h1, Option.bind_some, if_pos hgt, h2, Option.bind_some]) ?_
  dsimp only
  simp only [if_pos q0, if_pos q1, if_pos f1, qc, Option.bind_some, hz, h3, if_pos f2, if_pos f3, if_pos f4]
  exact Ev.now _
theorem prow_all {s t : ByteArray} {a2 p l : Int} {r : Nat} (hs : s.size ≤ 400) (hr : right_ s = true) (ht : t.size ≤ 64) (hr0 : r ≤ 4000) (hw : wrap64 (wrap64 (a2 - (t.size : Int)) - 2) = (r : Int))
    (hq : (rl_ s (s.size + 1) 0).length ≤ r) : Ev (fun k => outline_Row.j0 k a2 t false s p l) (rowT s (dots_ (r - (rl_ s (s.size + 1) 0).length)) t) := by
  have h1 := count_f hs hr
  generalize (rl_ s (s.size + 1) 0).length = n at *
  obtain ⟨f1, f2, f3, f4⟩ := row_fits (b := dots_ (r - n)) hs (by rw [dots_size]; omega) ht
  have hz : wrap64 ((r : Int) - (n : Int)) = ((r - n : Nat) : Int) := by rw [w64 (by omega) (by omega)]; omega
  have hgt : ¬ ((n : Int) > (r : Int)) := by omega
  have h3 := repeat_f (r - n) (by omega)
  refine Ev.step (fun k => by rw [outline_Row.j0, if_neg Bool.false_ne_true, hw, h1, Option.bind_some, if_neg hgt, if_pos f1, Option.bind_some, hz, h3, Option.bind_some, if_pos f2, if_pos f3, if_pos f4]) ?_
  exact Ev.now _

/-! ### the reference's row -/
theorem rrow_l0 {t x : ByteArray} (hx : x.size ≤ 400) (ht : t.size ≤ 64) {r : Nat} (hr : r ≤ 4000) : ∀ (d j : Nat), j + d ≤ 4000 → d ≤ r →
    Ev (fun k => regletref22_Row.l0 k t (r : Int) x (dots_ j) ((r : Int) - (d : Int))) (rowT x (dots_ (j + d)) t)
  | 0, j, hj, hd => by
    obtain ⟨f1, f2, f3, f4⟩ := row_fits (b := dots_ j) hx (by rw [dots_size]; omega) ht
    refine Ev.step (fun k => by rw [regletref22_Row.l0, if_neg (by omega), if_pos f1, if_pos f2, if_pos f3, if_pos f4]) ?_
    exact Ev.now _
  | d + 1, j, hj, hd => by
    have ih := rrow_l0 hx ht hr d (j + 1) (by omega) (by omega)
    have hz : wrap64 ((r : Int) - ((d + 1 : Nat) : Int) + 1) = (r : Int) - (d : Int) := by rw [w64 (by omega) (by omega)]; omega
    have hd1 : (dots_ j).size + 1 ≤ 9223372036854775807 := by rw [dots_size]; omega
    refine Ev.step (fun k => by rw [regletref22_Row.l0, if_pos (by omega), if_pos hd1, dots_more, hz]) ?_
    rw [show j + (d + 1) = j + 1 + d by omega]
    exact ih
theorem rrow_cut {s t : ByteArray} {a2 p l : Int} {r : Nat} {q : Int} (hs : s.size ≤ 400) (ht : t.size ≤ 64) (hr0 : r ≤ 4000) (hw : wrap64 (wrap64 (a2 - (t.size : Int)) - 2) = (r : Int))
    (hq : (al_ s (s.size + 1) 0)[r]? = some q) : Ev (fun k => regletref22_Row.j0 k a2 t false s p l) (rowT (s.extract 0 q.toNat) (dots_ 0) t) := by
  obtain ⟨q0, q1, qs, -⟩ := cut_count hs hq
  have hla : r < (al_ s (s.size + 1) 0).length := (List.getElem?_eq_some_iff.1 hq).1
  have hlen : r < (rl_ s (s.size + 1) 0).length := by rw [rl_al_len]; exact hla
  have hgt : ((rl_ s (s.size + 1) 0).length : Int) > (r : Int) := by omega
  have hrd : rd (al_ s (s.size + 1) 0) (r : Int) = q := by
    unfold rd
    rw [Int.toNat_natCast, List.getD_eq_getElem?_getD, hq]; rfl
  refine Ev.step (fun k => by rw [regletref22_Row.j0, if_neg Bool.false_ne_true, hw]) ?_
  refine Ev.bind (runes_ev (by omega)) ?_
  dsimp only
  simp only [if_pos hgt, if_pos (show (0 : Int) ≤ (r : Int) by omega), if_pos (show (r : Int) < ((al_ s (s.size + 1) 0).length : Int) by omega), hrd, if_pos q0, if_pos q1]
  refine Ev.step (fun k => by rw [regletref22_Row.j1]) ?_
  have hm : mn ((rl_ s (s.size + 1) 0).length : Int) (r : Int) = (r : Int) - ((0 : Nat) : Int) := by unfold mn; split <;> omega
  rw [hm]
  exact rrow_l0 qs ht hr0 0 0 (by omega) (by omega)
theorem rrow_all {s t : ByteArray} {a2 p l : Int} {r : Nat} (hs : s.size ≤ 400) (ht : t.size ≤ 64) (hr0 : r ≤ 4000) (hw : wrap64 (wrap64 (a2 - (t.size : Int)) - 2) = (r : Int))
    (hq : (rl_ s (s.size + 1) 0).length ≤ r) : Ev (fun k => regletref22_Row.j0 k a2 t false s p l) (rowT s (dots_ (r - (rl_ s (s.size + 1) 0).length)) t) := by
  have hgt : ¬ (((rl_ s (s.size + 1) 0).length : Int) > (r : Int)) := by omega
  refine Ev.step (fun k => by rw [regletref22_Row.j0, if_neg Bool.false_ne_true, hw]) ?_
  refine Ev.bind (runes_ev (by omega)) ?_
  dsimp only
  simp only [if_neg hgt]
  refine Ev.step (fun k => by rw [regletref22_Row.j1]) ?_
  generalize (rl_ s (s.size + 1) 0).length = n at *
  have hm : mn (n : Int) (r : Int) = (r : Int) - ((r - n : Nat) : Int) := by unfold mn; split <;> omega
  rw [hm]
  have := rrow_l0 hs ht hr0 (r - n) 0 (by omega) (by omega)
  rw [Nat.zero_add] at this
  exact this
theorem row_ev {s : ByteArray} {p l front a2 : Int} (hs : s.size ≤ 400) (hr : right_ s = true) (h2 : a2 ≤ 2000) (h3 : -9223372036854775808 ≤ a2) :
    ∃ t, Ev (fun k => outline_Row.f k s p l front a2) t ∧ Ev (fun k => regletref22_Row.f k s p l front a2) t := by
  obtain ⟨t, ht, e1, e2⟩ := label_ev p front
  have stop1 : Ev (fun k => outline_Row.j0 k a2 t true s p l) t := Ev.step (fun k => by rw [outline_Row.j0, if_pos rfl]) (Ev.now _)
  have stop2 : Ev (fun k => regletref22_Row.j0 k a2 t true s p l) t := Ev.step (fun k => by rw [regletref22_Row.j0, if_pos rfl]) (Ev.now _)
  unfold outline_Row.f regletref22_Row.f
  by_cases c1 : a2 < 0
  · refine ⟨t, Ev.bind e1 ?_, Ev.bind e2 ?_⟩
    · simp only [if_pos c1]; exact stop1
    · simp only [if_pos c1]; exact stop2
  have c2 : ¬ a2 > 65536 := by omega
  have hw : wrap64 (wrap64 (a2 - (t.size : Int)) - 2) = a2 - t.size - 2 := by rw [w64 (x := a2 - (t.size : Int)) (by omega) (by omega), w64 (by omega) (by omega)]
  have hw3 : wrap64 ((t.size : Int) + 3) = t.size + 3 := w64 (by omega) (by omega)
  by_cases c3 : a2 - (t.size : Int) - 2 < 1
  · refine ⟨t, Ev.bind e1 ?_, Ev.bind e2 ?_⟩
    · simp only [if_neg c1, if_neg c2, hw, decide_eq_true c3]; exact stop1
    · simp only [if_neg c1, if_neg c2, hw3, decide_eq_true (show a2 < (t.size : Int) + 3 by omega)]; exact stop2
  obtain ⟨r, hrr⟩ : ∃ r : Nat, a2 - (t.size : Int) - 2 = r := ⟨(a2 - (t.size : Int) - 2).toNat, by omega⟩
  have hr0 : r ≤ 4000 := by omega
  rw [hrr] at hw
  have hn1 : decide ((r : Int) < 1) = false := decide_eq_false (by omega)
  have hn2 : decide (a2 < (t.size : Int) + 3) = false := decide_eq_false (by omega)
  by_cases c4 : (rl_ s (s.size + 1) 0).length ≤ r
  · refine ⟨rowT s (dots_ (r - (rl_ s (s.size + 1) 0).length)) t, Ev.bind e1 ?_, Ev.bind e2 ?_⟩
    · simp only [if_neg c1, if_neg c2, hw, hn1]; exact prow_all hs hr ht hr0 hw c4
    · simp only [if_neg c1, if_neg c2, hw3, hn2]; exact rrow_all hs ht hr0 hw c4
  · obtain ⟨q, hq⟩ : ∃ q, (al_ s (s.size + 1) 0)[r]? = some q := ⟨_, List.getElem?_eq_getElem (by rw [← rl_al_len]; omega)⟩
    refine ⟨rowT (s.extract 0 q.toNat) (dots_ 0) t, Ev.bind e1 ?_, Ev.bind e2 ?_⟩
    · simp only [if_neg c1, if_neg c2, hw, hn1]; exact prow_cut hs hr ht hr0 hw hq
    · simp only [if_neg c1, if_neg c2, hw3, hn2]; exact rrow_cut hs ht hr0 hw hq
end Go.Proofs.Ytmgflcepgbgcmaa.POutlineRows
