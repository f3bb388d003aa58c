/-
Bands clipped by others are the heights that are in both, in order: the pure statement of the law PaintClips. No condition.
-/
import Derived.Test.YtblmcdpfhdamjaaOpensPaintClips
import Derived.Test.YtblmcdpfhdamjaaPJoPaintClips
namespace Go.Proofs.Ytblmcdpfhdamjaa.Pure
set_option linter.unusedVariables false
set_option linter.unusedSimpArgs false
open Go.RowKit hiding wrap64
open Go.Proofs.Ytblmcdpfhdamjaa.PPaintClips
open Go.Proofs.YtblmcdpfhdamjaaW.PrintWords hiding mx mn

theorem awake_ev : Ev (fun k => regletlaw21_awake.f k) true :=
  Ev.of (fun k => regletlaw21_awake.mono k) (k := 60) (by decide +kernel)
/-- What two bands have both. -/
def cut (a b : S90) : S90 := ⟨a.f0, mx a.f1 b.f1, mn a.f2 b.f2⟩
def both (a b : S90) : Option S90 := if a.f0 = b.f0 ∧ mx a.f1 b.f1 < mn a.f2 b.f2 then some (cut a b) else none
def clips (A B : List S90) : List S90 := A.flatMap fun a => B.filterMap (both a)
theorem mxs (u v : Int) : u ≤ mx u v ∧ v ≤ mx u v ∧ (mx u v = u ∨ mx u v = v) := by unfold mx; omega
theorem mns (u v : Int) : mn u v ≤ u ∧ mn u v ≤ v ∧ (mn u v = u ∨ mn u v = v) := by unfold mn; omega
theorem both_some {a b x : S90} (h : both a b = some x) : a.f0 = b.f0 ∧ mx a.f1 b.f1 < mn a.f2 b.f2 ∧ x = cut a b := by
  unfold both at h
  split at h
  · rename_i c; exact ⟨c.1, c.2, (Option.some.inj h).symm⟩
  · cases h
theorem clips_td {A B : List S90} (hA : Td A) (hB : Td B) : Td (clips A B) := by
  refine ⟨?_, fun x hx => ?_⟩
  · unfold clips
    rw [List.pairwise_flatMap]
    refine ⟨fun a ha => ?_, hA.pw.imp (fun {a a'} h x hx y hy => ?_)⟩
    · rw [List.pairwise_filterMap]
      refine hB.pw.imp (fun {b b'} h x hx y hy => ?_)
      obtain ⟨e1, e2, rfl⟩ := both_some hx
      obtain ⟨e3, e4, rfl⟩ := both_some hy
      have m1 := mns a.f2 b.f2
      have m2 := mxs a.f1 b'.f1
      have m3 := mxs a.f1 b.f1
      unfold Lt at *
      refine Or.inr ⟨rfl, ?_⟩
      show mn a.f2 b.f2 < mx a.f1 b'.f1
      omega
    · obtain ⟨b, _, hx⟩ := List.mem_filterMap.1 hx
      obtain ⟨b', _, hy⟩ := List.mem_filterMap.1 hy
      obtain ⟨e1, e2, rfl⟩ := both_some hx
      obtain ⟨e3, e4, rfl⟩ := both_some hy
      have m1 := mns a.f2 b.f2
      have m2 := mxs a'.f1 b'.f1
      unfold Lt cut at *
      simp only
      omega
  · obtain ⟨a, _, hx⟩ := List.mem_flatMap.1 hx
    obtain ⟨b, _, hx⟩ := List.mem_filterMap.1 hx
    obtain ⟨e1, e2, rfl⟩ := both_some hx
    exact e2
theorem clips_in {A B : List S90} (p y : Int) : InP (clips A B) p y ↔ InP A p y ∧ InP B p y := by
  constructor
  · rintro ⟨x, hx, h1, h2, h3⟩
    obtain ⟨a, ha, hx⟩ := List.mem_flatMap.1 hx
    obtain ⟨b, hb, hx⟩ := List.mem_filterMap.1 hx
    obtain ⟨e1, e2, rfl⟩ := both_some hx
    have m1 := mns a.f2 b.f2
    have m2 := mxs a.f1 b.f1
    unfold cut at h1 h2 h3
    simp only at h1 h2 h3
    exact ⟨⟨a, ha, by omega, by omega, by omega⟩, ⟨b, hb, by omega, by omega, by omega⟩⟩
  · rintro ⟨⟨a, ha, h1, h2, h3⟩, ⟨b, hb, h4, h5, h6⟩⟩
    have m1 := mns a.f2 b.f2
    have m2 := mxs a.f1 b.f1
    refine ⟨cut a b, List.mem_flatMap.2 ⟨a, ha, List.mem_filterMap.2 ⟨b, hb, ?_⟩⟩, h1, by unfold cut; simp only; omega, by unfold cut; simp only; omega⟩
    unfold both
    rw [if_pos ⟨by omega, by omega⟩]
theorem fm_len (a : S90) (B : List S90) : (B.filterMap (both a)).length ≤ B.length := List.length_filterMap_le _ _
theorem clip_l1 {l A B : List S90} {j : Nat} {a : S90} {rest : List S90} (hB : B.length ≤ 1000) (hj : j ≤ 1000) (hk : ∀ o : List S90, o.length ≤ 1000 * (j + 1) → Ev (fun k => paint_Clip.l0 k l o A (A.length : Int) ((j + 1 : Nat) : Int)) (o ++ rest)) :
    ∀ (t : List S90) (i : Nat) (o : List S90), B.drop i = t → i ≤ B.length → o.length ≤ 1000 * j + i → Ev (fun k => paint_Clip.l1 k l o A (A.length : Int) (j : Int) B (B.length : Int) (i : Int) a.f0 a.f1 a.f2) (o ++ t.filterMap (both a) ++ rest)
  | [], i, o, h, hi, ho => by
    have := dropN h
    have := hk o (by omega)
    rw [List.filterMap_nil, List.append_nil]
    exact Ev.step (fun k => by rw [paint_Clip.l1, if_neg (by omega), upN (by omega)]) this
  | b :: t, i, o, h, hi, ho => by
    obtain ⟨h1, h2, h3⟩ := d90 h
    by_cases c : a.f0 = b.f0 ∧ mx a.f1 b.f1 < mn a.f2 b.f2
    · have hb : both a b = some (cut a b) := if_pos c
      have ih := clip_l1 (l := l) (A := A) (a := a) hB hj hk t (i + 1) (o ++ [cut a b]) h3 (by omega) (by rw [List.length_append, List.length_singleton]; omega)
      rw [List.filterMap_cons_some hb]
      rw [List.append_assoc o] at ih
      refine Ev.step (fun k => ?_) ih
      rw [paint_Clip.l1, if_pos (by omega), if_pos (by omega), if_pos (by omega), h2, if_pos c.1, if_pos c.2, if_pos (by omega), upN (by omega)]
      rfl
    · have hb : both a b = none := if_neg c
      have ih := clip_l1 (l := l) (A := A) (a := a) hB hj hk t (i + 1) o h3 (by omega) (by omega)
      rw [List.filterMap_cons_none hb]
      refine Ev.step (fun k => ?_) ih
      rw [paint_Clip.l1, if_pos (by omega), if_pos (by omega), if_pos (by omega), h2, upN (by omega)]
      by_cases c1 : a.f0 = b.f0
      · rw [if_pos c1, if_neg (fun c2 => c ⟨c1, c2⟩)]
      · rw [if_neg c1]
theorem clip_l0 {l A B : List S90} (hA : A.length ≤ 1000) (hB : B.length ≤ 1000) (hJ : Ev (fun k => paint_Join.f k l) B) : ∀ (t : List S90) (j : Nat) (o : List S90), A.drop j = t → o.length ≤ 1000 * j → Ev (fun k => paint_Clip.l0 k l o A (A.length : Int) (j : Int)) (o ++ clips t B)
  | [], j, o, h, ho => by
    have := dropN h
    show Ev _ (o ++ [])
    rw [List.append_nil]
    exact Ev.step (fun k => by rw [paint_Clip.l0, if_neg (by omega)]) (Ev.now _)
  | a :: t, j, o, h, ho => by
    obtain ⟨h1, h2, h3⟩ := d90 h
    refine Ev.step (fun k => by rw [paint_Clip.l0, if_pos (by omega), if_pos (by omega), if_pos (by omega), h2]) (Ev.bind hJ ?_)
    have := clip_l1 (l := l) (A := A) (a := a) (rest := clips t B) hB (j := j) (by omega) (fun o ho => clip_l0 hA hB hJ t (j + 1) o h3 ho) B 0 o rfl (Nat.zero_le _) (by omega)
    rw [List.append_assoc] at this
    exact this
theorem clip_ev {l m A B : List S90} (hA : A.length ≤ 1000) (hB : B.length ≤ 1000) (h1 : Ev (fun k => paint_Join.f k l) A) (h2 : Ev (fun k => paint_Join.f k m) B) : Ev (fun k => paint_Clip.f k l m) (clips A B) := by
  unfold paint_Clip.f
  exact Ev.bind h1 (clip_l0 hA hB h2 A 0 [] rfl (by simp))
theorem clips_len {B : List S90} : ∀ A : List S90, (clips A B).length ≤ A.length * B.length
  | [] => by simp [clips]
  | a :: A => by
    have ih := clips_len (B := B) A
    have := fm_len a B
    have e : clips (a :: A) B = B.filterMap (both a) ++ clips A B := rfl
    rw [e, List.length_append, List.length_cons, Nat.succ_mul]; omega
theorem PaintClips : regletlaw21_PaintClips.PureX := by
  intro l m x hl hm hx
  apply Ev.rounds
  unfold regletlaw21_PaintClips.f
  refine Ev.bind awake_ev ?_
  refine Ev.congr (fun k => by rw [if_pos rfl]) ?_
  by_cases c : (l.length : Int) > 100
  · exact Ev.congr (fun k => if_pos c) (Ev.now true)
  by_cases d : (m.length : Int) > 100
  · exact Ev.congr (fun k => by rw [if_neg c, if_pos d]) (Ev.now true)
  obtain ⟨A, a1, a2, a3, a4⟩ := join_ev (l := l) (by omega)
  obtain ⟨B, b1, b2, b3, b4⟩ := join_ev (l := m) (by omega)
  have hlen : (clips A B).length ≤ 100000 := by
    have h1 := clips_len (B := B) A
    have h2 : A.length * B.length ≤ 100 * 100 := Nat.mul_le_mul (by omega) (by omega)
    omega
  obtain ⟨r, g1, g2⟩ := in_ev hlen x.f0 x.f1
  obtain ⟨q, f1, f2⟩ := in_ev (l := l) (by omega) x.f0 x.f1
  obtain ⟨q2, e1, e2⟩ := in_ev (l := m) (by omega) x.f0 x.f1
  have hr : r = (q && q2) := by
    rw [Bool.eq_iff_iff, Bool.and_eq_true, g2, f2, e2, clips_in, a4, b4]
  refine Ev.congr (fun k => by rw [if_neg c, if_neg d]) (Ev.bind (clip_ev (by omega) (by omega) a1 b1) (Ev.bind (bands_ev hlen) (Ev.bind (tidy_ev hlen (clips_td a3 b3)) (Ev.congr (fun k => if_pos rfl) (Ev.bind g1 ?_)))))
  refine Ev.bind (bands_ev (l := l) (by omega)) (Ev.bind f1 ?_)
  cases q with
  | false =>
    subst hr
    refine Ev.congr (fun k => if_neg (by simp)) ?_
    exact Ev.now true
  | true =>
    refine Ev.congr (fun k => if_pos rfl) ?_
    refine Ev.bind (bands_ev (l := m) (by omega)) (Ev.bind e1 ?_)
    subst hr
    exact Ev.congr (fun k => by rw [beq_self_eq_true]) (Ev.now true)
end Go.Proofs.Ytblmcdpfhdamjaa.Pure
