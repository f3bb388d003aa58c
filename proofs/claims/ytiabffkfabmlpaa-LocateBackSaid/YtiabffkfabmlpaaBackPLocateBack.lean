import Derived.Test.YtiabffkfabmlpaaBLinLocateBack
import Derived.Test.YtiabffkfabmlpaaTabLocateBack
/-! Our own text: a line's places rise, and what is found at them. -/
namespace Go.Proofs.Ytiabffkfabmlpaa.PLocateBack
set_option linter.unusedVariables false
open Go.RowKit Go.Proofs.YtiabffkfabmlpaaW.PrintWords

def sp0 (T : List S73) (i : Int) : Int := (stg_ T i).f1
theorem space0_ev {T : List S73} {s : ByteArray} {R : List S75} {b3 b4 b6 : Int} {b5 b7 b8 : Bool} (i : Int) : Ev (fun k => locate_space.f k [⟨T⟩] s R 0 b3 b4 b5 b6 b7 b8 i) (sp0 T i) := by
  unfold locate_space.f metrics_Table_Space.f
  refine Ev.congr (fun k => ?_) (Ev.now (sp0 T i))
  rw [of_f, Option.bind_some, Option.bind_some, if_neg (by decide), if_neg (by decide)]
  rfl
def Up (a b : S43) : Prop := a.f0 < b.f0 ∧ a.f1 ≤ b.f1
theorem stl_up {T : List S73} (hT : ∀ x ∈ T, RightS x) {R : List S75} {sp : Int → Int} (hsp : ∀ i, 0 ≤ sp i ∧ sp i ≤ 1048576) {en : Int} {s : ByteArray} : ∀ (f i : Nat) (x : Int), Rt s f i → i ≤ s.size → 0 ≤ x → x ≤ 1152921504606846976 →
    (∀ y ∈ stl_ T R sp en s f i x, (i : Int) ≤ y.f0 ∧ x ≤ y.f1 ∧ y.f0 ≤ (s.size : Int)) ∧ (stl_ T R sp en s f i x).Pairwise Up
  | 0, i, x, h, hi, h0, h1 => by have := h.2; omega
  | f + 1, i, x, h, hi, h0, h1 => by
    by_cases c : i < s.size
    · obtain ⟨hz, g1, g2, g3, g4⟩ := rt_step h c
      have e : stl_ T R sp en s (f + 1) i x = (⟨(i : Int), x⟩ : S43) :: stl_ T R sp en s f (i + (rsize_ s (i : Int)).toNat) (if kd_ (vOf s (i : Int) (rsize_ s (i : Int))) = 1 then (if (i : Int) < en then ad_ x (sp (sa_ R (i : Int))) else x) else ad_ x (wd_ T (sa_ R (i : Int)) (vOf s (i : Int) (rsize_ s (i : Int))))) := if_pos c
      have hx : ∀ b, 0 ≤ b → b ≤ 1048576 → x ≤ ad_ x b ∧ ad_ x b ≤ 1152921504606846976 := fun b b0 b1 => ad_mono h0 h1 b0 (by omega)
      have hw := wd_rng hT (sa_ R (i : Int)) (vOf s (i : Int) (rsize_ s (i : Int)))
      have hs := hsp (sa_ R (i : Int))
      have hx2 : x ≤ (if kd_ (vOf s (i : Int) (rsize_ s (i : Int))) = 1 then (if (i : Int) < en then ad_ x (sp (sa_ R (i : Int))) else x) else ad_ x (wd_ T (sa_ R (i : Int)) (vOf s (i : Int) (rsize_ s (i : Int))))) ∧ (if kd_ (vOf s (i : Int) (rsize_ s (i : Int))) = 1 then (if (i : Int) < en then ad_ x (sp (sa_ R (i : Int))) else x) else ad_ x (wd_ T (sa_ R (i : Int)) (vOf s (i : Int) (rsize_ s (i : Int))))) ≤ 1152921504606846976 := by
        split
        · split
          · exact hx _ hs.1 hs.2
          · exact ⟨Int.le_refl _, h1⟩
        · exact hx _ hw.1 hw.2
      rw [e]
      generalize (if kd_ (vOf s (i : Int) (rsize_ s (i : Int))) = 1 then (if (i : Int) < en then ad_ x (sp (sa_ R (i : Int))) else x) else ad_ x (wd_ T (sa_ R (i : Int)) (vOf s (i : Int) (rsize_ s (i : Int))))) = x2 at *
      obtain ⟨p, q⟩ := stl_up hT hsp (R := R) (en := en) f (i + (rsize_ s (i : Int)).toNat) x2 g4 g2 (by omega) hx2.2
      refine ⟨fun y hy => ?_, List.Pairwise.cons (fun y hy => ?_) q⟩
      · rcases List.mem_cons.1 hy with e1 | e1
        · subst e1; exact ⟨Int.le_refl _, Int.le_refl _, by show (i : Int) ≤ _; omega⟩
        · have := p y e1
          omega
      · have := p y hy
        exact ⟨by show (i : Int) < _; omega, by show x ≤ _; omega⟩
    · have e : stl_ T R sp en s (f + 1) i x = [⟨(s.size : Int), x⟩] := if_neg c
      rw [e]
      refine ⟨fun y hy => ?_, List.pairwise_singleton _ _⟩
      rw [List.mem_singleton] at hy
      subst hy
      exact ⟨by show (i : Int) ≤ (s.size : Int); omega, Int.le_refl _, Int.le_refl _⟩
theorem stl_0 {T : List S73} {R : List S75} {sp : Int → Int} {en : Int} {s : ByteArray} (f i : Nat) (x : Int) (h : 0 < (stl_ T R sp en s f i x).length) : (stl_ T R sp en s f i x)[0].f1 = x := by
  cases f with
  | zero => rfl
  | succ f =>
    by_cases c : i < s.size
    · have e : stl_ T R sp en s (f + 1) i x = (⟨(i : Int), x⟩ : S43) :: stl_ T R sp en s f (i + (rsize_ s (i : Int)).toNat) (if kd_ (vOf s (i : Int) (rsize_ s (i : Int))) = 1 then (if (i : Int) < en then ad_ x (sp (sa_ R (i : Int))) else x) else ad_ x (wd_ T (sa_ R (i : Int)) (vOf s (i : Int) (rsize_ s (i : Int))))) := if_pos c
      simp only [e, List.getElem_cons_zero]
    · have e : stl_ T R sp en s (f + 1) i x = [⟨(s.size : Int), x⟩] := if_neg c
      simp only [e, List.getElem_cons_zero]
/-- What is known of a line's places. -/
structure Pl (S : List S43) (z : Nat) : Prop where
  up : S.Pairwise Up
  pos : 1 ≤ S.length
  len : S.length ≤ 1001
  zero : ∀ h : 0 < S.length, S[0].f1 = 0
  nn : ∀ y ∈ S, 0 ≤ y.f0
  lt : ∀ j (h : j < S.length), j + 1 < S.length → S[j].f0 < (z : Int)
theorem sts_pl {T : List S73} (hT : ∀ x ∈ T, RightS x) {R : List S75} {s : ByteArray} (hs : s.size ≤ 1000) (hr : right_ s = true) : Pl (sts_ T R (sp0 T) s) s.size := by
  have h := stl_up hT (R := R) (sp := sp0 T) (fun i => (stg_right hT i).sp) (en := shn_ s) (s := s) (s.size + 1) 0 0 (rt_all hr) (Nat.zero_le _) (Int.le_refl _) (by decide)
  have hl := stl_len (T := T) (R := R) (sp := sp0 T) (en := shn_ s) (s := s) (s.size + 1) 0 0 (rt_all hr) (Nat.zero_le _)
  refine ⟨h.2, hl.2, by unfold sts_; omega, fun g => stl_0 _ _ _ g, fun y hy => (h.1 y hy).1, fun j hj hj2 => ?_⟩
  have h1 := (List.pairwise_iff_getElem.1 h.2 j (j + 1) hj hj2 (by omega)).1
  have h2 := (h.1 _ (List.getElem_mem hj2)).2.2
  exact Int.lt_of_lt_of_le h1 h2
theorem spot_l0 {S : List S43} {z : Nat} (h : Pl S z) {j : Nat} (hj : j < S.length) (p n : Int) : ∀ d i : Nat, i + d = j → Ev (fun k => locate_Spot.l0 k p n (S[j].f0) S (S.length : Int) (i : Int)) (p, n, S[j].f1, 0)
  | 0, i, e => by
    have e : i = j := by omega
    subst e
    refine Ev.step (fun k => ?_) (Ev.now _)
    rw [locate_Spot.l0, if_pos (by omega), if_pos (by omega), if_pos (by omega), rd43 hj, if_pos rfl]
  | d + 1, i, e => by
    have hl := h.len
    have hi : i < S.length := by omega
    have := (List.pairwise_iff_getElem.1 h.up i j hi hj (by omega)).1
    refine Ev.step (fun k => ?_) (spot_l0 h hj p n d (i + 1) (by omega))
    rw [locate_Spot.l0, if_pos (by omega), if_pos (by omega), if_pos (by omega), rd43 hi, if_neg (by omega), vup (by omega)]
theorem hit_l0 {S : List S43} {z : Nat} (h : Pl S z) {fr : Nat} (hf : fr ≤ 20000) (hz : z ≤ 1000) {j : Nat} (hj : j + 1 < S.length) {p n : Int} {s : ByteArray} (hs : s.size ≤ 1000) (hr : right_ s = true) {R : List S75} {b2 b3 b4 b6 : Int} {b5 b7 b8 : Bool} : ∀ d i : Nat, i + 1 + d = S.length → (∀ q (hq : q + 1 < S.length), q < i → S[q + 1].f1 ≤ S[j].f1) →
    Evp (fun k => locate_Hit.l0 k (fr : Int) S (i : Int) p n (S[j].f1) s R b2 b3 b4 b5 b6 b7 b8) (fun r => r.2 = 0 ∧ (S[j + 1].f1 > S[j].f1 → r.1 = (fr : Int) + S[j].f0))
  | 0, i, e, hq => by
    have hl := h.len
    refine Evp.step (fun k => by rw [locate_Hit.l0, vup (by omega), if_neg (by omega)]) ?_
    refine Evp.bind (shown_ev (by omega) hr) ?_
    refine Evp.now (And.intro rfl (fun g => ?_))
    have := hq j hj (by omega)
    omega
  | d + 1, i, e, hq => by
    have hl := h.len
    have hi : i + 1 < S.length := by omega
    have hi0 : i < S.length := by omega
    have r1 := rd43 hi
    have r0 := rd43 hi0
    by_cases c : S[i + 1].f1 > S[j].f1
    · have l1 := h.lt i hi0 hi
      have l2 := h.nn _ (List.getElem_mem hi0)
      refine Evp.step (f := fun _ => some ((fr : Int) + S[i].f0, 0)) (fun k => ?_) ?_
      · rw [locate_Hit.l0, vup (by omega), if_pos (by omega), if_pos (by omega), r1, if_pos c, if_pos (by omega), if_pos (by omega), r0, v64 (by omega) (by omega)]
      · refine Evp.now (And.intro rfl (fun g => ?_))
        rcases Nat.lt_trichotomy i j with f | f | f
        · exfalso
          rcases Nat.eq_or_lt_of_le (show i + 1 ≤ j from f) with f2 | f2
          · subst f2; omega
          · have := (List.pairwise_iff_getElem.1 h.up (i + 1) j hi (by omega) f2).2
            omega
        · subst f; rfl
        · have := hq j hj f
          omega
    · have ih := hit_l0 h hf hz hj (p := p) (n := n) hs hr (R := R) (b2 := b2) (b3 := b3) (b4 := b4) (b6 := b6) (b5 := b5) (b7 := b7) (b8 := b8) d (i + 1) (by omega) (fun q hq1 hq2 => by
        rcases Nat.lt_or_ge q i with f | f
        · exact hq q hq1 f
        · have : q = i := by omega
          subst this; omega)
      refine Evp.step (fun k => ?_) ih
      rw [locate_Hit.l0, vup (by omega), if_pos (by omega), if_pos (by omega), r1, if_neg c]
theorem loff_ev {L : List S24} (h : Few L) {p n : Nat} (hp : p < L.length) (hn : n < (rd_T24 L (p : Int)).f0.length) : Ev (fun k => locate_Offset.f k L (p : Int) (n : Int)) (((offN L p n : Nat) : Int), true) := by
  unfold locate_Offset.f
  refine Ev.congr (fun k => ?_) (poff_ev h hp hn)
  rw [if_neg (by omega), if_neg (by omega), if_neg (by omega), if_pos (by omega), if_pos (by omega), decide_eq_false (by omega)]
theorem off_le2 {L : List S24} (h : Few L) {p n : Nat} (hp : p < L.length) : offN L p n ≤ 12000 := by
  have h1 := off_le (n := n) h hp
  have h2 := totL_take (rd_T24 L (p : Int)).f0 n
  unfold offN
  omega
theorem mid_ {p m : Nat} (h : p < m) (hm : m ≤ 1000) : mx 0 (mn (p : Int) (wrap64 ((m : Int) - 1))) = (p : Int) := by
  rw [v64 (by omega) (by omega)]
  unfold mx mn
  (repeat' split) <;> omega
/-- A line of pages that are tried, without a number of its own. -/
structure Ln (T : List S73) (L : List S24) (p n : Nat) : Prop where
  ht : ∀ x ∈ T, RightS x
  few : Few L
  hp : p < L.length
  hn : n < (rd_T24 L (p : Int)).f0.length
  hz : (rd_T28 (rd_T24 L (p : Int)).f0 (n : Int)).f2 = 0
def li_ (L : List S24) (p n : Nat) : S28 := rd_T28 (rd_T24 L (p : Int)).f0 (n : Int)
theorem good_ {L : List S24} {p n : Nat} (few : Few L) (hp : p < L.length) (hn : n < (rd_T24 L (p : Int)).f0.length) : GoodL (li_ L p n) ∧ (rd_T24 L (p : Int)).f0.length ≤ 60 := by
  have h1 := rd24 hp
  have h2 := few_len few _ (List.getElem_mem hp)
  rw [← h1] at h2
  refine ⟨?_, h2⟩
  have h3 := few.1 _ (List.getElem_mem hp)
  rw [← h1] at h3
  unfold li_
  rw [rd28 hn]
  exact h3 _ (List.getElem_mem hn)
def pl_ (T : List S73) (L : List S24) (p n : Nat) : List S43 := sts_ T (li_ L p n).f1 (sp0 T) (li_ L p n).f0
theorem lstops_ev {T : List S73} {L : List S24} {p n : Nat} (h : Ln T L p n) : Ev (fun k => locate_Stops.f k [⟨T⟩] (li_ L p n).f0 (li_ L p n).f1 (li_ L p n).f2 (li_ L p n).f3 (li_ L p n).f4 (li_ L p n).f5 (li_ L p n).f6 (li_ L p n).f7 (li_ L p n).f8) (pl_ T L p n) := by
  obtain ⟨g, _⟩ := good_ h.few h.hp h.hn
  have hz : (li_ L p n).f2 = 0 := h.hz
  rw [hz]
  exact stops_ev h.ht (by have := g.2.1; omega) (by have := g.1; omega) g.2.2.1 (fun i => space0_ev i)
theorem pl_pl {T : List S73} {L : List S24} {p n : Nat} (h : Ln T L p n) : Pl (pl_ T L p n) (li_ L p n).f0.size := by
  obtain ⟨g, _⟩ := good_ h.few h.hp h.hn
  exact sts_pl h.ht (by have := g.1; omega) g.2.2.1
theorem lline_ev {T : List S73} {L : List S24} {p n i : Nat} (h : Ln T L p n) (hi : i < (li_ L p n).f0.size) : Ev (fun k => locate_Line.f k L ((offN L p n + i : Nat) : Int)) ((p : Int), (n : Int), (i : Int), true) := by
  obtain ⟨g, _⟩ := good_ h.few h.hp h.hn
  have ho := off_le2 h.few h.hp (n := n)
  have := pline_ev h.few (a := ((offN L p n + i : Nat) : Int)) (by have := g.1; omega)
  rw [line_at h.hp h.hn hi] at this
  exact this
theorem spot_ev {T : List S73} {L : List S24} {p n j : Nat} (h : Ln T L p n) (hj : j < (pl_ T L p n).length) (hj2 : j + 1 < (pl_ T L p n).length) : Ev (fun k => locate_Spot.f k [⟨T⟩] L (((offN L p n : Nat) : Int) + (pl_ T L p n)[j].f0)) ((p : Int), (n : Int), (pl_ T L p n)[j].f1, 0) := by
  have hP := pl_pl h
  have h1 := hP.lt j hj hj2
  have h2 := hP.nn _ (List.getElem_mem hj)
  obtain ⟨i, hi⟩ : ∃ i : Nat, (pl_ T L p n)[j].f0 = (i : Int) := ⟨((pl_ T L p n)[j].f0).toNat, by omega⟩
  have hl := lline_ev h (i := i) (by omega)
  have hs := spot_l0 hP hj (p : Int) (n : Int) j 0 (by omega)
  rw [hi] at hs ⊢
  have hp := h.hp
  have hn := h.hn
  unfold locate_Spot.f
  rw [show (((offN L p n : Nat) : Int) + (i : Int)) = ((offN L p n + i : Nat) : Int) by omega]
  refine Ev.bind hl ?_
  refine Ev.congr (fun k => by dsimp only; rw [if_pos rfl, if_pos (by omega), if_pos (by omega), if_pos (by omega), if_pos (by omega)]; rfl) (Ev.bind (lstops_ev h) ?_)
  exact hs
theorem hit_ev {T : List S73} {L : List S24} {p n j : Nat} (h : Ln T L p n) (hj : j < (pl_ T L p n).length) (hj2 : j + 1 < (pl_ T L p n).length) : Evp (fun k => locate_Hit.f k [⟨T⟩] L (p : Int) (n : Int) ((pl_ T L p n)[j].f1)) (fun r => r.2 = 0 ∧ ((pl_ T L p n)[j + 1].f1 > (pl_ T L p n)[j].f1 → r.1 = ((offN L p n : Nat) : Int) + (pl_ T L p n)[j].f0)) := by
  have hP := pl_pl h
  obtain ⟨g, g6⟩ := good_ h.few h.hp h.hn
  have hL := h.few.2.2
  have hp := h.hp
  have hn := h.hn
  have e1 := mid_ (p := p) (m := L.length) hp (by omega)
  have e2 := mid_ (p := n) (m := (rd_T24 L (p : Int)).f0.length) hn (by omega)
  have ho := off_le2 h.few h.hp (n := n)
  unfold locate_Hit.f
  rw [e1, e2]
  refine Evp.congr (fun k => by rw [if_neg (by omega), if_pos (by omega), if_pos (by omega), if_neg (by omega)]) (Evp.bind (loff_ev h.few hp hn) ?_)
  refine Evp.congr (fun k => by dsimp only; rw [if_pos (by omega), if_pos (by omega)]; rfl) (Evp.bind (lstops_ev h) ?_)
  have hpos := hP.pos
  exact hit_l0 hP (by omega) (by have := g.1; omega) hj2 (by have := g.1; omega) g.2.2.1 ((pl_ T L p n).length - 1) 0 (by omega) (fun q _ hq => by omega)
end Go.Proofs.Ytiabffkfabmlpaa.PLocateBack
