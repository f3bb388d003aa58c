import Derived.Test.YtiabffkfabmlpaaRfs2LocateSpots
import Derived.Test.YtiabffkfabmlpaaLinesLocateSpots
/-! Our own text: a line that is found is one of the pages', and its stops. -/
namespace Go.Proofs.Ytiabffkfabmlpaa.PLocateSpots
set_option linter.unusedVariables false
open Go.RowKit Go.Proofs.YtiabffkfabmlpaaW.PrintWords

theorem rd24s {L : List S24} {p : Nat} (h : p < L.length) : rd_T24 L (p : Int) = L[p] := by
  unfold rd_T24
  rw [Int.toNat_natCast, List.getD_eq_getElem?_getD, List.getElem?_eq_getElem h]; rfl
theorem rd28s {l : List S28} {p : Nat} (h : p < l.length) : rd_T28 l (p : Int) = l[p] := by
  unfold rd_T28
  rw [Int.toNat_natCast, List.getD_eq_getElem?_getD, List.getElem?_eq_getElem h]; rfl
def ln_ (L : List S24) (p n : Nat) : S28 := rd_T28 (rd_T24 L (p : Int)).f0 (n : Int)
theorem goodln {L : List S24} {p n : Nat} (few : Few L) (hp : p < L.length) (hn : n < (rd_T24 L (p : Int)).f0.length) : GoodL (ln_ L p n) ∧ (rd_T24 L (p : Int)).f0.length ≤ 60 := by
  have h1 := rd24s hp
  have h2 := few_len few _ (List.getElem_mem hp)
  rw [← h1] at h2
  refine ⟨?_, h2⟩
  have h3 := few.1 _ (List.getElem_mem hp)
  rw [← h1] at h3
  unfold ln_
  rw [rd28s hn]
  exact h3 _ (List.getElem_mem hn)
/-- Is it a line of the pages? -/
def InL (L : List S24) (p n : Int) : Prop := ∃ a b : Nat, p = (a : Int) ∧ n = (b : Int) ∧ a < L.length ∧ b < (rd_T24 L (a : Int)).f0.length
theorem sL_in {L : List S24} {p : Nat} (hp : p < L.length) {x : S24} (hx : rd_T24 L (p : Int) = x) : ∀ (t : List S28) (i a : Nat) (st : St), x.f0.drop i = t → (st.2.2.2 = true → InL L st.1 st.2.1) →
    (∀ q, sL (p : Int) t i a st = .inl q → InL L q.1 q.2.1) ∧ (∀ a2 st2, sL (p : Int) t i a st = .inr (a2, st2) → st2.2.2.2 = true → InL L st2.1 st2.2.1)
  | [], i, a, st, h, hs => ⟨fun q e => by simp [sL] at e, fun a2 st2 e hb => by simp [sL] at e; obtain ⟨_, rfl⟩ := e; exact hs hb⟩
  | y :: t, i, a, st, h, hs => by
    obtain ⟨h1, h2, h3⟩ := d28 h
    have me : InL L (p : Int) (i : Int) := ⟨p, i, rfl, rfl, hp, by rw [hx]; exact h1⟩
    obtain ⟨g1, g2⟩ := sL_in hp hx t (i + 1) (a - y.f0.size) ((p : Int), (i : Int), (y.f0.size : Int), true) h3 (fun _ => me)
    simp only [sL]
    by_cases c : a < y.f0.size
    · simp only [if_pos c]
      exact ⟨fun q e => by cases e; exact me, fun a2 st2 e => by cases e⟩
    · simp only [if_neg c]
      exact ⟨g1, g2⟩
theorem sP_in {L : List S24} : ∀ (t : List S24) (p a : Nat) (st : St), L.drop p = t → (st.2.2.2 = true → InL L st.1 st.2.1) → ((lineOf (sP t p a st)).2.2.2 = true → InL L (lineOf (sP t p a st)).1 (lineOf (sP t p a st)).2.1)
  | [], p, a, st, h, hs => by
    obtain ⟨s1, s2, s3, s4⟩ := st
    simp only [sP, lineOf]
    by_cases c : a = 0
    · rw [if_pos c]
      by_cases d : s4 = true
      · rw [if_pos d]; exact fun _ => hs d
      · rw [if_neg d]; intro h; cases h
    · rw [if_neg c]; intro h; cases h
  | x :: t, p, a, st, h, hs => by
    obtain ⟨h1, h2, h3⟩ := d24 h
    obtain ⟨g1, g2⟩ := sL_in h1 h2 x.f0 0 a st rfl hs
    simp only [sP]
    split
    · rename_i r e
      exact fun _ => g1 r e
    · rename_i a2 st2 e
      exact sP_in t (p + 1) a2 st2 h3 (g2 a2 st2 e)
theorem lineP_in (L : List S24) (a : Int) : (lineP L a).2.2.2 = true → InL L (lineP L a).1 (lineP L a).2.1 := by
  unfold lineP
  by_cases c : a < 0
  · rw [if_pos c]; intro h; cases h
  · rw [if_neg c]; exact sP_in L 0 a.toNat _ rfl (fun h => by cases h)
/-- A line's stops, as both tell them. -/
def sto_ (T : List S73) (L : List S24) (p n : Nat) : List S43 := sts_ T (ln_ L p n).f1 (spw_ T (ln_ L p n).f2 (ln_ L p n).f3) (ln_ L p n).f0
theorem sto_len {T : List S73} {L : List S24} {p n : Nat} (few : Few L) (hp : p < L.length) (hn : n < (rd_T24 L (p : Int)).f0.length) : 1 ≤ (sto_ T L p n).length ∧ (sto_ T L p n).length ≤ 1001 := by
  obtain ⟨g, _⟩ := goodln few hp hn
  have hl := stl_len (T := T) (R := (ln_ L p n).f1) (sp := spw_ T (ln_ L p n).f2 (ln_ L p n).f3) (en := shn_ (ln_ L p n).f0) (s := (ln_ L p n).f0) ((ln_ L p n).f0.size + 1) 0 0 (rt_all g.2.2.1) (Nat.zero_le _)
  have := g.1
  unfold sto_ sts_
  exact ⟨hl.2, by omega⟩
theorem psto_ev {T : List S73} (hT : ∀ x ∈ T, RightS x) {L : List S24} {p n : Nat} (few : Few L) (hp : p < L.length) (hn : n < (rd_T24 L (p : Int)).f0.length) : Ev (fun k => locate_Stops.f k [⟨T⟩] (ln_ L p n).f0 (ln_ L p n).f1 (ln_ L p n).f2 (ln_ L p n).f3 (ln_ L p n).f4 (ln_ L p n).f5 (ln_ L p n).f6 (ln_ L p n).f7 (ln_ L p n).f8) (sto_ T L p n) := by
  obtain ⟨g, _⟩ := goodln few hp hn
  exact stops_ev hT (by have := g.2.1; omega) (by have := g.1; omega) g.2.2.1 (fun i => spw_ev hT i)
theorem rsto_ev {T : List S73} (hT : ∀ x ∈ T, RightS x) {L : List S24} {p n : Nat} (few : Few L) (hp : p < L.length) (hn : n < (rd_T24 L (p : Int)).f0.length) : Ev (fun k => regletref15_Stops.f k T (ln_ L p n).f0 (ln_ L p n).f1 (ln_ L p n).f2 (ln_ L p n).f3 (ln_ L p n).f4 (ln_ L p n).f5 (ln_ L p n).f6 (ln_ L p n).f7 (ln_ L p n).f8) ((sto_ T L p n).map t44) := by
  obtain ⟨g, _⟩ := goodln few hp hn
  exact rstops_ev hT (by have := g.2.1; omega) (by have := g.1; omega) g.2.2.1
theorem d43 {l t : List S43} {i : Nat} {n : S43} (h : l.drop i = n :: t) : i < l.length ∧ rd_T43 l (i : Int) = n ∧ l.drop (i + 1) = t := by
  have := dropI z43 h
  unfold rd_T43; rw [Int.toNat_natCast]; exact this
theorem d44 {l t : List S43} {i : Nat} {n : S43} (h : l.drop i = n :: t) : i < (l.map t44).length ∧ rd_T44 (l.map t44) (i : Int) = t44 n := by
  obtain ⟨h1, h2, h3⟩ := dropI z43 h
  refine ⟨by rw [List.length_map]; exact h1, ?_⟩
  unfold rd_T44
  rw [Int.toNat_natCast, List.getD_eq_getElem?_getD, List.getElem?_map, List.getElem?_eq_getElem h1]
  rw [List.getD_eq_getElem?_getD, List.getElem?_eq_getElem h1] at h2
  exact congrArg t44 h2
end Go.Proofs.Ytiabffkfabmlpaa.PLocateSpots
