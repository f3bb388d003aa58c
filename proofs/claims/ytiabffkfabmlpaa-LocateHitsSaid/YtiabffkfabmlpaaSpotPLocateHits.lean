import Derived.Test.YtiabffkfabmlpaaRfs2LocateHits
import Derived.Test.YtiabffkfabmlpaaLinesLocateHits
/-! Our own text: a line that is found is one of the pages', and its stops. -/
namespace Go.Proofs.Ytiabffkfabmlpaa.PLocateHits
set_option linter.unusedVariables false
open Go.RowKit Go.Proofs.YtiabffkfabmlpaaW.PrintWords

theorem rd24s {L : List S24} {p : Nat} (h : p < L.length) : rd_T24 L (p : Int) = L[p] := by
  unfold rd_T24
  rw [Int.toNat_natCast, List.getD_eq_getElem?_getD, List.getElem?_eq_getElem h]; rfl
theorem rd28s {l : List S28} {p : Nat} (h : p < l.length) : rd_T28 l (p : Int) = l[p] := by
  unfold rd_T28
  rw [Int.toNat_natCast, List.getD_eq_getElem?_getD, List.getElem?_eq_getElem h]; rfl
def ln_ (L : List S24) (p n : Nat) : S28 := rd_T28 (rd_T24 L (p : Int)).f0 (n : Int)
theorem goodln {L : List S24} {p n : Nat} (few : Few L) (hp : p < L.length) (hn : n < (rd_T24 L (p : Int)).f0.length) : GoodL (ln_ L p n) ∧ (rd_T24 L (p : Int)).f0.length ≤ 60 := by
  have h1 := rd24s hp
  have h2 := few_len few _ (List.getElem_mem hp)
  rw [← h1] at h2
  refine ⟨?_, h2⟩
  have h3 := few.1 _ (List.getElem_mem hp)
  rw [← h1] at h3
  unfold ln_
  rw [rd28s hn]
  exact h3 _ (List.getElem_mem hn)
/-- A line's stops, as both tell them. -/
def sto_ (T : List S73) (L : List S24) (p n : Nat) : List S43 := sts_ T (ln_ L p n).f1 (spw_ T (ln_ L p n).f2 (ln_ L p n).f3) (ln_ L p n).f0
theorem sto_len {T : List S73} {L : List S24} {p n : Nat} (few : Few L) (hp : p < L.length) (hn : n < (rd_T24 L (p : Int)).f0.length) : 1 ≤ (sto_ T L p n).length ∧ (sto_ T L p n).length ≤ 1001 := by
  obtain ⟨g, _⟩ := goodln few hp hn
  have hl := stl_len (T := T) (R := (ln_ L p n).f1) (sp := spw_ T (ln_ L p n).f2 (ln_ L p n).f3) (en := shn_ (ln_ L p n).f0) (s := (ln_ L p n).f0) ((ln_ L p n).f0.size + 1) 0 0 (rt_all g.2.2.1) (Nat.zero_le _)
  have := g.1
  unfold sto_ sts_
  exact ⟨hl.2, by omega⟩
theorem psto_ev {T : List S73} (hT : ∀ x ∈ T, RightS x) {L : List S24} {p n : Nat} (few : Few L) (hp : p < L.length) (hn : n < (rd_T24 L (p : Int)).f0.length) : Ev (fun k => locate_Stops.f k [⟨T⟩] (ln_ L p n).f0 (ln_ L p n).f1 (ln_ L p n).f2 (ln_ L p n).f3 (ln_ L p n).f4 (ln_ L p n).f5 (ln_ L p n).f6 (ln_ L p n).f7 (ln_ L p n).f8) (sto_ T L p n) := by
  obtain ⟨g, _⟩ := goodln few hp hn
  exact stops_ev hT (by have := g.2.1; omega) (by have := g.1; omega) g.2.2.1 (fun i => spw_ev hT i)
theorem rsto_ev {T : List S73} (hT : ∀ x ∈ T, RightS x) {L : List S24} {p n : Nat} (few : Few L) (hp : p < L.length) (hn : n < (rd_T24 L (p : Int)).f0.length) : Ev (fun k => regletref15_Stops.f k T (ln_ L p n).f0 (ln_ L p n).f1 (ln_ L p n).f2 (ln_ L p n).f3 (ln_ L p n).f4 (ln_ L p n).f5 (ln_ L p n).f6 (ln_ L p n).f7 (ln_ L p n).f8) ((sto_ T L p n).map t44) := by
  obtain ⟨g, _⟩ := goodln few hp hn
  exact rstops_ev hT (by have := g.2.1; omega) (by have := g.1; omega) g.2.2.1
theorem d43 {l t : List S43} {i : Nat} {n : S43} (h : l.drop i = n :: t) : i < l.length ∧ rd_T43 l (i : Int) = n ∧ l.drop (i + 1) = t := by
  have := dropI z43 h
  unfold rd_T43; rw [Int.toNat_natCast]; exact this
theorem d44 {l t : List S43} {i : Nat} {n : S43} (h : l.drop i = n :: t) : i < (l.map t44).length ∧ rd_T44 (l.map t44) (i : Int) = t44 n := by
  obtain ⟨h1, h2, h3⟩ := dropI z43 h
  refine ⟨by rw [List.length_map]; exact h1, ?_⟩
  unfold rd_T44
  rw [Int.toNat_natCast, List.getD_eq_getElem?_getD, List.getElem?_map, List.getElem?_eq_getElem h1]
  rw [List.getD_eq_getElem?_getD, List.getElem?_eq_getElem h1] at h2
  exact congrArg t44 h2
end Go.Proofs.Ytiabffkfabmlpaa.PLocateHits
