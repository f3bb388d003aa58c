/-
Any calls in any order leave each mark where the page says, or are refused for their first fault: the pure statement of the law MarksPlay. No condition.
-/
import Derived.Test.YthfijdffkbkifaaOpensMarksPlay
import Derived.Test.YthfijdffkbkifaaMAllMarksPlay
namespace Go.Proofs.Ythfijdffkbkifaa.Pure
set_option linter.unusedVariables false
set_option linter.unusedSimpArgs false
open Go.RowKit hiding wrap64
open Go.Proofs.Ythfijdffkbkifaa.PMarksPlay
open Go.Proofs.YthfijdffkbkifaaW.PrintWords hiding mx mn

theorem rget_ev {N : Nat} {s : Int × Int × List S46} (h : Inv N s) (q : Int) : Ev (fun k => regletref16_Get.f k s.1 s.2.1 (s.2.2.map cv) q) (getS s q) := by
  have h4 := h.len
  unfold regletref16_Get.f
  refine Ev.bind (rfind_ev (l := s.2.2) (by omega)) ?_
  unfold getS
  cases hf : fi s.2.2 q with
  | none =>
    refine Ev.congr (fun k => ?_) (Ev.now _)
    rw [at0_none rfl, if_pos (by omega)]
  | some j =>
    have hj := fi_lt hf
    have hx := cvr (List.drop_eq_getElem_cons hj)
    have hd : s.2.2.getD j z46 = s.2.2[j] := by rw [List.getD_eq_getElem?_getD, List.getElem?_eq_getElem hj]; rfl
    refine Ev.congr (fun k => ?_) (Ev.now _)
    rw [at0_some rfl, if_neg (by omega), if_pos (by omega), List.length_map, if_pos (by omega), hx]
    simp only [hd, cv]
theorem law_l0 {N : Nat} {s : Int × Int × List S46} (hi : Inv N s) (hN : N < 1000000) {S : List S46} (hS : S = markSort s.2.2) : ∀ (t : List S46) (i : Nat) (o : List S46), S.drop i = t → o.length = i → i ≤ S.length → Ev (fun k => regletlaw16_MarksPlay.l0 k s.1 s.2.1 s.2.2 (o ++ t) (S.map cv) (i : Int)) true
  | [], i, o, h, ho, hiS => by
    have := dropN h
    have hl : S.length ≤ 1024 := by rw [hS, sort_len]; exact hi.len
    by_cases c : o.length = 0
    · exact Ev.step (fun k => by rw [regletlaw16_MarksPlay.l0, List.append_nil, if_neg (by omega), if_pos (by omega)]) (Ev.now _)
    · have d : ¬ S.length = 0 := by omega
      · refine Ev.step (fun k => by rw [regletlaw16_MarksPlay.l0, List.append_nil, if_neg (by omega), if_neg (by omega), List.length_map, if_pos (by omega)]) (Ev.bind (all_ev hi hN) ?_)
        rw [← hS]
        obtain ⟨x, t', hx⟩ : ∃ x t', S = x :: t' := by
          cases S with
          | nil => exact absurd rfl d
          | cons x t => exact ⟨x, t, rfl⟩
        have h1 : rd_T46 S 0 = x := (d46 (l := S) (i := 0) (t := t') (n := x) hx).2.1
        have h2 : rd_T51 (S.map cv) 0 = cv x := cvr (l := S) (i := 0) (t := t') (x := x) hx
        exact Ev.congr (fun k => by rw [if_pos (by omega), h1, h2]; simp [cv]) (Ev.now _)
  | x :: t, i, o, h, ho, hiS => by
    have hl : S.length ≤ 1024 := by rw [hS, sort_len]; exact hi.len
    obtain ⟨h1, _, h3⟩ := d46 h
    have hx := cvr h
    have hr : rd_T46 (o ++ x :: t) (i : Int) = x := (d46 (l := o ++ x :: t) (i := i) (t := t) (n := x) (by rw [← ho]; simp)).2.1
    have hlen : (o ++ x :: t).length = i + t.length + 1 := by simp; omega
    have hset : (o ++ x :: t).set i ⟨x.f0, -1, x.f2⟩ = (o ++ [(⟨x.f0, -1, x.f2⟩ : S46)]) ++ t := by
      rw [← ho, List.set_append_right _ _ (Nat.le_refl _)]; simp
    have ih := law_l0 hi hN hS t (i + 1) (o ++ [(⟨x.f0, -1, x.f2⟩ : S46)]) h3 (by simp; omega) (by omega)
    refine Ev.step (fun k => ?_) ih
    rw [regletlaw16_MarksPlay.l0, if_pos (by omega), if_pos (by omega), List.length_map, if_pos (by omega), hr, hx, if_pos (show x.f0 = (cv x).f0 from rfl), if_pos (show x.f1 = (cv x).f1 from rfl), if_pos (show x.f2 = (cv x).f2 from rfl), Int.toNat_natCast, hset, upN (by omega)]
theorem MarksPlay : regletlaw16_MarksPlay.PureX := by
  intro n l q hn hl hq
  apply Ev.rounds
  unfold regletlaw16_MarksPlay.f
  refine Ev.bind awake_ev (Ev.congr (fun k => if_pos rfl) ?_)
  unfold regletlaw16_size.f
  by_cases c0' : ¬ n ≥ 0
  · refine Ev.congr (fun k => by rw [if_neg c0', Option.bind_some, if_neg (by simp)]) ?_
    unfold marks_New.f
    exact Ev.congr (fun k => by rw [if_pos (by omega)]; rfl) (Ev.now true)
  have c0 : n ≥ 0 := Decidable.not_not.1 c0'
  by_cases c1' : ¬ n ≤ 65536
  · refine Ev.congr (fun k => by rw [if_pos c0, decide_eq_false c1', Option.bind_some, if_neg (by simp)]) ?_
    unfold marks_New.f
    exact Ev.congr (fun k => by rw [if_neg (by omega), if_pos (by omega)]; rfl) (Ev.now true)
  have c1 : n ≤ 65536 := Decidable.not_not.1 c1'
  refine Ev.congr (fun k => by rw [if_pos c0, decide_eq_true c1, Option.bind_some, if_pos rfl]) ?_
  refine Ev.bind (played_ev c0 c1 l) ?_
  have hi := playS_inv c0 c1 l
  generalize playS n l = s at hi ⊢
  unfold marks_Set_Size.f marks_Set_Count.f
  refine Ev.congr (fun k => by simp only [Option.bind_some, List.length_map, if_true]; rfl) ?_
  refine Ev.bind (get_ev hi q) (Ev.bind (rget_ev hi q) ?_)
  refine Ev.congr (fun k => by simp only [if_true]; rfl) ?_
  refine Ev.bind (all_ev hi (by omega)) (Ev.bind (rall_ev hi _ _) ?_)
  refine Ev.congr (fun k => by rw [List.length_map, if_pos rfl]) ?_
  exact law_l0 hi (by omega) rfl (markSort s.2.2) 0 [] rfl rfl (Nat.zero_le _)
end Go.Proofs.Ythfijdffkbkifaa.Pure
