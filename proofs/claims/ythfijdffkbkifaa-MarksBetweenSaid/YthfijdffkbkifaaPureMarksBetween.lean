/-
The marks from any place up to any other one are told, by their places: the pure statement of the law MarksBetween. No condition.
-/
import Derived.Test.YthfijdffkbkifaaOpensMarksBetween
import Derived.Test.YthfijdffkbkifaaMAllMarksBetween
namespace Go.Proofs.Ythfijdffkbkifaa.Pure
set_option linter.unusedVariables false
set_option linter.unusedSimpArgs false
open Go.RowKit hiding wrap64
open Go.Proofs.Ythfijdffkbkifaa.PMarksBetween
open Go.Proofs.YthfijdffkbkifaaW.PrintWords hiding mx mn

/-- Between two places. -/
def inside (a b : Int) (x : S46) : Bool := decide (x.f1 ≥ a ∧ x.f1 ≤ b)
theorem between_l0 {a b : Int} {S : List S46} (hl : S.length ≤ 1024) : ∀ (t : List S46) (i : Nat) (o : List Int), S.drop i = t → o.length ≤ i → Ev (fun k => marks_Set_Between.l0 k a b o S (S.length : Int) (i : Int)) (o ++ (t.filter (inside a b)).map S46.f0)
  | [], i, o, h, ho => by
    have := dropN h
    exact Ev.step (fun k => by rw [marks_Set_Between.l0, if_neg (by omega)]; simp) (Ev.now _)
  | x :: t, i, o, h, ho => by
    obtain ⟨h1, h2, h3⟩ := d46 h
    by_cases c1 : x.f1 ≥ a
    · by_cases c2 : x.f1 ≤ b
      · have ih := between_l0 hl t (i + 1) (o ++ [x.f0]) h3 (by simp; omega) (a := a) (b := b)
        have e : o ++ ((x :: t).filter (inside a b)).map S46.f0 = o ++ [x.f0] ++ (t.filter (inside a b)).map S46.f0 := by
          rw [List.filter_cons, if_pos (by simp [inside, c1, c2])]; simp
        rw [e]
        exact Ev.step (fun k => by rw [marks_Set_Between.l0, if_pos (by omega), if_pos (by omega), if_pos (by omega), h2, if_pos c1, if_pos c2, if_pos (by omega), upN (by omega)]) ih
      · have ih := between_l0 hl t (i + 1) o h3 (by omega) (a := a) (b := b)
        rw [List.filter_cons, if_neg (by simp [inside, c2])]
        exact Ev.step (fun k => by rw [marks_Set_Between.l0, if_pos (by omega), if_pos (by omega), if_pos (by omega), h2, if_pos c1, if_neg c2, upN (by omega)]) ih
    · have ih := between_l0 hl t (i + 1) o h3 (by omega) (a := a) (b := b)
      rw [List.filter_cons, if_neg (by simp [inside, c1])]
      exact Ev.step (fun k => by rw [marks_Set_Between.l0, if_pos (by omega), if_pos (by omega), if_pos (by omega), h2, if_neg c1, upN (by omega)]) ih
theorem law_l0 {a b p q : Int} {L : List S46} {S : List S46} {got : List Int} (hl : S.length ≤ 1024) (hg : got.length ≤ 1024) : ∀ (t : List S46) (i j : Nat), S.drop i = t → got.drop j = (t.filter (inside a b)).map S46.f0 → j ≤ got.length → Ev (fun k => regletlaw16_MarksBetween.l0 k a b p q L got (S.map cv) (j : Int) (i : Int)) true
  | [], i, j, h, hd, hj => by
    have := dropN h
    have hd := dropN (show got.drop j = [] from hd)
    exact Ev.step (fun k => by rw [regletlaw16_MarksBetween.l0, List.length_map, if_neg (by omega), decide_eq_true (by omega)]) (Ev.now _)
  | x :: t, i, j, h, hd, hj => by
    obtain ⟨h1, _, h3⟩ := d46 h
    have hx := cvr h
    rw [List.filter_cons] at hd
    by_cases c1 : x.f1 < a
    · rw [if_neg (by simp [inside]; omega)] at hd
      exact Ev.step (fun k => by rw [regletlaw16_MarksBetween.l0, List.length_map, if_pos (by omega), if_pos (by omega), hx, if_pos (show (cv x).f1 < a from c1), upN (by omega)]) (law_l0 hl hg t (i + 1) j h3 hd hj)
    · by_cases c2 : x.f1 > b
      · rw [if_neg (by simp [inside]; omega)] at hd
        exact Ev.step (fun k => by rw [regletlaw16_MarksBetween.l0, List.length_map, if_pos (by omega), if_pos (by omega), hx, if_neg (show ¬ (cv x).f1 < a from c1), if_pos (show (cv x).f1 > b from c2), upN (by omega)]) (law_l0 hl hg t (i + 1) j h3 hd hj)
      · rw [if_pos (by simp [inside]; omega), List.map_cons] at hd
        obtain ⟨g1, g2, g3⟩ := dropI (0 : Int) hd
        have hr : rd got (j : Int) = x.f0 := by unfold rd; rw [Int.toNat_natCast]; exact g2
        exact Ev.step (fun k => by rw [regletlaw16_MarksBetween.l0, List.length_map, if_pos (by omega), if_pos (by omega), hx, if_neg (show ¬ (cv x).f1 < a from c1), if_neg (show ¬ (cv x).f1 > b from c2), if_neg (by omega), if_pos (by omega), hr, if_pos (show x.f0 = (cv x).f0 from rfl), upN (by omega), upN (by omega)]) (law_l0 hl hg t (i + 1) (j + 1) h3 g3 g1)
theorem MarksBetween : regletlaw16_MarksBetween.PureX := by
  intro n l a2 hn hl ha
  apply Ev.rounds
  unfold regletlaw16_MarksBetween.f
  refine Ev.bind awake_ev (Ev.congr (fun k => if_pos rfl) ?_)
  unfold regletlaw16_size.f
  by_cases c0' : ¬ n ≥ 0
  · exact Ev.congr (fun k => by rw [if_neg c0']; rfl) (Ev.now true)
  have c0 : n ≥ 0 := Decidable.not_not.1 c0'
  by_cases c1' : ¬ n ≤ 65536
  · exact Ev.congr (fun k => by rw [if_pos c0, decide_eq_false c1']; rfl) (Ev.now true)
  have c1 : n ≤ 65536 := Decidable.not_not.1 c1'
  refine Ev.congr (fun k => by rw [if_pos c0, decide_eq_true c1, Option.bind_some, if_pos rfl]) ?_
  refine Ev.bind (played_ev c0 c1 l) ?_
  have hi := playS_inv c0 c1 l
  generalize playS n l = s at hi ⊢
  have h4 := hi.len
  have hS : (markSort s.2.2).length ≤ 1024 := by rw [sort_len]; exact h4
  have hb := between_l0 (a := a2.f0) (b := a2.f1) hS (markSort s.2.2) 0 [] rfl (Nat.le_refl _)
  have hB : Ev (fun k => marks_Set_Between.f k s.1 s.2.1 s.2.2 a2.f0 a2.f1) (((markSort s.2.2).filter (inside a2.f0 a2.f1)).map S46.f0) := by
    unfold marks_Set_Between.f
    exact Ev.bind (all_ev hi (by omega)) hb
  refine Ev.bind hB (Ev.bind (rall_ev hi _ _) ?_)
  refine law_l0 hS ?_ (markSort s.2.2) 0 0 rfl rfl (Nat.zero_le _)
  rw [List.length_map]
  exact Nat.le_trans (List.length_filter_le _ _) hS
end Go.Proofs.Ythfijdffkbkifaa.Pure
