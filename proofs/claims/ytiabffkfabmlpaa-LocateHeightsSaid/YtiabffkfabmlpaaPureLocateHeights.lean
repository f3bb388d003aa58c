/-
The line of a page at any height is the last one that begins there or above: the pure statement of the law LocateHeights. No condition.
-/
import Derived.Test.YtiabffkfabmlpaaOpensLocateHeights
namespace Go.Proofs.Ytiabffkfabmlpaa.Pure
open Go.RowKit Go.Proofs.Ytiabffkfabmlpaa.PLocateHeights Go.Proofs.YtiabffkfabmlpaaW.PrintWords Go.Proofs.YtiabffkfabmlpaaW.PrintLast

theorem awake_ev : Ev (fun k => regletlaw15_awake.f k) true :=
  Ev.of (fun k => regletlaw15_awake.mono k) (k := 40) (by decide +kernel)
theorem w64h {x : Int} (h0 : -9223372036854775808 ≤ x) (h1 : x ≤ 9223372036854775807) : wrap64 x = x := by unfold wrap64; omega
def hs_ (y : Int) : List S28 → Int → Int → Int
  | [], _, b => b
  | x :: t, i, b => hs_ y t (i + 1) (if x.f6 ≤ y then i else b)
theorem drop28 {l t : List S28} {i : Nat} {n : S28} (h : l.drop i = n :: t) : i < l.length ∧ rd_T28 l (i : Int) = n ∧ l.drop (i + 1) = t := by
  have h1 : i < l.length := by
    rcases Nat.lt_or_ge i l.length with h1 | h1
    · exact h1
    · rw [List.drop_eq_nil_of_le h1] at h; cases h
  rw [List.drop_eq_getElem_cons h1] at h
  injection h with h2 h3
  refine ⟨h1, ?_, h3⟩
  unfold rd_T28
  rw [Int.toNat_natCast, List.getD_eq_getElem?_getD, List.getElem?_eq_getElem h1, h2]; rfl
theorem dropE {α : Type} {l : List α} {i : Nat} (hi : i ≤ l.length) (h : l.drop i = []) : i = l.length := by
  have := congrArg List.length h
  rw [List.length_drop, List.length_nil] at this
  omega
theorem up64 {i : Nat} (h : i ≤ 1000) : wrap64 ((i : Int) + 1) = ((i + 1 : Nat) : Int) := by rw [w64h (by omega) (by omega)]; omega
theorem line_l0 {y : Int} {l : List S28} (hl : l.length ≤ 200) : ∀ (t : List S28) (i : Nat) (b : Int), i ≤ l.length → l.drop i = t → Ev (fun k => locate_LineAt.l0 k y b l (l.length : Int) (i : Int)) (hs_ y t i b, true)
  | [], i, b, hi, hd => by
    have := dropE hi hd
    exact Ev.step (fun k => by rw [locate_LineAt.l0, if_neg (by omega)]; rfl) (Ev.now _)
  | x :: t, i, b, hi, hd => by
    obtain ⟨h1, h2, h3⟩ := drop28 hd
    have hw := up64 (show i ≤ 1000 by omega)
    have ih := line_l0 (y := y) hl t (i + 1) (if x.f6 ≤ y then (i : Int) else b) (by omega) h3
    unfold hs_
    by_cases c : x.f6 ≤ y
    · rw [if_pos c] at ih ⊢
      exact Ev.step (fun k => by rw [locate_LineAt.l0, if_pos (by omega), if_pos (by omega), if_pos (by omega), h2, if_pos c, hw]) ih
    · rw [if_neg c] at ih ⊢
      exact Ev.step (fun k => by rw [locate_LineAt.l0, if_pos (by omega), if_pos (by omega), if_pos (by omega), h2, if_neg c, hw]) ih
theorem loop_ev {y : Int} {l : List S28} (hl : l.length ≤ 200) : ∀ (t : List S28) (i : Nat) (b : Int), i ≤ l.length → l.drop i = t → hs_ y t i b = hs_ y l 0 0 → Ev (fun k => regletlaw15_LocateHeights.l0 k y b (i : Int) l) true
  | [], i, b, hi, hd, he => by
    have := dropE hi hd
    refine Ev.step (fun k => by rw [regletlaw15_LocateHeights.l0, if_neg (by omega)]) ?_
    by_cases c : (l.length : Int) = 0
    · have hn : l = [] := List.eq_nil_of_length_eq_zero (by omega)
      subst hn
      unfold locate_LineAt.f
      simp only [if_pos c, Option.bind_some]
      have : b = 0 := he
      subst this
      exact Ev.now _
    · have p : Ev (fun k => locate_LineAt.f k l y) (hs_ y l 0 0, true) := by
        unfold locate_LineAt.f
        simp only [if_neg c]
        exact line_l0 hl l 0 0 (Nat.zero_le _) rfl
      refine Ev.bind p ?_
      have hb : b = hs_ y l 0 0 := he
      have hd2 : decide ((l.length : Int) > 0) = true := decide_eq_true (by omega)
      simp only [hb, if_true, hd2]
      exact Ev.now _
  | x :: t, i, b, hi, hd, he => by
    obtain ⟨h1, h2, h3⟩ := drop28 hd
    have hw := up64 (show i ≤ 1000 by omega)
    have ih := loop_ev (y := y) hl t (i + 1) (if x.f6 ≤ y then (i : Int) else b) (by omega) h3 he
    by_cases c : x.f6 ≤ y
    · rw [if_pos c] at ih
      exact Ev.step (fun k => by rw [regletlaw15_LocateHeights.l0, if_pos (by omega), if_pos (by omega), h2, if_pos c, hw]) ih
    · rw [if_neg c] at ih
      exact Ev.step (fun k => by rw [regletlaw15_LocateHeights.l0, if_pos (by omega), if_pos (by omega), h2, if_neg c, hw]) ih
theorem LocateHeights : regletlaw15_LocateHeights.PureX := by
  intro x y hx hy
  apply Ev.rounds
  unfold regletlaw15_LocateHeights.f
  refine Ev.bind awake_ev ?_
  simp only [if_true]
  by_cases c : (x.f0.length : Int) > 200
  · simp only [if_pos c]; exact Ev.now _
  simp only [if_neg c]
  exact loop_ev (by omega) x.f0 0 0 (Nat.zero_le _) rfl rfl
end Go.Proofs.Ytiabffkfabmlpaa.Pure
