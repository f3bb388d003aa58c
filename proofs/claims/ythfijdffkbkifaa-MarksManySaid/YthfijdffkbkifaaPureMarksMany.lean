/-
A text has so many marks and no more; their numbers are given out once: the pure statement of the law MarksMany. No condition.
-/
import Derived.Test.YthfijdffkbkifaaOpensMarksMany
import Derived.Test.YthfijdffkbkifaaMSetMarksMany
namespace Go.Proofs.Ythfijdffkbkifaa.Pure
set_option linter.unusedVariables false
set_option linter.unusedSimpArgs false
open Go.RowKit hiding wrap64
open Go.Proofs.Ythfijdffkbkifaa.PMarksMany
open Go.Proofs.YthfijdffkbkifaaW.PrintWords hiding mx mn

theorem fi_none {l : List S46} {q : Int} : fi l q = none ↔ ∀ x ∈ l, x.f0 ≠ q := by
  unfold fi; rw [List.findIdx?_eq_none_iff]; simp
theorem fi_some {l : List S46} {q : Int} {j : Nat} (h : fi l q = some j) : ∃ hj : j < l.length, l[j].f0 = q := by
  unfold fi at h
  obtain ⟨h1, h2, _⟩ := List.findIdx?_eq_some_iff_getElem.1 h
  exact ⟨h1, by simpa using h2⟩
/-- So many marks were put. -/
structure Full (i : Nat) (s : Int × Int × List S46) : Prop where
  inv : Inv i s
  sz : s.1 = 9
  nx : s.2.1 = (s.2.2.length : Int)
  len : s.2.2.length = min i 1024
  num : ∀ (j : Nat) (hj : j < s.2.2.length), (s.2.2[j]).f0 = (j : Int) + 1
theorem many_end {n : Nat} {d : Int} (hn : n ≤ 1100) {s : Int × Int × List S46} (h : Full n s) : Ev (fun k => (marks_Set_Count.f s.1 s.2.1 s.2.2).bind fun t72 => (if t72 = (min (n : Int) 1024) then ((marks_Set_Drop.f k s.1 s.2.1 s.2.2 d).bind fun t77 => (if t77.1 = 0 then ((marks_Set_Put.f t77.2.1 t77.2.2.1 t77.2.2.2 0 true).bind fun t88 => (if t88.2.1 = 0 then (if t88.1 = (wrap64 ((min (n : Int) 1024) + 1)) then ((marks_Set_Count.f t88.2.2.1 t88.2.2.2.1 t88.2.2.2.2).bind fun t101 => (if t101 = (min (n : Int) 1024) then ((marks_Set_Drop.f k t88.2.2.1 t88.2.2.2.1 t88.2.2.2.2 d).bind fun t108 => (some (decide (t108.1 = 160)))) else (some false))) else (some false)) else (some false))) else (if d < 1 then (some true) else (some (decide (d > (min (n : Int) 1024))))))) else (some false))) true := by
  have hl := h.len
  have hm : ((s.2.2.length : Nat) : Int) = min (n : Int) 1024 := by omega
  unfold marks_Set_Count.f
  refine Ev.congr (fun k => by rw [Option.bind_some, if_pos hm]) (Ev.bind (drp_ev h.inv d) ?_)
  cases hf : fi s.2.2 d with
  | none =>
    have e : drpS s d = (160, s) := by unfold drpS; rw [hf]
    rw [e]
    refine Ev.congr (fun k => if_neg (by simp)) ?_
    by_cases c : d < 1
    · exact Ev.congr (fun k => if_pos c) (Ev.now _)
    · have hd : d > min (n : Int) 1024 := by
        rcases Int.lt_or_le (min (n : Int) 1024) d with g | g
        · exact g
        · exfalso
          have hj : (d - 1).toNat < s.2.2.length := by omega
          have h1 := h.num _ hj
          exact fi_none.1 hf _ (List.getElem_mem hj) (by omega)
      exact Ev.congr (fun k => by rw [if_neg c, decide_eq_true hd]) (Ev.now _)
  | some j =>
    obtain ⟨hj, hq⟩ := fi_some hf
    have e : drpS s d = (0, s.1, s.2.1, s.2.2.take j ++ s.2.2.drop (j + 1)) := by unfold drpS; rw [hf]
    have hi := inv_drp h.inv d
    rw [e] at hi ⊢
    have hlen : (s.2.2.take j ++ s.2.2.drop (j + 1)).length = s.2.2.length - 1 := by simp; omega
    refine Ev.congr (fun k => by rw [if_pos rfl, put_eq hi (by omega), Option.bind_some]) ?_
    have ep : putS (s.1, s.2.1, s.2.2.take j ++ s.2.2.drop (j + 1)) 0 true = (s.2.1 + 1, 0, s.1, s.2.1 + 1, (s.2.2.take j ++ s.2.2.drop (j + 1)) ++ [⟨s.2.1 + 1, 0, true⟩]) := by
      unfold putS
      have h9 := h.sz
      rw [if_neg (show ¬ ((0 : Int) < 0 ∨ (0 : Int) > s.1) by omega), if_neg (by show ¬ (s.2.2.take j ++ s.2.2.drop (j + 1)).length ≥ 1024; omega)]
    have hi2 := inv_put hi 0 true
    rw [ep] at hi2 ⊢
    have hnx := h.nx
    refine Ev.congr (fun k => by
      rw [if_pos rfl, if_pos (show s.2.1 + 1 = wrap64 (min (n : Int) 1024 + 1) by rw [w64 (by omega) (by omega)]; omega), Option.bind_some, if_pos (show ((((s.2.2.take j ++ s.2.2.drop (j + 1)) ++ [(⟨s.2.1 + 1, 0, true⟩ : S46)]).length : Nat) : Int) = min (n : Int) 1024 by rw [List.length_append, hlen, List.length_singleton]; omega)]) (Ev.bind (drp_ev hi2 d) ?_)
    have hnone : fi ((s.2.2.take j ++ s.2.2.drop (j + 1)) ++ [(⟨s.2.1 + 1, 0, true⟩ : S46)]) d = none := by
      rw [fi_none]
      intro x hx
      rcases List.mem_append.1 hx with hx | hx
      · rcases List.mem_append.1 hx with hx | hx
        · obtain ⟨i, hi', rfl⟩ := List.getElem_of_mem hx
          have g1 : i < j := by rw [List.length_take] at hi'; omega
          rw [List.getElem_take, h.num i (by omega)]
          have := h.num j hj
          omega
        · obtain ⟨i, hi', rfl⟩ := List.getElem_of_mem hx
          rw [List.length_drop] at hi'
          rw [List.getElem_drop, h.num _ (by omega)]
          have := h.num j hj
          omega
      · rw [List.mem_singleton] at hx; subst hx
        have := h.num j hj
        show s.2.1 + 1 ≠ d
        omega
    have e2 : (drpS (s.1, s.2.1 + 1, (s.2.2.take j ++ s.2.2.drop (j + 1)) ++ [(⟨s.2.1 + 1, 0, true⟩ : S46)]) d).1 = 160 := by unfold drpS; rw [hnone]
    exact Ev.congr (fun k => by rw [e2]; rfl) (Ev.now true)
theorem many_l0 {n : Nat} {d : Int} (hn : n ≤ 1100) : ∀ (g i : Nat) (s : Int × Int × List S46), i + g = n → Full i s → Ev (fun k => regletlaw16_MarksMany.l0 k (n : Int) d (i : Int) s.1 s.2.1 s.2.2) true
  | 0, i, s, hg, h => by
    have : i = n := by omega
    subst this
    exact Ev.step (fun k => by rw [regletlaw16_MarksMany.l0, if_neg (by omega)]) (many_end hn h)
  | g + 1, i, s, hg, h => by
    have hl := h.len
    have hnx := h.nx
    have h9 := h.sz
    have ha : 0 ≤ ((i : Int)).tmod 10 ∧ ((i : Int)).tmod 10 ≤ 9 := by
      have := Int.tmod_eq_emod_of_nonneg (a := (i : Int)) (b := 10) (by omega)
      omega
    have hput : marks_Set_Put.f s.1 s.2.1 s.2.2 ((i : Int).tmod 10) (decide ((i : Int).tmod 2 = 0)) = some (putS s ((i : Int).tmod 10) (decide ((i : Int).tmod 2 = 0))) := put_eq h.inv (by omega) _ _
    have hinv := inv_put h.inv ((i : Int).tmod 10) (decide ((i : Int).tmod 2 = 0))
    by_cases c : i < 1024
    · have ep : putS s ((i : Int).tmod 10) (decide ((i : Int).tmod 2 = 0)) = (s.2.1 + 1, 0, s.1, s.2.1 + 1, s.2.2 ++ [⟨s.2.1 + 1, (i : Int).tmod 10, decide ((i : Int).tmod 2 = 0)⟩]) := by
        unfold putS
        rw [if_neg (by omega), if_neg (by omega)]
      rw [ep] at hinv hput
      have hF : Full (i + 1) (s.1, s.2.1 + 1, s.2.2 ++ [(⟨s.2.1 + 1, (i : Int).tmod 10, decide ((i : Int).tmod 2 = 0)⟩ : S46)]) := by
        refine ⟨hinv, h9, ?_, ?_, fun j hj => ?_⟩
        · show s.2.1 + 1 = (((s.2.2 ++ [_]).length : Nat) : Int); rw [List.length_append, List.length_singleton]; omega
        · show (s.2.2 ++ [_]).length = _; rw [List.length_append, List.length_singleton]; omega
        · show ((s.2.2 ++ [_])[j]).f0 = _
          rw [List.getElem_append]
          split
          · exact h.num j _
          · rename_i hj2
            have hj' : j < (s.2.2 ++ [(⟨s.2.1 + 1, (i : Int).tmod 10, decide ((i : Int).tmod 2 = 0)⟩ : S46)]).length := hj
            rw [List.length_append, List.length_singleton] at hj'
            simp only [List.getElem_singleton]
            omega
      refine Ev.step (fun k => ?_) (many_l0 (d := d) hn g (i + 1) _ (by omega) hF)
      rw [regletlaw16_MarksMany.l0, if_pos (by omega), hput, Option.bind_some, if_pos (by omega), if_pos rfl, if_pos (show s.2.1 + 1 = wrap64 ((i : Int) + 1) by rw [upN (by omega)]; omega), if_neg (by omega), upN (by omega)]
    · have ep : putS s ((i : Int).tmod 10) (decide ((i : Int).tmod 2 = 0)) = (0, 2, s) := by
        unfold putS
        rw [if_neg (by omega), if_pos (by omega)]
      rw [ep] at hput
      have hF : Full (i + 1) s := ⟨h.inv.mono (by omega), h9, hnx, by omega, h.num⟩
      refine Ev.step (fun k => ?_) (many_l0 (d := d) hn g (i + 1) s (by omega) hF)
      rw [regletlaw16_MarksMany.l0, if_pos (by omega), hput, Option.bind_some, if_neg (by omega), if_pos (by omega), if_pos rfl, if_pos rfl, upN (by omega)]
theorem MarksMany : regletlaw16_MarksMany.PureX := by
  intro n d hn hd
  apply Ev.rounds
  unfold regletlaw16_MarksMany.f
  refine Ev.bind awake_ev (Ev.congr (fun k => if_pos rfl) ?_)
  by_cases c1 : n < 0
  · exact Ev.congr (fun k => if_pos c1) (Ev.now _)
  by_cases c2 : n > 1100
  · exact Ev.congr (fun k => by rw [if_neg c1, if_pos c2]) (Ev.now _)
  obtain ⟨m, rfl⟩ := Int.eq_ofNat_of_zero_le (show 0 ≤ n by omega)
  refine Ev.congr (fun k => by rw [if_neg c1, if_neg c2, new_eq (n := 9) (by omega) (by omega), Option.bind_some]) ?_
  refine Ev.congr (fun k => if_pos rfl) ?_
  exact many_l0 (by omega) m 0 (9, 0, []) (by omega) ⟨inv0 (by omega) (by omega), rfl, rfl, rfl, fun j hj => by simp at hj⟩
end Go.Proofs.Ythfijdffkbkifaa.Pure
