/-
What is inserted and deleted again leaves every mark where it was: the pure statement of the law MarksBack. No condition.
-/
import Derived.Test.YthfijdffkbkifaaOpensMarksBack
import Derived.Test.YthfijdffkbkifaaMSetMarksBack
namespace Go.Proofs.Ythfijdffkbkifaa.Pure
set_option linter.unusedVariables false
set_option linter.unusedSimpArgs false
open Go.RowKit hiding wrap64
open Go.Proofs.Ythfijdffkbkifaa.PMarksBack
open Go.Proofs.YthfijdffkbkifaaW.PrintWords hiding mx mn

theorem inv_ok {N : Nat} {s : Int × Int × List S46} (h : Inv N s) (hN : N < 1000000) : marksOk s.2.2 := by
  have h1 := h.s1
  have h3 := h.n1
  have h4 := h.len
  exact ⟨by omega, fun x hx => by have a := h.num x hx; have b := h.pos x hx; omega, h.one⟩
theorem all_eq {N : Nat} {s : Int × Int × List S46} (h : Inv N s) (hN : N < 1000000) : marks_Set_All.f s.1 s.2.1 s.2.2 = some (markSort s.2.2) := by
  have h4 := h.len
  unfold marks_Set_All.f slices_Clone.f
  rw [if_pos (by omega), Option.bind_some, if_pos (inv_ok h hN)]
theorem all_ev {N : Nat} {s : Int × Int × List S46} (h : Inv N s) (hN : N < 1000000) : Ev (fun _ => marks_Set_All.f s.1 s.2.1 s.2.2) (markSort s.2.2) := by
  rw [all_eq h hN]; exact Ev.now _
theorem del_ins {a n : Int} (hn : 0 ≤ n) (x : S46) : delM a (a + n) (insM a n x) = x := by
  obtain ⟨i, p, b⟩ := x
  unfold delM insM
  simp only
  by_cases c : p > a ∨ p = a ∧ b = false
  · rw [if_pos c]
    simp only
    rw [if_pos (by omega)]
    congr 1; omega
  · rw [if_neg c]
    have hp : p ≤ a := by omega
    by_cases c2 : p ≥ a + n
    · rw [if_pos c2]; simp only; congr 1; omega
    · rw [if_neg c2, if_neg (by show ¬ p > a; omega)]
theorem back_l0 {S : List S46} (hS : S.length ≤ 1024) {b0 b1 : Int} {b2 : List S46} : ∀ (t : List S46) (i : Nat), S.drop i = t → Ev (fun k => regletlaw16_MarksBack.l0 k S S (i : Int) b0 b1 b2) true
  | [], i, h => by
    have := dropN h
    exact Ev.step (fun k => by rw [regletlaw16_MarksBack.l0, if_neg (by omega)]) (Ev.now _)
  | x :: t, i, h => by
    obtain ⟨h1, h2, h3⟩ := d46 h
    refine Ev.step (fun k => ?_) (back_l0 hS (b0 := b0) (b1 := b1) (b2 := b2) t (i + 1) h3)
    rw [regletlaw16_MarksBack.l0, if_pos (by omega), if_pos (by omega), if_pos (by omega), if_pos ⟨rfl, rfl, rfl⟩, upN (by omega)]
theorem MarksBack : regletlaw16_MarksBack.PureX := by
  intro n l o hn hl ho
  apply Ev.rounds
  unfold regletlaw16_MarksBack.f
  refine Ev.bind awake_ev (Ev.congr (fun k => if_pos rfl) ?_)
  unfold regletlaw16_size.f
  by_cases c0' : ¬ n ≥ 0
  · exact Ev.congr (fun k => by rw [if_neg c0']; rfl) (Ev.now true)
  have c0 : n ≥ 0 := Decidable.not_not.1 c0'
  by_cases c1' : ¬ n ≤ 65536
  · exact Ev.congr (fun k => by rw [if_pos c0, decide_eq_false c1']; rfl) (Ev.now true)
  have c1 : n ≤ 65536 := Decidable.not_not.1 c1'
  refine Ev.congr (fun k => by rw [if_pos c0, decide_eq_true c1, Option.bind_some, if_pos rfl]) ?_
  refine Ev.bind (played_ev c0 c1 l) ?_
  have hi := playS_inv c0 c1 l
  generalize playS n l = s at hi ⊢
  have h0 := hi.s0
  have h1 := hi.s1
  refine Ev.bind (all_ev hi (by omega)) (Ev.bind (ins_ev hi o.f1 o.f2) ?_)
  have hi2 := inv_ins hi o.f1 o.f2
  by_cases e' : ¬ (insS s o.f1 o.f2).1 = 0
  · exact Ev.congr (fun k => if_neg e') (Ev.now true)
  have e : (insS s o.f1 o.f2).1 = 0 := Decidable.not_not.1 e'
  refine Ev.congr (fun k => if_pos e) ?_
  have hins : ¬ (o.f1 < 0 ∨ o.f1 > s.1) ∧ ¬ o.f2 < 0 ∧ ¬ o.f2 > 65536 - s.1 ∧ insS s o.f1 o.f2 = (0, s.1 + o.f2, s.2.1, s.2.2.map (insM o.f1 o.f2)) := by
    unfold insS at e ⊢
    by_cases a1 : o.f1 < 0 ∨ o.f1 > s.1
    · rw [if_pos a1] at e; cases e
    rw [if_neg a1] at e ⊢
    by_cases a2 : o.f2 < 0
    · rw [if_pos a2] at e; cases e
    rw [if_neg a2] at e ⊢
    by_cases a3 : o.f2 > 65536 - s.1
    · rw [if_pos a3] at e; cases e
    rw [if_neg a3]
    exact ⟨a1, a2, a3, rfl⟩
  obtain ⟨a1, a2, a3, he⟩ := hins
  rw [he] at hi2 ⊢
  rw [w64 (x := o.f1 + o.f2) (by omega) (by omega)]
  have hd : delS (s.1 + o.f2, s.2.1, s.2.2.map (insM o.f1 o.f2)) o.f1 (o.f1 + o.f2) = (0, s) := by
    unfold delS
    rw [if_neg (show ¬ (o.f1 < 0 ∨ o.f1 + o.f2 > s.1 + o.f2 ∨ o.f1 > o.f1 + o.f2) by omega)]
    have e1 : s.1 + o.f2 - (o.f1 + o.f2 - o.f1) = s.1 := by omega
    have e2 : (s.2.2.map (insM o.f1 o.f2)).map (delM o.f1 (o.f1 + o.f2)) = s.2.2 := by
      rw [List.map_map]
      conv => rhs; rw [← List.map_id s.2.2]
      exact List.map_congr_left (fun x _ => del_ins (by omega) x)
    show ((0 : Int), s.1 + o.f2 - (o.f1 + o.f2 - o.f1), s.2.1, (s.2.2.map (insM o.f1 o.f2)).map (delM o.f1 (o.f1 + o.f2))) = (0, s)
    rw [e1, e2]
  refine Ev.bind (del_ev hi2 o.f1 (o.f1 + o.f2)) ?_
  rw [hd]
  refine Ev.congr (fun k => if_pos rfl) (Ev.bind (all_ev hi (by omega)) ?_)
  refine Ev.congr (fun k => if_pos rfl) ?_
  have hlen : (markSort s.2.2).length ≤ 1024 := by
    unfold markSort
    rw [List.length_mergeSort]; exact hi.len
  exact back_l0 hlen (markSort s.2.2) 0 rfl
end Go.Proofs.Ythfijdffkbkifaa.Pure
