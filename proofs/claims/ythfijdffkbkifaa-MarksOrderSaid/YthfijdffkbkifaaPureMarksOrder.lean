/-
Edits leave every mark within the text, and never change the order of two: the pure statement of the law MarksOrder. No condition.
-/
import Derived.Test.YthfijdffkbkifaaOpensMarksOrder
import Derived.Test.YthfijdffkbkifaaMSetMarksOrder
namespace Go.Proofs.Ythfijdffkbkifaa.Pure
set_option linter.unusedVariables false
set_option linter.unusedSimpArgs false
open Go.RowKit hiding wrap64
open Go.Proofs.Ythfijdffkbkifaa.PMarksOrder
open Go.Proofs.YthfijdffkbkifaaW.PrintWords hiding mx mn

theorem inv_ok {N : Nat} {s : Int × Int × List S46} (h : Inv N s) (hN : N < 1000000) : marksOk s.2.2 := by
  have h1 := h.s1
  have h3 := h.n1
  have h4 := h.len
  exact ⟨by omega, fun x hx => by have a := h.num x hx; have b := h.pos x hx; omega, h.one⟩
theorem all_ev {N : Nat} {s : Int × Int × List S46} (h : Inv N s) (hN : N < 1000000) : Ev (fun _ => marks_Set_All.f s.1 s.2.1 s.2.2) (markSort s.2.2) := by
  have h4 := h.len
  unfold marks_Set_All.f slices_Clone.f
  rw [if_pos (by omega), Option.bind_some, if_pos (inv_ok h hN)]
  exact Ev.now _
theorem get_of {N : Nat} {s : Int × Int × List S46} (h : Inv N s) {x : S46} (hx : x ∈ s.2.2) : getS s x.f0 = (x.f0, x.f1, x.f2, 0) := by
  unfold getS
  cases hf : fi s.2.2 x.f0 with
  | none =>
    exfalso
    unfold fi at hf
    rw [List.findIdx?_eq_none_iff] at hf
    have := hf x hx
    simp at this
  | some j =>
    unfold fi at hf
    obtain ⟨hj, hq, _⟩ := List.findIdx?_eq_some_iff_getElem.1 hf
    have hq : s.2.2[j].f0 = x.f0 := by simpa using hq
    have he : s.2.2[j] = x := by
      obtain ⟨i, hi, rfl⟩ := List.getElem_of_mem hx
      have hone := List.pairwise_iff_getElem.1 h.one
      rcases Nat.lt_trichotomy i j with g | g | g
      · exact absurd hq.symm (hone i j hi hj g)
      · subst g; rfl
      · exact absurd hq (hone j i hj hi g)
    have hd : s.2.2.getD j z46 = s.2.2[j] := by rw [List.getD_eq_getElem?_getD, List.getElem?_eq_getElem hj]; rfl
    simp only [hd, he]
/-- A move of places that keeps their order. -/
structure Keeps (L : List S46) (g : S46 → S46) : Prop where
  id : ∀ x, (g x).f0 = x.f0
  le : ∀ x ∈ L, ∀ y ∈ L, x.f1 < y.f1 → (g x).f1 ≤ (g y).f1
theorem step_keeps {s : Int × Int × List S46} (o : S34) (h : o.f0 = 1 ∨ o.f0 = 2) : ∃ g, (stepS s o).2.2 = s.2.2.map g ∧ Keeps s.2.2 g := by
  have hid : ∃ g, s.2.2 = s.2.2.map g ∧ Keeps s.2.2 g := ⟨id, by simp, fun _ => rfl, fun x _ y _ h => Int.le_of_lt h⟩
  unfold stepS
  rw [if_neg (by omega)]
  by_cases c : o.f0 = 1
  · rw [if_pos c]
    unfold insS
    by_cases a1 : o.f1 < 0 ∨ o.f1 > s.1
    · rw [if_pos a1]; exact hid
    rw [if_neg a1]
    by_cases a2 : o.f2 < 0
    · rw [if_pos a2]; exact hid
    rw [if_neg a2]
    by_cases a3 : o.f2 > 65536 - s.1
    · rw [if_pos a3]; exact hid
    rw [if_neg a3]
    refine ⟨insM o.f1 o.f2, rfl, insM_f0 _ _, fun x _ y _ hxy => ?_⟩
    unfold insM
    split <;> split <;> (try simp only) <;> omega
  · rw [if_neg c, if_pos (by omega)]
    unfold delS
    by_cases a1 : o.f1 < 0 ∨ o.f2 > s.1 ∨ o.f1 > o.f2
    · rw [if_pos a1]; exact hid
    rw [if_neg a1]
    refine ⟨delM o.f1 o.f2, rfl, delM_f0 _ _, fun x _ y _ hxy => ?_⟩
    unfold delM
    (repeat' split) <;> (try simp only) <;> omega
theorem order_l {N : Nat} {s : Int × Int × List S46} {L S : List S46} {g : S46 → S46} (hs : Inv N s) (hL : s.2.2 = L.map g) (hg : Keeps L g) (hS : ∀ x ∈ S, x ∈ L) (hl : S.length ≤ 1024) : ∀ (t : List S46) (i : Nat), S.drop i = t → Ev (fun k => regletlaw16_MarksOrder.l0 k S (i : Int) s.1 s.2.1 s.2.2) true
  | [], i, h => by
    have := dropN h
    exact Ev.step (fun k => by rw [regletlaw16_MarksOrder.l0, if_neg (by omega)]) (Ev.now _)
  | x :: t, i, h => by
    obtain ⟨h1, h2, h3⟩ := d46 h
    have hx : x ∈ S := by rw [← h2, g46 h1]; exact List.getElem_mem h1
    have ih := order_l hs hL hg hS hl t (i + 1) h3
    have hin : ∀ y ∈ S, g y ∈ s.2.2 := fun y hy => by rw [hL]; exact List.mem_map.2 ⟨y, hS y hy, rfl⟩
    have got : ∀ y ∈ S, Ev (fun k => marks_Set_Get.f k s.1 s.2.1 s.2.2 y.f0) ((g y).f0, (g y).f1, (g y).f2, 0) := fun y hy => by
      have := get_ev hs (g y).f0
      rw [get_of hs (hin y hy), hg.id] at this
      rw [hg.id]; exact this
    have hp := hs.pos (g x) (hin x hx)
    have inner : ∀ (d j : Nat), j + d = i → Ev (fun k => regletlaw16_MarksOrder.l1 k S (i : Int) (g x).f0 (g x).f1 (g x).f2 (j : Int) s.1 s.2.1 s.2.2) true := by
      intro d
      induction d with
      | zero =>
        intro j hj
        refine Ev.step (fun k => ?_) ih
        rw [regletlaw16_MarksOrder.l1, if_neg (by omega), upN (by omega)]
      | succ d ihd =>
        intro j hj
        have hjS : j < S.length := by omega
        have hy : rd_T46 S (j : Int) ∈ S := by rw [g46 hjS]; exact List.getElem_mem hjS
        refine Ev.step (f := fun k => (marks_Set_Get.f k s.1 s.2.1 s.2.2 ((rd_T46 S (j : Int)).f0)).bind fun t94 => (if (rd_T46 S (j : Int)).f1 < x.f1 then (if t94.2.1 > (g x).f1 then (some false) else (regletlaw16_MarksOrder.l1 k S (i : Int) (g x).f0 (g x).f1 (g x).f2 (wrap64 ((j : Int) + 1)) s.1 s.2.1 s.2.2)) else (regletlaw16_MarksOrder.l1 k S (i : Int) (g x).f0 (g x).f1 (g x).f2 (wrap64 ((j : Int) + 1)) s.1 s.2.1 s.2.2))) (fun k => by rw [regletlaw16_MarksOrder.l1, if_pos (by omega), if_pos (by omega), if_pos (by omega), if_pos (by omega), h2]) ?_
        refine Ev.bind (got _ hy) ?_
        by_cases c : (rd_T46 S (j : Int)).f1 < x.f1
        · have := hg.le _ (hS _ hy) _ (hS _ hx) c
          exact Ev.congr (fun k => by rw [if_pos c, if_neg (by show ¬ (g (rd_T46 S (j : Int))).f1 > (g x).f1; omega), upN (by omega)]) (ihd (j + 1) (by omega))
        · exact Ev.congr (fun k => by rw [if_neg c, upN (by omega)]) (ihd (j + 1) (by omega))
    refine Ev.step (fun k => by rw [regletlaw16_MarksOrder.l0, if_pos (by omega), if_pos (by omega), h2]) (Ev.bind (got x hx) ?_)
    refine Ev.congr (fun k => by rw [if_pos rfl, if_neg (show ¬ (g x).f1 < 0 by omega)]) ?_
    unfold marks_Set_Size.f
    refine Ev.congr (fun k => by rw [Option.bind_some, if_neg (show ¬ (g x).f1 > s.1 by omega)]; rfl) (inner i 0 (by omega))
theorem MarksOrder : regletlaw16_MarksOrder.PureX := by
  intro n l o hn hl ho
  apply Ev.rounds
  unfold regletlaw16_MarksOrder.f
  refine Ev.bind awake_ev (Ev.congr (fun k => if_pos rfl) ?_)
  unfold regletlaw16_size.f
  by_cases c0' : ¬ n ≥ 0
  · exact Ev.congr (fun k => by rw [if_neg c0']; rfl) (Ev.now true)
  have c0 : n ≥ 0 := Decidable.not_not.1 c0'
  by_cases c1' : ¬ n ≤ 65536
  · exact Ev.congr (fun k => by rw [if_pos c0, decide_eq_false c1']; rfl) (Ev.now true)
  have c1 : n ≤ 65536 := Decidable.not_not.1 c1'
  refine Ev.congr (fun k => by rw [if_pos c0, decide_eq_true c1, Option.bind_some, if_pos rfl]) ?_
  have main : (o.f0 = 1 ∨ o.f0 = 2) → Ev (fun k => regletlaw16_MarksOrder.j0 k n l o.f0 o.f1 o.f2 o.f3) true := by
    intro hk
    refine Ev.step (fun k => by rw [regletlaw16_MarksOrder.j0]) (Ev.bind (played_ev c0 c1 l) ?_)
    have hi := playS_inv c0 c1 l
    generalize playS n l = s at hi ⊢
    refine Ev.bind (all_ev hi (by omega)) (Ev.bind (step_ev hi (by omega) o) ?_)
    refine Ev.congr (fun k => if_pos rfl) ?_
    obtain ⟨g, hg1, hg2⟩ := step_keeps (s := s) o hk
    refine order_l (inv_step hi o) hg1 hg2 (S := markSort s.2.2) (fun x hx => ?_) ?_ (markSort s.2.2) 0 rfl
    · unfold markSort at hx
      exact (List.mergeSort_perm _ _).mem_iff.1 hx
    · unfold markSort
      rw [List.length_mergeSort]; exact hi.len
  by_cases d1 : o.f0 = 1
  · exact Ev.congr (fun k => if_pos d1) (main (.inl d1))
  by_cases d2 : o.f0 = 2
  · exact Ev.congr (fun k => by rw [if_neg d1, if_pos d2]) (main (.inr d2))
  · exact Ev.congr (fun k => by rw [if_neg d1, if_neg d2]) (Ev.now true)
end Go.Proofs.Ythfijdffkbkifaa.Pure
