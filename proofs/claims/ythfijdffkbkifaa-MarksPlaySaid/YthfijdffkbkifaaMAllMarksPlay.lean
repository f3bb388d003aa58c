import Derived.Test.YthfijdffkbkifaaMSetMarksPlay
/-! Our own text: the document's list of marks, by places, is the sorted list. -/
namespace Go.Proofs.Ythfijdffkbkifaa.PMarksPlay
set_option linter.unusedVariables false
set_option linter.unusedSimpArgs false
open Go.RowKit hiding wrap64
open Go.Proofs.YthfijdffkbkifaaW.PrintWords hiding mx mn

theorem inv_ok {N : Nat} {s : Int × Int × List S46} (h : Inv N s) (hN : N < 1000000) : marksOk s.2.2 := by
  have h1 := h.s1
  have h3 := h.n1
  have h4 := h.len
  exact ⟨by omega, fun x hx => by have a := h.num x hx; have b := h.pos x hx; omega, h.one⟩
theorem all_ev {N : Nat} {s : Int × Int × List S46} (h : Inv N s) (hN : N < 1000000) : Ev (fun _ => marks_Set_All.f s.1 s.2.1 s.2.2) (markSort s.2.2) := by
  have h4 := h.len
  unfold marks_Set_All.f slices_Clone.f
  rw [if_pos (by omega), Option.bind_some, if_pos (inv_ok h hN)]
  exact Ev.now _
/-- Put where it belongs. -/
def insA (x : S46) : List S46 → List S46
  | [] => [x]
  | y :: t => if markLt y x then y :: insA x t else x :: y :: t
theorem insA_perm (x : S46) : ∀ l, (insA x l).Perm (x :: l)
  | [] => .refl _
  | y :: t => by
    unfold insA
    split
    · exact ((insA_perm x t).cons y).trans (.swap x y t)
    · exact .refl _
theorem insA_len (x : S46) (l : List S46) : (insA x l).length = l.length + 1 := (insA_perm x l).length_eq
theorem lt_total {a b : S46} (h : markLt a b = true) : markLt b a = false := by
  simp only [markLt, decide_eq_true_eq, decide_eq_false_iff_not] at h ⊢
  omega
theorem lt_trans' {a b c : S46} (h : markLt a b = false) (k : markLt b c = false) : markLt a c = false := by
  simp only [markLt, decide_eq_false_iff_not] at h k ⊢
  omega
theorem insA_sort (x : S46) : ∀ {l : List S46}, l.Pairwise (fun a b => markLt b a = false) → (insA x l).Pairwise (fun a b => markLt b a = false)
  | [], _ => by simp [insA]
  | y :: t, h => by
    obtain ⟨h1, h2⟩ := List.pairwise_cons.1 h
    unfold insA
    split
    · rename_i c
      refine List.pairwise_cons.2 ⟨fun z hz => ?_, insA_sort x h2⟩
      rcases List.mem_cons.1 ((insA_perm x t).mem_iff.1 hz) with e | e
      · rw [e]; exact lt_total c
      · exact h1 z e
    · rename_i c
      refine List.pairwise_cons.2 ⟨fun z hz => ?_, h⟩
      rcases List.mem_cons.1 hz with e | e
      · rw [e]; simpa using c
      · exact lt_trans' (h1 z e) (by simpa using c)
theorem fold_perm : ∀ (t A : List S46), (t.foldl (fun A x => insA x A) A).Perm (t ++ A)
  | [], A => .refl _
  | x :: t, A => ((fold_perm t (insA x A)).trans ((insA_perm x A).append_left t)).trans List.perm_middle
theorem fold_sort : ∀ {t A : List S46}, A.Pairwise (fun a b => markLt b a = false) → (t.foldl (fun A x => insA x A) A).Pairwise (fun a b => markLt b a = false)
  | [], _, h => h
  | x :: t, _, h => fold_sort (t := t) (insA_sort x h)
theorem fold_eq {l : List S46} (h : l.Pairwise (fun x y => x.f0 ≠ y.f0)) : l.foldl (fun A x => insA x A) [] = markSort l := by
  have h1 : (markSort l).Pairwise (fun a b => markLt b a = false) := by
    have := List.pairwise_mergeSort (le := fun x y => !markLt y x) (fun a b c h k => by
      simp only [Bool.not_eq_true'] at h k ⊢; exact lt_trans' k h) (fun a b => by
      cases c : markLt b a
      · simp
      · simp [lt_total c]) l
    exact this.imp (fun h => by simpa using h)
  have h2 : (l.foldl (fun A x => insA x A) []).Perm (markSort l) := by
    have := fold_perm l []
    rw [List.append_nil] at this
    exact this.trans (List.mergeSort_perm _ _).symm
  refine List.Perm.eq_of_pairwise (fun a b ha hb h1 h2 => ?_) (fold_sort (t := l) .nil) h1 h2
  have ha : a ∈ l := by
    have := (fold_perm l []).mem_iff.1 ha
    simpa using this
  have hb : b ∈ l := (List.mergeSort_perm _ _).mem_iff.1 hb
  have e : a.f0 = b.f0 := by
    simp only [markLt, decide_eq_false_iff_not] at h1 h2
    omega
  obtain ⟨i, hi, rfl⟩ := List.getElem_of_mem ha
  obtain ⟨j, hj, rfl⟩ := List.getElem_of_mem hb
  have hp := List.pairwise_iff_getElem.1 h
  rcases Nat.lt_trichotomy i j with g | g | g
  · exact absurd e (hp i j hi hj g)
  · subst g; rfl
  · exact absurd e.symm (hp j i hj hi g)

theorem rall_l1 {a b : Int} {l t : List S46} {i : Nat} {x : S46} {r : List S51} (hl : l.length ≤ 1024) (hi : l.drop i = x :: t) : ∀ (Q P : List S46), (P ++ Q).length ≤ 1024 →
    Ev (fun k => regletref16_All.l0 k ((P ++ insA x Q).map cv) ((i + 1 : Nat) : Int) a b (l.map cv)) r → Ev (fun k => regletref16_All.l1 k ((P ++ Q).map cv) (i : Int) (P.length : Int) a b (l.map cv)) r
  | [], P, hP, h => by
    have hx := cvr hi
    obtain ⟨h1, _, _⟩ := d46 hi
    simp only [List.append_nil] at hP
    refine Ev.step (fun k => ?_) h
    rw [regletref16_All.l1, List.append_nil, List.length_map, if_neg (by omega)]
    simp only [Option.bind_some, Int.toNat_natCast, List.length_map, hx, ← List.map_take, ← List.map_drop]
    rw [if_pos (by omega), if_pos (by omega), if_pos (by first | omega | (simp; done) | (simp; omega)), if_pos (by omega), if_pos (by omega), if_pos (by first | omega | (simp; done) | (simp; omega)), if_pos (by first | omega | (simp; done) | (simp; omega)), upN (by omega)]
    have e : ((P.take P.length).map cv ++ [(⟨(cv x).f0, (cv x).f1, (cv x).f2⟩ : S51)]) ++ (([] : List S51) ++ (P.drop P.length).map cv) = (P ++ insA x []).map cv := by simp [insA]
    rw [e]
  | y :: Q, P, hP, h => by
    have hx := cvr hi
    obtain ⟨h1, _, _⟩ := d46 hi
    have hy : rd_T51 ((P ++ y :: Q).map cv) (P.length : Int) = cv y := cvr (l := P ++ y :: Q) (i := P.length) (t := Q) (by simp)
    have hlen : (P ++ y :: Q).length = P.length + Q.length + 1 := by simp; omega
    have go : markLt y x = true → Ev (fun k => regletref16_All.l1 k ((P ++ y :: Q).map cv) (i : Int) ((P.length + 1 : Nat) : Int) a b (l.map cv)) r := by
      intro c
      have ih := rall_l1 hl hi Q (P ++ [y]) (by simpa using hP) (a := a) (b := b) (r := r) (by
        have e : P ++ insA x (y :: Q) = P ++ [y] ++ insA x Q := by rw [insA, if_pos c]; simp
        rw [← e]; exact h)
      have e1 : (P ++ [y]).length = P.length + 1 := by simp
      have e2 : P ++ [y] ++ Q = P ++ y :: Q := by simp
      rw [e1, e2] at ih
      exact ih
    have stay : markLt y x = false → ∀ k, (P ++ y :: Q).length ≤ 1024 → regletref16_All.l0 k ((((P ++ y :: Q).map cv).take P.length ++ [(⟨(cv x).f0, (cv x).f1, (cv x).f2⟩ : S51)]) ++ (([] : List S51) ++ ((P ++ y :: Q).map cv).drop P.length)) (wrap64 ((i : Int) + 1)) a b (l.map cv) = regletref16_All.l0 k ((P ++ insA x (y :: Q)).map cv) ((i + 1 : Nat) : Int) a b (l.map cv) := by
      intro c k _
      rw [upN (by omega)]
      have e : insA x (y :: Q) = x :: y :: Q := by rw [insA, if_neg (by rw [c]; simp)]
      rw [e]
      congr 1
      simp [← List.map_take, ← List.map_drop, cv]
    by_cases c1 : y.f1 < x.f1
    · refine Ev.step (fun k => ?_) (go (by simp [markLt, c1]))
      rw [regletref16_All.l1, List.length_map, if_pos (by omega), if_pos (by omega), if_pos (by omega), List.length_map, if_pos (by omega), hy, hx, if_pos (show (cv y).f1 < (cv x).f1 from c1), upN (by omega)]
    · by_cases c2 : y.f1 = x.f1
      · by_cases c3 : y.f0 < x.f0
        · refine Ev.step (fun k => ?_) (go (by simp [markLt, c2, c3]))
          rw [regletref16_All.l1, List.length_map, if_pos (by omega), if_pos (by omega), if_pos (by omega), List.length_map, if_pos (by omega), hy, hx, if_neg (show ¬ (cv y).f1 < (cv x).f1 from c1), if_pos (show (cv y).f1 = (cv x).f1 from c2), if_pos (show (cv y).f0 < (cv x).f0 from c3), upN (by omega)]
        · refine Ev.step (fun k => ?_) h
          rw [← stay (by simp [markLt, c2, c3]) k hP, regletref16_All.l1, List.length_map, if_pos (by omega), if_pos (by omega), if_pos (by omega), List.length_map, if_pos (by omega), hy, hx, if_neg (show ¬ (cv y).f1 < (cv x).f1 from c1), if_pos (show (cv y).f1 = (cv x).f1 from c2), if_neg (show ¬ (cv y).f0 < (cv x).f0 from c3)]
          simp only [Option.bind_some, Int.toNat_natCast]
          rw [if_pos (by omega), if_pos (by first | omega | (simp; done) | (simp; omega)), if_pos (by first | omega | (simp; done) | (simp; omega)), if_pos (by first | omega | (simp; done) | (simp; omega))]
      · refine Ev.step (fun k => ?_) h
        rw [← stay (by simp [markLt, c1, c2]) k hP, regletref16_All.l1, List.length_map, if_pos (by omega), if_pos (by omega), if_pos (by omega), List.length_map, if_pos (by omega), hy, hx, if_neg (show ¬ (cv y).f1 < (cv x).f1 from c1), if_neg (show ¬ (cv y).f1 = (cv x).f1 from c2)]
        simp only [Option.bind_some, Int.toNat_natCast]
        rw [if_pos (by omega), if_pos (by first | omega | (simp; done) | (simp; omega)), if_pos (by first | omega | (simp; done) | (simp; omega)), if_pos (by first | omega | (simp; done) | (simp; omega))]
theorem rall_l0 {a b : Int} {l : List S46} (hl : l.length ≤ 1024) : ∀ (t : List S46) (i : Nat) (A : List S46), l.drop i = t → A.length + t.length ≤ 1024 → Ev (fun k => regletref16_All.l0 k (A.map cv) (i : Int) a b (l.map cv)) ((t.foldl (fun A x => insA x A) A).map cv)
  | [], i, A, h, _ => by
    have := dropN h
    exact Ev.step (fun k => by rw [regletref16_All.l0, List.length_map, if_neg (by omega)]; rfl) (Ev.now _)
  | x :: t, i, A, h, hA => by
    obtain ⟨h1, _, h3⟩ := d46 h
    simp only [List.length_cons] at hA
    have ih := rall_l0 (a := a) (b := b) hl t (i + 1) (insA x A) h3 (by rw [insA_len]; omega)
    have h2 := rall_l1 (a := a) (b := b) hl h A [] (by rw [List.nil_append]; omega) ih
    exact Ev.step (fun k => by rw [regletref16_All.l0, List.length_map, if_pos (by omega)]; rfl) h2
theorem rall_ev {N : Nat} {s : Int × Int × List S46} (h : Inv N s) (a b : Int) : Ev (fun k => regletref16_All.f k a b (s.2.2.map cv)) ((markSort s.2.2).map cv) := by
  have h4 := h.len
  unfold regletref16_All.f
  have := rall_l0 (a := a) (b := b) h4 s.2.2 0 [] rfl (by simpa using h4)
  rw [fold_eq h.one] at this
  exact this
theorem sort_len (l : List S46) : (markSort l).length = l.length := by unfold markSort; exact List.length_mergeSort _
end Go.Proofs.Ythfijdffkbkifaa.PMarksPlay
