import Derived.Test.YtiabffkfabmlpaaLinesLocateHits
/-! Our own text: how many bytes lie ahead of a line, the program's and the reference's. -/
namespace Go.Proofs.Ytiabffkfabmlpaa.PLocateHits
set_option linter.unusedVariables false
open Go.RowKit Go.Proofs.YtiabffkfabmlpaaW.PrintWords

theorem totL_take (l : List S28) (n : Nat) : totL (l.take n) ≤ totL l := by
  induction l generalizing n with
  | nil => simp [totL]
  | cons x t ih => cases n with
    | zero => simp [totL]
    | succ n => have := ih n; simp only [List.take_succ_cons, totL]; omega
theorem totP_take (l : List S24) (n : Nat) : totP (l.take n) ≤ totP l := by
  induction l generalizing n with
  | nil => simp [totP]
  | cons x t ih => cases n with
    | zero => simp [totP]
    | succ n => have := ih n; simp only [List.take_succ_cons, totP]; omega
theorem totP_app (a b : List S24) : totP (a ++ b) = totP a + totP b := by
  induction a with
  | nil => simp [totP]
  | cons x t ih => simp only [List.cons_append, totP, ih]; omega
/-! ### the program -/
theorem po_l1 {l : List S28} (hl : l.length ≤ 1000) : ∀ (t : List S28) (i a : Nat), l.drop i = t → a + totL t ≤ 1000000 →
    Ev (fun k => locate_Offset.l1 k (a : Int) l (l.length : Int) (i : Int)) (((a + totL t : Nat) : Int), true)
  | [], i, a, h, ha => by
    have := dropN h
    exact Ev.step (fun k => by rw [locate_Offset.l1, if_neg (by omega)]; rfl) (Ev.now _)
  | x :: t, i, a, h, ha => by
    obtain ⟨h1, h2, h3⟩ := d28 h
    simp only [totL] at ha ⊢
    have e : wrap64 ((a : Int) + (x.f0.size : Int)) = ((a + x.f0.size : Nat) : Int) := by rw [w64 (by omega) (by omega)]; omega
    have ih := po_l1 hl t (i + 1) (a + x.f0.size) h3 (by omega)
    rw [show a + (x.f0.size + totL t) = a + x.f0.size + totL t by omega]
    exact Ev.step (fun k => by rw [locate_Offset.l1, if_pos (by omega), if_pos (by omega), if_pos (by omega), h2, e, upN (by omega)]) ih
theorem po_l0 {L y : List S24} {p n : Int} {r : Int × Bool} (hy : y.length ≤ 1000) : ∀ (t : List S24) (i a : Nat), y.drop i = t → i ≤ y.length → (∀ x ∈ t, x.f0.length ≤ 60) → a + totP t ≤ 1000000 →
    Ev (fun k => locate_Offset.l0 k L p n ((a + totP t : Nat) : Int) y (y.length : Int) (y.length : Int)) r →
    Ev (fun k => locate_Offset.l0 k L p n (a : Int) y (y.length : Int) (i : Int)) r
  | [], i, a, h, hi, hn, ha, hc => by
    have := dropN h
    have e : i = y.length := by omega
    subst e
    exact hc
  | x :: t, i, a, h, hi, hn, ha, hc => by
    obtain ⟨h1, h2, h3⟩ := d24 h
    simp only [totP] at ha hc
    have e : wrap64 ((a : Int) + ((totL x.f0 : Nat) : Int)) = ((a + totL x.f0 : Nat) : Int) := by rw [w64 (by omega) (by omega)]; omega
    refine Ev.step (fun k => by rw [locate_Offset.l0, if_pos (by omega), if_pos (by omega), if_pos (by omega), h2]) ?_
    refine Ev.bind (ps_ev (by have := hn x List.mem_cons_self; omega) (by omega)) ?_
    simp only [e, upN (show i < 9223372036854775807 by omega)]
    refine po_l0 hy t (i + 1) (a + totL x.f0) h3 (by omega) (fun z hz => hn z (List.mem_cons_of_mem _ hz)) (by omega) ?_
    rw [show a + (totL x.f0 + totP t) = a + totL x.f0 + totP t by omega] at hc
    exact hc
def offN (L : List S24) (p n : Nat) : Nat := totP (L.take p) + totL ((rd_T24 L (p : Int)).f0.take n)
theorem off_le {L : List S24} (h : Few L) {p n : Nat} (hp : p < L.length) : totP (L.take p) + totL (rd_T24 L (p : Int)).f0 ≤ 12000 := by
  have h1 := few_tot h
  have hr : rd_T24 L (p : Int) = L[p] := by
    unfold rd_T24
    rw [Int.toNat_natCast, List.getD_eq_getElem?_getD, List.getElem?_eq_getElem hp]; rfl
  have h2 : totP L = totP (L.take p) + totP (L.drop p) := by rw [← totP_app, List.take_append_drop]
  rw [List.drop_eq_getElem_cons hp] at h2
  simp only [totP] at h2
  rw [hr]; omega
theorem poff_ev {L : List S24} (h : Few L) {p n : Nat} (hp : p < L.length) (hn : n < (rd_T24 L (p : Int)).f0.length) : Ev (fun k => locate_Offset.j0 k L (p : Int) (n : Int) false) (((offN L p n : Nat) : Int), true) := by
  have hle := off_le (n := n) h hp
  have hL := h.2.2
  have hx : (rd_T24 L (p : Int)).f0.length ≤ 60 := few_len h _ (by
    have hr : rd_T24 L (p : Int) = L[p] := by
      unfold rd_T24
      rw [Int.toNat_natCast, List.getD_eq_getElem?_getD, List.getElem?_eq_getElem hp]; rfl
    rw [hr]; exact List.getElem_mem hp)
  have ht := totL_take (rd_T24 L (p : Int)).f0 n
  have e1 : ((p : Int)).toNat = p := Int.toNat_natCast p
  have e2 : ((n : Int)).toNat = n := Int.toNat_natCast n
  refine Ev.step (fun k => by rw [locate_Offset.j0, if_neg (by decide), if_pos (by omega), if_pos (by omega), e1, Option.bind_some]) ?_
  refine po_l0 (y := L.take p) (by rw [List.length_take]; omega) (L.take p) 0 0 rfl (Nat.zero_le _) (fun x hx => few_len h x (List.mem_of_mem_take hx)) (by omega) ?_
  rw [Nat.zero_add]
  refine Ev.step (fun k => by rw [locate_Offset.l0, if_neg (by omega), if_pos (by omega), if_pos (by omega), if_pos (by omega), if_pos (by omega), e2, Option.bind_some]) ?_
  exact po_l1 (l := (rd_T24 L (p : Int)).f0.take n) (by rw [List.length_take]; omega) _ 0 _ rfl (by omega)

/-! ### the reference -/
theorem ro_l1 {L : List S24} {P N : Int} {q : Nat} {r : Int × Bool} {x : S24} (hL : L.length ≤ 20) (hq : q < L.length) (hx : rd_T24 L (q : Int) = x) (hn : x.f0.length ≤ 60) (hP : (q : Int) < P) : ∀ (t : List S28) (i a : Nat), x.f0.drop i = t → a + totL t ≤ 1000000 →
    Ev (fun k => regletref15_Offset.l0 k L P N ((a + totL t : Nat) : Int) ((q + 1 : Nat) : Int)) r → Ev (fun k => regletref15_Offset.l1 k L P N (a : Int) (q : Int) (i : Int)) r
  | [], i, a, h, ha, hc => by
    have := dropN h
    exact Ev.step (fun k => by rw [regletref15_Offset.l1, if_pos (by omega), if_pos (by omega), hx, if_neg (by omega), upN (show q < 9223372036854775807 by omega)]; rfl) hc
  | y :: t, i, a, h, ha, hc => by
    obtain ⟨h1, h2, h3⟩ := d28 h
    simp only [totL] at ha hc
    have e : wrap64 ((a : Int) + (y.f0.size : Int)) = ((a + y.f0.size : Nat) : Int) := by rw [w64 (by omega) (by omega)]; omega
    refine Ev.step (fun k => by rw [regletref15_Offset.l1, if_pos (by omega), if_pos (by omega), hx, if_pos (by omega), if_pos hP, if_pos (by omega), h2, e, upN (show i < 9223372036854775807 by omega)]) ?_
    refine ro_l1 hL hq hx hn hP t (i + 1) (a + y.f0.size) h3 (by omega) ?_
    rw [show a + (y.f0.size + totL t) = a + y.f0.size + totL t by omega] at hc
    exact hc
theorem ro_end {L : List S24} {p n : Nat} {x : S24} (hL : L.length ≤ 20) (hp : p < L.length) (hx : rd_T24 L (p : Int) = x) (hl : x.f0.length ≤ 60) (hn : n < x.f0.length) : ∀ (t : List S28) (d i a : Nat), x.f0.drop i = t → i + d = n → a + totL t ≤ 1000000 →
    Ev (fun k => regletref15_Offset.l1 k L (p : Int) (n : Int) (a : Int) (p : Int) (i : Int)) (((a + totL (t.take d) : Nat) : Int), true)
  | t, 0, i, a, ht, h, ha => by
    refine Ev.step (fun k => by rw [regletref15_Offset.l1, if_pos (by omega), if_pos (by omega), hx, if_pos (by omega), if_neg (by omega), if_neg (by omega), upN (show p < 9223372036854775807 by omega)]) ?_
    rw [List.take_zero, show totL [] = 0 from rfl]
    exact Ev.step (fun k => by rw [regletref15_Offset.l0, if_neg (by omega)]; rfl) (Ev.now _)
  | [], d + 1, i, a, ht, h, ha => by
    have := dropN ht
    omega
  | y :: t, d + 1, i, a, ht, h, ha => by
    obtain ⟨h1, h2, h3⟩ := d28 ht
    simp only [totL, List.take_succ_cons] at ha ⊢
    have e : wrap64 ((a : Int) + (y.f0.size : Int)) = ((a + y.f0.size : Nat) : Int) := by rw [w64 (by omega) (by omega)]; omega
    have ih := ro_end hL hp hx hl hn t d (i + 1) (a + y.f0.size) h3 (by omega) (by omega)
    rw [show a + (y.f0.size + totL (t.take d)) = a + y.f0.size + totL (t.take d) by omega]
    exact Ev.step (fun k => by rw [regletref15_Offset.l1, if_pos (by omega), if_pos (by omega), hx, if_pos (by omega), if_neg (by omega), if_pos (by omega), if_pos (by omega), h2, e, upN (show i < 9223372036854775807 by omega)]) ih
theorem ro_l0 {L : List S24} {p n : Nat} (h : Few L) (hp : p < L.length) (hn : n < (rd_T24 L (p : Int)).f0.length) : ∀ (d q a : Nat), q + d = p → a = totP (L.take q) →
    Ev (fun k => regletref15_Offset.l0 k L (p : Int) (n : Int) (a : Int) (q : Int)) (((offN L p n : Nat) : Int), true)
  | d, q, a, hq, ha => by
    have hle := few_tot h
    have hqL : q < L.length := by omega
    have hr : rd_T24 L (q : Int) = L[q] := by
      unfold rd_T24
      rw [Int.toNat_natCast, List.getD_eq_getElem?_getD, List.getElem?_eq_getElem hqL]; rfl
    have hl := few_len h _ (List.getElem_mem hqL)
    have h2 : totP (L.take (q + 1)) = totP (L.take q) + totL L[q].f0 := by
      rw [List.take_succ_eq_append_getElem hqL, totP_app]; simp only [totP]; omega
    have h3 := totP_take L (q + 1)
    refine Ev.step (fun k => by rw [regletref15_Offset.l0, if_pos (by omega)]) ?_
    match d, hq with
    | 0, hq =>
      have e : q = p := by omega
      subst e
      have := ro_end h.2.2 hqL rfl (by rw [hr]; exact hl) hn (rd_T24 L (q : Int)).f0 n 0 a rfl (by omega) (by rw [hr]; omega)
      unfold offN
      rw [← ha]
      exact this
    | d + 1, hq =>
      refine ro_l1 h.2.2 hqL hr hl (by omega) L[q].f0 0 a rfl (by omega) ?_
      exact ro_l0 h hp hn d (q + 1) _ (by omega) (by rw [h2, ha])
theorem off_ev {L : List S24} (h : Few L) (p n : Int) : ∃ r : Int × Bool, Ev (fun k => locate_Offset.f k L p n) r ∧ Ev (fun k => regletref15_Offset.f k L p n) r := by
  have s1 : Ev (fun k => locate_Offset.j0 k L p n true) (0, false) := Ev.step (fun k => by rw [locate_Offset.j0, if_pos rfl]) (Ev.now _)
  have s2 : Ev (fun k => regletref15_Offset.j0 k L p n true) (0, false) := Ev.step (fun k => by rw [regletref15_Offset.j0, if_pos rfl]) (Ev.now _)
  unfold locate_Offset.f regletref15_Offset.f
  by_cases c1 : p < 0
  · simp only [if_pos c1]; exact ⟨_, s1, s2⟩
  by_cases c2 : p ≥ (L.length : Int)
  · simp only [if_neg c1, if_pos c2]; exact ⟨_, s1, s2⟩
  by_cases c3 : n < 0
  · simp only [if_neg c1, if_neg c2, if_pos c3]; exact ⟨_, s1, s2⟩
  simp only [if_neg c1, if_neg c2, if_neg c3, if_pos (show 0 ≤ p by omega), if_pos (show p < (L.length : Int) by omega)]
  by_cases c4 : n ≥ (((rd_T24 L p).f0).length : Int)
  · rw [decide_eq_true c4]; exact ⟨_, s1, s2⟩
  · rw [decide_eq_false c4]
    obtain ⟨P, rfl⟩ : ∃ P : Nat, p = P := ⟨p.toNat, by omega⟩
    obtain ⟨M, rfl⟩ : ∃ M : Nat, n = M := ⟨n.toNat, by omega⟩
    refine ⟨_, poff_ev h (by omega) (by omega), ?_⟩
    refine Ev.step (fun k => by rw [regletref15_Offset.j0, if_neg (by decide)]) ?_
    have := ro_l0 h (p := P) (n := M) (by omega) (by omega) P 0 0 (by omega) (by simp [totP])
    exact this
end Go.Proofs.Ytiabffkfabmlpaa.PLocateHits
