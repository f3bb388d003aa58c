import Derived.Test.YtiabffkfabmlpaaStpLocateBack
/-! Our own text: the line of a byte, and a line's first byte, as the program finds them (picked by wip/pick.py from the texts Lines, Offs), and that these are each other's. -/
namespace Go.Proofs.Ytiabffkfabmlpaa.PLocateBack
set_option linter.unusedVariables false
open Go.RowKit Go.Proofs.YtiabffkfabmlpaaW.PrintWords
def totL : List S28 → Nat
  | [] => 0
  | x :: t => x.f0.size + totL t
def totP : List S24 → Nat
  | [] => 0
  | x :: t => totL x.f0 + totP t
theorem totL_le {t : List S28} (h : ∀ x ∈ t, GoodL x) : totL t ≤ 200 * t.length := by
  induction t with
  | nil => simp [totL]
  | cons x t ih =>
    have h1 := (h x List.mem_cons_self).1
    have := ih (fun y hy => h y (List.mem_cons_of_mem _ hy))
    simp only [totL, List.length_cons]; omega
theorem totP_le {t : List S24} (h : ∀ x ∈ t, ∀ y ∈ x.f0, GoodL y) : totP t ≤ 200 * tots t := by
  induction t with
  | nil => simp [totP]
  | cons x t ih =>
    have h1 := totL_le (h x List.mem_cons_self)
    have := ih (fun y hy => h y (List.mem_cons_of_mem _ hy))
    simp only [totP, tots]; omega
theorem tots_mem {L : List S24} {x : S24} (h : x ∈ L) : x.f0.length ≤ tots L := by
  induction L with
  | nil => cases h
  | cons y t ih =>
    rcases List.mem_cons.1 h with e | e
    · rw [e]; simp only [tots]; omega
    · have := ih e; simp only [tots]; omega
theorem few_len {L : List S24} (h : Few L) : ∀ x ∈ L, x.f0.length ≤ 60 := fun x hx => by have := tots_mem hx; have := h.2.1; omega
theorem few_tot {L : List S24} (h : Few L) : totP L ≤ 12000 := by have := totP_le h.1; have := h.2.1; omega
theorem ps_l0 {l : List S28} (hl : l.length ≤ 1000) : ∀ (t : List S28) (i : Nat) (a : Nat), l.drop i = t → a + totL t ≤ 1000000 → i ≤ l.length →
    Ev (fun k => locate_pageSize.l0 k (a : Int) l (l.length : Int) (i : Int)) ((a + totL t : Nat) : Int)
  | [], i, a, h, ha, hi => by
    have := dropN h
    exact Ev.step (fun k => by rw [locate_pageSize.l0, if_neg (by omega)]; rfl) (Ev.now _)
  | x :: t, i, a, h, ha, hi => by
    obtain ⟨h1, h2, h3⟩ := d28 h
    simp only [totL] at ha ⊢
    have e : wrap64 ((a : Int) + (x.f0.size : Int)) = ((a + x.f0.size : Nat) : Int) := by rw [w64 (by omega) (by omega)]; omega
    have ih := ps_l0 hl t (i + 1) (a + x.f0.size) h3 (by omega) (by omega)
    rw [show a + (x.f0.size + totL t) = a + x.f0.size + totL t by omega]
    exact Ev.step (fun k => by rw [locate_pageSize.l0, if_pos (by omega), if_pos (by omega), if_pos (by omega), h2, e, upN (by omega)]) ih
theorem ps_ev {l : List S28} (hl : l.length ≤ 1000) (ht : totL l ≤ 1000000) : Ev (fun k => locate_pageSize.f k l) ((totL l : Nat) : Int) := by
  have := ps_l0 hl l 0 0 rfl (by omega) (Nat.zero_le _)
  rw [Nat.zero_add] at this
  exact this
abbrev St := Int × Int × Int × Bool
def sL (p : Int) : List S28 → Nat → Nat → St → (Int × Int × Int) ⊕ (Nat × St)
  | [], _, a, st => .inr (a, st)
  | x :: t, i, a, st => if a < x.f0.size then .inl (p, (i : Int), (a : Int)) else sL p t (i + 1) (a - x.f0.size) (p, (i : Int), (x.f0.size : Int), true)
def sP : List S24 → Nat → Nat → St → (Int × Int × Int) ⊕ (Nat × St)
  | [], _, a, st => .inr (a, st)
  | x :: t, p, a, st => match sL (p : Int) x.f0 0 a st with | .inl r => .inl r | .inr (a2, st2) => sP t (p + 1) a2 st2
def lineOf : (Int × Int × Int) ⊕ (Nat × St) → St
  | .inl (p, n, i) => (p, n, i, true)
  | .inr (a, (p, n, s, b)) => if a = 0 then (if b = true then (p, n, s, true) else (0, 0, 0, false)) else (0, 0, 0, false)
theorem pl_l1 {L : List S24} {p : Nat} {x : S24} (hn : x.f0.length ≤ 60) : ∀ (t : List S28) (i a : Nat) (s1 s2 s3 : Int) (sb : Bool) (r : St), x.f0.drop i = t → (∀ y ∈ t, GoodL y) → a ≤ 9223372036854775807 → i ≤ x.f0.length →
    (match sL (p : Int) t i a (s1, s2, s3, sb) with | .inl q => r = (q.1, q.2.1, q.2.2, true) | .inr (a2, st2) => Ev (fun k => locate_Line.l0 k (a2 : Int) st2.1 st2.2.1 st2.2.2.1 st2.2.2.2 L (L.length : Int) (wrap64 ((p : Int) + 1))) r) →
    Ev (fun k => locate_Line.l1 k (a : Int) s1 s2 s3 sb (p : Int) L (L.length : Int) (p : Int) x.f0 (x.f0.length : Int) (i : Int)) r
  | [], i, a, s1, s2, s3, sb, r, h, hg, ha, hi, hc => by
    have := dropN h
    exact Ev.step (fun k => by rw [locate_Line.l1, if_neg (by omega)]) hc
  | y :: t, i, a, s1, s2, s3, sb, r, h, hg, ha, hi, hc => by
    obtain ⟨h1, h2, h3⟩ := d28 h
    unfold sL at hc
    by_cases c : a < y.f0.size
    · rw [if_pos c] at hc
      have hc2 : r = ((p : Int), (i : Int), (a : Int), true) := hc
      rw [hc2]
      exact Ev.step (fun k => by rw [locate_Line.l1, if_pos (by omega), if_pos (by omega), if_pos (by omega), h2, if_pos (by omega)]) (Ev.now _)
    · rw [if_neg c] at hc
      have e : wrap64 ((a : Int) - (y.f0.size : Int)) = ((a - y.f0.size : Nat) : Int) := by rw [w64 (by omega) (by omega)]; omega
      refine Ev.step (fun k => by rw [locate_Line.l1, if_pos (by omega), if_pos (by omega), if_pos (by omega), h2, if_neg (by omega), e, upN (show i < 9223372036854775807 by omega)]) ?_
      exact pl_l1 hn t (i + 1) (a - y.f0.size) _ _ _ _ r h3 (fun z hz => hg z (List.mem_cons_of_mem _ hz)) (by omega) (by omega) hc
theorem sL_le (p : Int) : ∀ (t : List S28) (i a : Nat) (st : St) (a2 : Nat) (st2 : St), sL p t i a st = .inr (a2, st2) → a = totL t + a2
  | [], i, a, st, a2, st2, h => by
    injection h with h; injection h with h1 h2; simp [totL, h1]
  | x :: t, i, a, st, a2, st2, h => by
    unfold sL at h
    by_cases c : a < x.f0.size
    · rw [if_pos c] at h; cases h
    · rw [if_neg c] at h
      have := sL_le p t (i + 1) _ _ a2 st2 h
      simp only [totL]; omega
theorem pl_l0 {L : List S24} (hL : L.length ≤ 20) : ∀ (t : List S24) (p a : Nat) (s1 s2 s3 : Int) (sb : Bool), L.drop p = t → (∀ x ∈ t, ∀ y ∈ x.f0, GoodL y) → (∀ x ∈ t, x.f0.length ≤ 60) → a ≤ 9223372036854775807 → p ≤ L.length →
    Ev (fun k => locate_Line.l0 k (a : Int) s1 s2 s3 sb L (L.length : Int) (p : Int)) (lineOf (sP t p a (s1, s2, s3, sb)))
  | [], p, a, s1, s2, s3, sb, h, hg, hn, ha, hp => by
    have := dropN h
    refine Ev.step (fun k => by rw [locate_Line.l0, if_neg (by omega)]) ?_
    show Ev (fun k => _) (if a = 0 then (if sb = true then (s1, s2, s3, true) else (0, 0, 0, false)) else (0, 0, 0, false))
    by_cases c : a = 0
    · rw [if_pos c]
      simp only [if_pos (show (a : Int) = 0 by omega)]
      cases sb with
      | true => exact Ev.now _
      | false => exact Ev.now _
    · rw [if_neg c]
      simp only [if_neg (show ¬ (a : Int) = 0 by omega)]
      exact Ev.now _
  | x :: t, p, a, s1, s2, s3, sb, h, hg, hn, ha, hp => by
    obtain ⟨h1, h2, h3⟩ := d24 h
    refine Ev.step (fun k => by rw [locate_Line.l0, if_pos (by omega), if_pos (by omega), if_pos (by omega), h2]) ?_
    refine pl_l1 (hn x List.mem_cons_self) x.f0 0 a s1 s2 s3 sb _ rfl (hg x List.mem_cons_self) ha (Nat.zero_le _) ?_
    have hs : sP (x :: t) p a (s1, s2, s3, sb) = (match sL (p : Int) x.f0 0 a (s1, s2, s3, sb) with | .inl r => .inl r | .inr (a2, st2) => sP t (p + 1) a2 st2) := rfl
    rw [hs]
    cases hq : sL (p : Int) x.f0 0 a (s1, s2, s3, sb) with
    | inl q => rfl
    | inr q =>
      obtain ⟨a2, z1, z2, z3, zb⟩ := q
      have := sL_le _ _ _ _ _ _ _ hq
      have ih := pl_l0 hL t (p + 1) a2 z1 z2 z3 zb h3 (fun z hz => hg z (List.mem_cons_of_mem _ hz)) (fun z hz => hn z (List.mem_cons_of_mem _ hz)) (by omega) (by omega)
      rw [← upN (show p < 9223372036854775807 by omega)] at ih
      exact ih
def lineP (L : List S24) (a : Int) : St := if a < 0 then (0, 0, 0, false) else lineOf (sP L 0 a.toNat (0, 0, 0, false))
theorem pline_ev {L : List S24} (h : Few L) {a : Int} (ha : a ≤ 9223372036854775807) : Ev (fun k => locate_Line.f k L a) (lineP L a) := by
  unfold locate_Line.f lineP
  by_cases c : a < 0
  · simp only [if_pos c]; exact Ev.now _
  · simp only [if_neg c]
    have := pl_l0 h.2.2 L 0 a.toNat 0 0 0 false rfl h.1 (few_len h) (by omega) (Nat.zero_le _)
    rw [show ((a.toNat : Nat) : Int) = a by omega] at this
    exact this
theorem totL_take (l : List S28) (n : Nat) : totL (l.take n) ≤ totL l := by
  induction l generalizing n with
  | nil => simp [totL]
  | cons x t ih => cases n with
    | zero => simp [totL]
    | succ n => have := ih n; simp only [List.take_succ_cons, totL]; omega
theorem totP_take (l : List S24) (n : Nat) : totP (l.take n) ≤ totP l := by
  induction l generalizing n with
  | nil => simp [totP]
  | cons x t ih => cases n with
    | zero => simp [totP]
    | succ n => have := ih n; simp only [List.take_succ_cons, totP]; omega
theorem totL_app (a b : List S28) : totL (a ++ b) = totL a + totL b := by
  induction a with
  | nil => simp [totL]
  | cons x t ih => simp only [List.cons_append, totL, ih]; omega
theorem totP_app (a b : List S24) : totP (a ++ b) = totP a + totP b := by
  induction a with
  | nil => simp [totP]
  | cons x t ih => simp only [List.cons_append, totP, ih]; omega
theorem po_l1 {l : List S28} (hl : l.length ≤ 1000) : ∀ (t : List S28) (i a : Nat), l.drop i = t → a + totL t ≤ 1000000 →
    Ev (fun k => locate_Offset.l1 k (a : Int) l (l.length : Int) (i : Int)) (((a + totL t : Nat) : Int), true)
  | [], i, a, h, ha => by
    have := dropN h
    exact Ev.step (fun k => by rw [locate_Offset.l1, if_neg (by omega)]; rfl) (Ev.now _)
  | x :: t, i, a, h, ha => by
    obtain ⟨h1, h2, h3⟩ := d28 h
    simp only [totL] at ha ⊢
    have e : wrap64 ((a : Int) + (x.f0.size : Int)) = ((a + x.f0.size : Nat) : Int) := by rw [w64 (by omega) (by omega)]; omega
    have ih := po_l1 hl t (i + 1) (a + x.f0.size) h3 (by omega)
    rw [show a + (x.f0.size + totL t) = a + x.f0.size + totL t by omega]
    exact Ev.step (fun k => by rw [locate_Offset.l1, if_pos (by omega), if_pos (by omega), if_pos (by omega), h2, e, upN (by omega)]) ih
theorem po_l0 {L y : List S24} {p n : Int} {r : Int × Bool} (hy : y.length ≤ 1000) : ∀ (t : List S24) (i a : Nat), y.drop i = t → i ≤ y.length → (∀ x ∈ t, x.f0.length ≤ 60) → a + totP t ≤ 1000000 →
    Ev (fun k => locate_Offset.l0 k L p n ((a + totP t : Nat) : Int) y (y.length : Int) (y.length : Int)) r →
    Ev (fun k => locate_Offset.l0 k L p n (a : Int) y (y.length : Int) (i : Int)) r
  | [], i, a, h, hi, hn, ha, hc => by
    have := dropN h
    have e : i = y.length := by omega
    subst e
    exact hc
  | x :: t, i, a, h, hi, hn, ha, hc => by
    obtain ⟨h1, h2, h3⟩ := d24 h
    simp only [totP] at ha hc
    have e : wrap64 ((a : Int) + ((totL x.f0 : Nat) : Int)) = ((a + totL x.f0 : Nat) : Int) := by rw [w64 (by omega) (by omega)]; omega
    refine Ev.step (fun k => by rw [locate_Offset.l0, if_pos (by omega), if_pos (by omega), if_pos (by omega), h2]) ?_
    refine Ev.bind (ps_ev (by have := hn x List.mem_cons_self; omega) (by omega)) ?_
    simp only [e, upN (show i < 9223372036854775807 by omega)]
    refine po_l0 hy t (i + 1) (a + totL x.f0) h3 (by omega) (fun z hz => hn z (List.mem_cons_of_mem _ hz)) (by omega) ?_
    rw [show a + (totL x.f0 + totP t) = a + totL x.f0 + totP t by omega] at hc
    exact hc
def offN (L : List S24) (p n : Nat) : Nat := totP (L.take p) + totL ((rd_T24 L (p : Int)).f0.take n)
theorem off_le {L : List S24} (h : Few L) {p n : Nat} (hp : p < L.length) : totP (L.take p) + totL (rd_T24 L (p : Int)).f0 ≤ 12000 := by
  have h1 := few_tot h
  have hr : rd_T24 L (p : Int) = L[p] := by
    unfold rd_T24
    rw [Int.toNat_natCast, List.getD_eq_getElem?_getD, List.getElem?_eq_getElem hp]; rfl
  have h2 : totP L = totP (L.take p) + totP (L.drop p) := by rw [← totP_app, List.take_append_drop]
  rw [List.drop_eq_getElem_cons hp] at h2
  simp only [totP] at h2
  rw [hr]; omega
theorem poff_ev {L : List S24} (h : Few L) {p n : Nat} (hp : p < L.length) (hn : n < (rd_T24 L (p : Int)).f0.length) : Ev (fun k => locate_Offset.j0 k L (p : Int) (n : Int) false) (((offN L p n : Nat) : Int), true) := by
  have hle := off_le (n := n) h hp
  have hL := h.2.2
  have hx : (rd_T24 L (p : Int)).f0.length ≤ 60 := few_len h _ (by
    have hr : rd_T24 L (p : Int) = L[p] := by
      unfold rd_T24
      rw [Int.toNat_natCast, List.getD_eq_getElem?_getD, List.getElem?_eq_getElem hp]; rfl
    rw [hr]; exact List.getElem_mem hp)
  have ht := totL_take (rd_T24 L (p : Int)).f0 n
  have e1 : ((p : Int)).toNat = p := Int.toNat_natCast p
  have e2 : ((n : Int)).toNat = n := Int.toNat_natCast n
  refine Ev.step (fun k => by rw [locate_Offset.j0, if_neg (by decide), if_pos (by omega), if_pos (by omega), e1, Option.bind_some]) ?_
  refine po_l0 (y := L.take p) (by rw [List.length_take]; omega) (L.take p) 0 0 rfl (Nat.zero_le _) (fun x hx => few_len h x (List.mem_of_mem_take hx)) (by omega) ?_
  rw [Nat.zero_add]
  refine Ev.step (fun k => by rw [locate_Offset.l0, if_neg (by omega), if_pos (by omega), if_pos (by omega), if_pos (by omega), if_pos (by omega), e2, Option.bind_some]) ?_
  exact po_l1 (l := (rd_T24 L (p : Int)).f0.take n) (by rw [List.length_take]; omega) _ 0 _ rfl (by omega)
theorem rd24 {L : List S24} {p : Nat} (h : p < L.length) : rd_T24 L (p : Int) = L[p] := by
  unfold rd_T24
  rw [Int.toNat_natCast, List.getD_eq_getElem?_getD, List.getElem?_eq_getElem h]; rfl
theorem rd28 {l : List S28} {p : Nat} (h : p < l.length) : rd_T28 l (p : Int) = l[p] := by
  unfold rd_T28
  rw [Int.toNat_natCast, List.getD_eq_getElem?_getD, List.getElem?_eq_getElem h]; rfl
theorem rd43 {l : List S43} {p : Nat} (h : p < l.length) : rd_T43 l (p : Int) = l[p] := by
  unfold rd_T43
  rw [Int.toNat_natCast, List.getD_eq_getElem?_getD, List.getElem?_eq_getElem h]; rfl
theorem sL_cons (p : Int) (x : S28) (t : List S28) (i a : Nat) (st : St) : sL p (x :: t) i a st = if a < x.f0.size then .inl (p, (i : Int), (a : Int)) else sL p t (i + 1) (a - x.f0.size) (p, (i : Int), (x.f0.size : Int), true) := rfl
theorem totL_cons (x : S28) (t : List S28) : totL (x :: t) = x.f0.size + totL t := rfl
theorem sL_at {p : Int} : ∀ (t : List S28) (n i0 i : Nat) (st : St) (h : n < t.length), i < t[n].f0.size → sL p t i0 (totL (t.take n) + i) st = .inl (p, ((i0 + n : Nat) : Int), (i : Int))
  | [], n, i0, i, st, h, _ => by simp at h
  | x :: t, 0, i0, i, st, h, hi => by
    have hi' : i < x.f0.size := hi
    have e : totL ((x :: t).take 0) + i = i := by rw [List.take_zero]; show 0 + i = i; omega
    rw [e, sL_cons, if_pos hi', Nat.add_zero]
  | x :: t, n + 1, i0, i, st, h, hi => by
    have hi' : i < (t[n]'(by simpa using h)).f0.size := hi
    have e : totL ((x :: t).take (n + 1)) = x.f0.size + totL (t.take n) := by rw [List.take_succ_cons, totL_cons]
    rw [e, sL_cons, if_neg (by omega)]
    have := sL_at (p := p) t n (i0 + 1) i (p, (i0 : Int), (x.f0.size : Int), true) (by simpa using h) hi'
    rw [show x.f0.size + totL (t.take n) + i - x.f0.size = totL (t.take n) + i by omega, this, show i0 + 1 + n = i0 + (n + 1) by omega]
theorem sL_past {p : Int} : ∀ (t : List S28) (i0 a : Nat) (st : St), ∃ st2, sL p t i0 (totL t + a) st = .inr (a, st2)
  | [], i0, a, st => ⟨st, by show Sum.inr (0 + a, st) = _; rw [Nat.zero_add]⟩
  | x :: t, i0, a, st => by
    rw [totL_cons, sL_cons, if_neg (by omega), show x.f0.size + totL t + a - x.f0.size = totL t + a by omega]
    exact sL_past t (i0 + 1) a _
theorem sP_at : ∀ (t : List S24) (q p0 n i : Nat) (st : St) (h : q < t.length) (hn : n < t[q].f0.length), i < (t[q].f0[n]).f0.size → sP t p0 (totP (t.take q) + (totL (t[q].f0.take n) + i)) st = .inl (((p0 + q : Nat) : Int), (n : Int), (i : Int))
  | [], q, p0, n, i, st, h, _, _ => by simp at h
  | x :: t, 0, p0, n, i, st, h, hn, hi => by
    have hs : sP (x :: t) p0 (totP ((x :: t).take 0) + (totL (x.f0.take n) + i)) st = (match sL (p0 : Int) x.f0 0 (totP ((x :: t).take 0) + (totL (x.f0.take n) + i)) st with | .inl r => .inl r | .inr (a2, st2) => sP t (p0 + 1) a2 st2) := rfl
    show sP (x :: t) p0 (totP ((x :: t).take 0) + (totL (x.f0.take n) + i)) st = _
    rw [hs, List.take_zero]
    simp only [totP, Nat.zero_add]
    rw [sL_at x.f0 n 0 i st hn hi]
    simp
  | x :: t, q + 1, p0, n, i, st, h, hn, hi => by
    have h' : q < t.length := by simpa using h
    have ih := fun st => sP_at t q (p0 + 1) n i st h' hn hi
    have hs : ∀ a, sP (x :: t) p0 a st = (match sL (p0 : Int) x.f0 0 a st with | .inl r => .inl r | .inr (a2, st2) => sP t (p0 + 1) a2 st2) := fun _ => rfl
    have e : totP ((x :: t).take (q + 1)) = totL x.f0 + totP (t.take q) := by rw [List.take_succ_cons]; rfl
    obtain ⟨st2, h2⟩ := sL_past (p := (p0 : Int)) x.f0 0 (totP (t.take q) + (totL (((x :: t)[q + 1]).f0.take n) + i)) st
    rw [hs, e, Nat.add_assoc, h2]
    show sP t (p0 + 1) (totP (t.take q) + (totL (t[q].f0.take n) + i)) st2 = _
    rw [ih, show p0 + 1 + q = p0 + (q + 1) by omega]
theorem line_at {L : List S24} {p n i : Nat} (hp : p < L.length) (hn : n < (rd_T24 L (p : Int)).f0.length) (hi : i < (rd_T28 (rd_T24 L (p : Int)).f0 (n : Int)).f0.size) : lineP L ((offN L p n + i : Nat) : Int) = ((p : Int), (n : Int), (i : Int), true) := by
  unfold lineP
  rw [if_neg (by omega), Int.toNat_natCast]
  rw [rd28 hn] at hi
  have e := rd24 hp
  unfold offN
  revert hn hi
  rw [e]
  intro hn hi
  rw [Nat.add_assoc, sP_at L p 0 n i _ hp hn hi]
  simp [lineOf]
end Go.Proofs.Ytiabffkfabmlpaa.PLocateBack
