import Derived.Test.YtiabffkfabmlpaaFewLocateSpots
/-! Our own text: the bytes of pages, the program's and the reference's. -/
namespace Go.Proofs.Ytiabffkfabmlpaa.PLocateSpots
set_option linter.unusedVariables false
open Go.RowKit Go.Proofs.YtiabffkfabmlpaaW.PrintWords

/-! ### bytes -/
def bsB (p n : Int) : Nat → Nat → List S54
  | _, 0 => []
  | j, d + 1 => ⟨p, n, (j : Int)⟩ :: bsB p n (j + 1) d
def bsL (p : Int) : List S28 → Nat → List S54
  | [], _ => []
  | x :: t, i => bsB p (i : Int) 0 x.f0.size ++ bsL p t (i + 1)
def bsP : List S24 → Nat → List S54
  | [], _ => []
  | x :: t, p => bsL (p : Int) x.f0 0 ++ bsP t (p + 1)
def totL : List S28 → Nat
  | [] => 0
  | x :: t => x.f0.size + totL t
def totP : List S24 → Nat
  | [] => 0
  | x :: t => totL x.f0 + totP t
theorem bsB_len (p n : Int) : ∀ d j, (bsB p n j d).length = d
  | 0, _ => rfl
  | d + 1, j => by simp [bsB, bsB_len p n d]
theorem bsB_get (p n : Int) : ∀ d j i, i < d → (bsB p n j d)[i]? = some ⟨p, n, ((j + i : Nat) : Int)⟩
  | 0, _, _, h => by omega
  | d + 1, j, 0, h => by simp [bsB]
  | d + 1, j, i + 1, h => by
    have := bsB_get p n d (j + 1) i (by omega)
    simp only [bsB, List.getElem?_cons_succ, this]
    congr 3; omega
theorem bsL_len (p : Int) : ∀ t i, (bsL p t i).length = totL t
  | [], _ => rfl
  | x :: t, i => by simp [bsL, totL, bsB_len, bsL_len p t]
theorem bsP_len : ∀ t p, (bsP t p).length = totP t
  | [], _ => rfl
  | x :: t, p => by simp [bsP, totP, bsL_len, bsP_len t]
theorem totL_le {t : List S28} (h : ∀ x ∈ t, GoodL x) : totL t ≤ 200 * t.length := by
  induction t with
  | nil => simp [totL]
  | cons x t ih =>
    have h1 := (h x List.mem_cons_self).1
    have := ih (fun y hy => h y (List.mem_cons_of_mem _ hy))
    simp only [totL, List.length_cons]; omega
theorem totP_le {t : List S24} (h : ∀ x ∈ t, ∀ y ∈ x.f0, GoodL y) : totP t ≤ 200 * tots t := by
  induction t with
  | nil => simp [totP]
  | cons x t ih =>
    have h1 := totL_le (h x List.mem_cons_self)
    have := ih (fun y hy => h y (List.mem_cons_of_mem _ hy))
    simp only [totP, tots]; omega

/-! ### the reference's bytes -/
theorem rb_l2 {L : List S24} {p i : Nat} {r : List S54} {x : S24} {y : S28} (hp : p < L.length) (hx : rd_T24 L (p : Int) = x) (hi : i < x.f0.length) (hy : rd_T28 x.f0 (i : Int) = y) (hs : y.f0.size ≤ 200) (hi2 : i ≤ 1000) : ∀ (d j : Nat) (acc : List S54), j + d = y.f0.size → acc.length + d ≤ 20000 →
    Ev (fun k => regletref15_Bytes.l1 k L (acc ++ bsB (p : Int) (i : Int) j d) (p : Int) ((i + 1 : Nat) : Int)) r → Ev (fun k => regletref15_Bytes.l2 k L acc (p : Int) (i : Int) (j : Int)) r
  | 0, j, acc, hj, ha, hc => by
    rw [show bsB (p : Int) (i : Int) j 0 = [] from rfl, List.append_nil] at hc
    exact Ev.step (fun k => by rw [regletref15_Bytes.l2, if_pos (by omega), if_pos (by omega), hx, if_pos (by omega), if_pos (by omega), hy, if_neg (by omega), upN (show i < 9223372036854775807 by omega)]) hc
  | d + 1, j, acc, hj, ha, hc => by
    refine Ev.step (fun k => by rw [regletref15_Bytes.l2, if_pos (by omega), if_pos (by omega), hx, if_pos (by omega), if_pos (by omega), hy, if_pos (by omega), if_pos (by omega), upN (show j < 9223372036854775807 by omega)]) ?_
    refine rb_l2 hp hx hi hy hs hi2 d (j + 1) _ (by omega) (by rw [List.length_append, List.length_singleton]; omega) ?_
    rw [List.append_assoc]
    exact hc
theorem rb_l1 {L : List S24} {p : Nat} {r : List S54} {x : S24} (hp : p < L.length) (hp2 : p ≤ 1000) (hx : rd_T24 L (p : Int) = x) (hn : x.f0.length ≤ 60) : ∀ (t : List S28) (i : Nat) (acc : List S54), x.f0.drop i = t → (∀ y ∈ t, GoodL y) → acc.length + totL t ≤ 20000 → i ≤ x.f0.length →
    Ev (fun k => regletref15_Bytes.l0 k L (acc ++ bsL (p : Int) t i) ((p + 1 : Nat) : Int)) r → Ev (fun k => regletref15_Bytes.l1 k L acc (p : Int) (i : Int)) r
  | [], i, acc, h, hg, ha, hi, hc => by
    have := dropN h
    rw [show bsL (p : Int) [] i = [] from rfl, List.append_nil] at hc
    exact Ev.step (fun k => by rw [regletref15_Bytes.l1, if_pos (by omega), if_pos (by omega), hx, if_neg (by omega), upN (show p < 9223372036854775807 by omega)]) hc
  | y :: t, i, acc, h, hg, ha, hi, hc => by
    obtain ⟨h1, h2, h3⟩ := d28 h
    have hs := (hg y List.mem_cons_self).1
    simp only [totL] at ha
    refine Ev.step (fun k => by rw [regletref15_Bytes.l1, if_pos (by omega), if_pos (by omega), hx, if_pos (by omega)]) ?_
    refine rb_l2 hp hx h1 h2 hs (by omega) y.f0.size 0 acc (by omega) (by omega) ?_
    refine rb_l1 hp hp2 hx hn t (i + 1) _ h3 (fun z hz => hg z (List.mem_cons_of_mem _ hz)) (by rw [List.length_append, bsB_len]; omega) (by omega) ?_
    rw [List.append_assoc]
    exact hc
theorem rb_l0 {L : List S24} (hL : L.length ≤ 20) : ∀ (t : List S24) (p : Nat) (acc : List S54), L.drop p = t → (∀ x ∈ t, ∀ y ∈ x.f0, GoodL y) → (∀ x ∈ t, x.f0.length ≤ 60) → acc.length + totP t ≤ 20000 → p ≤ L.length →
    Ev (fun k => regletref15_Bytes.l0 k L acc (p : Int)) (acc ++ bsP t p)
  | [], p, acc, h, hg, hn, ha, hp => by
    have := dropN h
    rw [show bsP [] p = [] from rfl, List.append_nil]
    exact Ev.step (fun k => by rw [regletref15_Bytes.l0, if_neg (by omega)]) (Ev.now _)
  | x :: t, p, acc, h, hg, hn, ha, hp => by
    obtain ⟨h1, h2, h3⟩ := d24 h
    simp only [totP] at ha
    refine Ev.step (fun k => by rw [regletref15_Bytes.l0, if_pos (by omega)]) ?_
    refine rb_l1 h1 (by omega) h2 (hn x List.mem_cons_self) x.f0 0 acc rfl (hg x List.mem_cons_self) (by omega) (Nat.zero_le _) ?_
    have := rb_l0 hL t (p + 1) (acc ++ bsL (p : Int) x.f0 0) h3 (fun z hz => hg z (List.mem_cons_of_mem _ hz)) (fun z hz => hn z (List.mem_cons_of_mem _ hz)) (by rw [List.length_append, bsL_len]; omega) (by omega)
    rw [List.append_assoc] at this
    exact this
theorem tots_mem {L : List S24} {x : S24} (h : x ∈ L) : x.f0.length ≤ tots L := by
  induction L with
  | nil => cases h
  | cons y t ih =>
    rcases List.mem_cons.1 h with e | e
    · rw [e]; simp only [tots]; omega
    · have := ih e; simp only [tots]; omega
theorem few_len {L : List S24} (h : Few L) : ∀ x ∈ L, x.f0.length ≤ 60 := fun x hx => by have := tots_mem hx; have := h.2.1; omega
theorem few_tot {L : List S24} (h : Few L) : totP L ≤ 12000 := by have := totP_le h.1; have := h.2.1; omega
theorem bytes_ev {L : List S24} (h : Few L) : Ev (fun k => regletref15_Bytes.f k L) (bsP L 0) := by
  have := rb_l0 h.2.2 L 0 [] rfl h.1 (few_len h) (by have := few_tot h; simp; omega) (Nat.zero_le _)
  exact this

/-! ### how many bytes -/
/-! ### the line of a byte -/
abbrev St := Int × Int × Int × Bool
def sL (p : Int) : List S28 → Nat → Nat → St → (Int × Int × Int) ⊕ (Nat × St)
  | [], _, a, st => .inr (a, st)
  | x :: t, i, a, st => if a < x.f0.size then .inl (p, (i : Int), (a : Int)) else sL p t (i + 1) (a - x.f0.size) (p, (i : Int), (x.f0.size : Int), true)
def sP : List S24 → Nat → Nat → St → (Int × Int × Int) ⊕ (Nat × St)
  | [], _, a, st => .inr (a, st)
  | x :: t, p, a, st => match sL (p : Int) x.f0 0 a st with | .inl r => .inl r | .inr (a2, st2) => sP t (p + 1) a2 st2
def lineOf : (Int × Int × Int) ⊕ (Nat × St) → St
  | .inl (p, n, i) => (p, n, i, true)
  | .inr (a, (p, n, s, b)) => if a = 0 then (if b = true then (p, n, s, true) else (0, 0, 0, false)) else (0, 0, 0, false)
theorem pl_l1 {L : List S24} {p : Nat} {x : S24} (hn : x.f0.length ≤ 60) : ∀ (t : List S28) (i a : Nat) (s1 s2 s3 : Int) (sb : Bool) (r : St), x.f0.drop i = t → (∀ y ∈ t, GoodL y) → a ≤ 9223372036854775807 → i ≤ x.f0.length →
    (match sL (p : Int) t i a (s1, s2, s3, sb) with | .inl q => r = (q.1, q.2.1, q.2.2, true) | .inr (a2, st2) => Ev (fun k => locate_Line.l0 k (a2 : Int) st2.1 st2.2.1 st2.2.2.1 st2.2.2.2 L (L.length : Int) (wrap64 ((p : Int) + 1))) r) →
    Ev (fun k => locate_Line.l1 k (a : Int) s1 s2 s3 sb (p : Int) L (L.length : Int) (p : Int) x.f0 (x.f0.length : Int) (i : Int)) r
  | [], i, a, s1, s2, s3, sb, r, h, hg, ha, hi, hc => by
    have := dropN h
    exact Ev.step (fun k => by rw [locate_Line.l1, if_neg (by omega)]) hc
  | y :: t, i, a, s1, s2, s3, sb, r, h, hg, ha, hi, hc => by
    obtain ⟨h1, h2, h3⟩ := d28 h
    unfold sL at hc
    by_cases c : a < y.f0.size
    · rw [if_pos c] at hc
      have hc2 : r = ((p : Int), (i : Int), (a : Int), true) := hc
      rw [hc2]
      exact Ev.step (fun k => by rw [locate_Line.l1, if_pos (by omega), if_pos (by omega), if_pos (by omega), h2, if_pos (by omega)]) (Ev.now _)
    · rw [if_neg c] at hc
      have e : wrap64 ((a : Int) - (y.f0.size : Int)) = ((a - y.f0.size : Nat) : Int) := by rw [w64 (by omega) (by omega)]; omega
      refine Ev.step (fun k => by rw [locate_Line.l1, if_pos (by omega), if_pos (by omega), if_pos (by omega), h2, if_neg (by omega), e, upN (show i < 9223372036854775807 by omega)]) ?_
      exact pl_l1 hn t (i + 1) (a - y.f0.size) _ _ _ _ r h3 (fun z hz => hg z (List.mem_cons_of_mem _ hz)) (by omega) (by omega) hc
theorem sL_le (p : Int) : ∀ (t : List S28) (i a : Nat) (st : St) (a2 : Nat) (st2 : St), sL p t i a st = .inr (a2, st2) → a = totL t + a2
  | [], i, a, st, a2, st2, h => by
    injection h with h; injection h with h1 h2; simp [totL, h1]
  | x :: t, i, a, st, a2, st2, h => by
    unfold sL at h
    by_cases c : a < x.f0.size
    · rw [if_pos c] at h; cases h
    · rw [if_neg c] at h
      have := sL_le p t (i + 1) _ _ a2 st2 h
      simp only [totL]; omega
theorem pl_l0 {L : List S24} (hL : L.length ≤ 20) : ∀ (t : List S24) (p a : Nat) (s1 s2 s3 : Int) (sb : Bool), L.drop p = t → (∀ x ∈ t, ∀ y ∈ x.f0, GoodL y) → (∀ x ∈ t, x.f0.length ≤ 60) → a ≤ 9223372036854775807 → p ≤ L.length →
    Ev (fun k => locate_Line.l0 k (a : Int) s1 s2 s3 sb L (L.length : Int) (p : Int)) (lineOf (sP t p a (s1, s2, s3, sb)))
  | [], p, a, s1, s2, s3, sb, h, hg, hn, ha, hp => by
    have := dropN h
    refine Ev.step (fun k => by rw [locate_Line.l0, if_neg (by omega)]) ?_
    show Ev (fun k => _) (if a = 0 then (if sb = true then (s1, s2, s3, true) else (0, 0, 0, false)) else (0, 0, 0, false))
    by_cases c : a = 0
    · rw [if_pos c]
      simp only [if_pos (show (a : Int) = 0 by omega)]
      cases sb with
      | true => exact Ev.now _
      | false => exact Ev.now _
    · rw [if_neg c]
      simp only [if_neg (show ¬ (a : Int) = 0 by omega)]
      exact Ev.now _
  | x :: t, p, a, s1, s2, s3, sb, h, hg, hn, ha, hp => by
    obtain ⟨h1, h2, h3⟩ := d24 h
    refine Ev.step (fun k => by rw [locate_Line.l0, if_pos (by omega), if_pos (by omega), if_pos (by omega), h2]) ?_
    refine pl_l1 (hn x List.mem_cons_self) x.f0 0 a s1 s2 s3 sb _ rfl (hg x List.mem_cons_self) ha (Nat.zero_le _) ?_
    have hs : sP (x :: t) p a (s1, s2, s3, sb) = (match sL (p : Int) x.f0 0 a (s1, s2, s3, sb) with | .inl r => .inl r | .inr (a2, st2) => sP t (p + 1) a2 st2) := rfl
    rw [hs]
    cases hq : sL (p : Int) x.f0 0 a (s1, s2, s3, sb) with
    | inl q => rfl
    | inr q =>
      obtain ⟨a2, z1, z2, z3, zb⟩ := q
      have := sL_le _ _ _ _ _ _ _ hq
      have ih := pl_l0 hL t (p + 1) a2 z1 z2 z3 zb h3 (fun z hz => hg z (List.mem_cons_of_mem _ hz)) (fun z hz => hn z (List.mem_cons_of_mem _ hz)) (by omega) (by omega)
      rw [← upN (show p < 9223372036854775807 by omega)] at ih
      exact ih
def lineP (L : List S24) (a : Int) : St := if a < 0 then (0, 0, 0, false) else lineOf (sP L 0 a.toNat (0, 0, 0, false))
theorem pline_ev {L : List S24} (h : Few L) {a : Int} (ha : a ≤ 9223372036854775807) : Ev (fun k => locate_Line.f k L a) (lineP L a) := by
  unfold locate_Line.f lineP
  by_cases c : a < 0
  · simp only [if_pos c]; exact Ev.now _
  · simp only [if_neg c]
    have := pl_l0 h.2.2 L 0 a.toNat 0 0 0 false rfl h.1 (few_len h) (by omega) (Nat.zero_le _)
    rw [show ((a.toNat : Nat) : Int) = a by omega] at this
    exact this

/-! ### what the reference finds -/
def lstL (p : Int) (l : List S28) (st : St) : St := if l.length = 0 then st else (p, (l.length : Int) - 1, ((l.getD (l.length - 1) z28).f0.size : Int), true)
def lstP : List S24 → Nat → St → St
  | [], _, st => st
  | x :: t, p, st => lstP t (p + 1) (lstL (p : Int) x.f0 st)
theorem sL_spec (p : Int) : ∀ (t : List S28) (i a : Nat) (st : St), match sL p t i a st with
    | .inl q => a < totL t ∧ (bsL p t i)[a]? = some ⟨q.1, q.2.1, q.2.2⟩
    | .inr (a2, st2) => a = totL t + a2 ∧ st2 = (if t.length = 0 then st else (p, ((i + t.length - 1 : Nat) : Int), ((t.getD (t.length - 1) z28).f0.size : Int), true))
  | [], i, a, st => by simp [sL, totL]
  | x :: t, i, a, st => by
    unfold sL
    by_cases c : a < x.f0.size
    · rw [if_pos c]
      refine ⟨by simp only [totL]; omega, ?_⟩
      simp only [bsL]
      rw [List.getElem?_append_left (by rw [bsB_len]; exact c), bsB_get _ _ _ _ _ c, Nat.zero_add]
    · rw [if_neg c]
      have ih := sL_spec p t (i + 1) (a - x.f0.size) (p, (i : Int), (x.f0.size : Int), true)
      cases hq : sL p t (i + 1) (a - x.f0.size) (p, (i : Int), (x.f0.size : Int), true) with
      | inl q =>
        rw [hq] at ih
        refine ⟨by have := ih.1; simp only [totL]; omega, ?_⟩
        simp only [bsL]
        rw [List.getElem?_append_right (by rw [bsB_len]; omega), bsB_len]
        exact ih.2
      | inr q =>
        rw [hq] at ih
        refine ⟨by have := ih.1; simp only [totL]; omega, ?_⟩
        have := ih.2
        rw [if_neg (by simp)]
        cases t with
        | nil => simpa using this
        | cons y t =>
          rw [if_neg (by simp)] at this
          rw [this]
          simp only [List.length_cons, Nat.add_sub_cancel, List.getD_cons_succ]
          congr 2
          omega
theorem sP_spec : ∀ (t : List S24) (p a : Nat) (st : St), match sP t p a st with
    | .inl q => a < totP t ∧ (bsP t p)[a]? = some ⟨q.1, q.2.1, q.2.2⟩
    | .inr (a2, st2) => a = totP t + a2 ∧ st2 = lstP t p st
  | [], p, a, st => by simp [sP, totP, lstP]
  | x :: t, p, a, st => by
    have hs : sP (x :: t) p a st = (match sL (p : Int) x.f0 0 a st with | .inl r => .inl r | .inr (a2, st2) => sP t (p + 1) a2 st2) := rfl
    rw [hs]
    have h1 := sL_spec (p : Int) x.f0 0 a st
    cases hq : sL (p : Int) x.f0 0 a st with
    | inl q =>
      rw [hq] at h1
      refine ⟨by have := h1.1; simp only [totP]; omega, ?_⟩
      simp only [bsP]
      rw [List.getElem?_append_left (by rw [bsL_len]; exact h1.1)]
      exact h1.2
    | inr q =>
      obtain ⟨a2, st2⟩ := q
      rw [hq] at h1
      obtain ⟨e1, e2⟩ := h1
      have ih := sP_spec t (p + 1) a2 st2
      have e3 : st2 = lstL (p : Int) x.f0 st := by
        rw [e2]; unfold lstL
        by_cases c : x.f0.length = 0
        · rw [if_pos c, if_pos c]
        · rw [if_neg c, if_neg c]
          congr 2
          omega
      show match sP t (p + 1) a2 st2 with | .inl q => _ | .inr (a3, st3) => _
      cases hq2 : sP t (p + 1) a2 st2 with
      | inl q =>
        rw [hq2] at ih
        refine ⟨by have := ih.1; simp only [totP]; omega, ?_⟩
        simp only [bsP]
        rw [List.getElem?_append_right (by rw [bsL_len]; omega), bsL_len, show a - totL x.f0 = a2 by omega]
        exact ih.2
      | inr q =>
        rw [hq2] at ih
        refine ⟨by have := ih.1; simp only [totP]; omega, ?_⟩
        rw [ih.2, e3]; rfl
theorem lstP_app : ∀ (l : List S24) (x : S24) (p : Nat) (st : St), lstP (l ++ [x]) p st = lstL ((p + l.length : Nat) : Int) x.f0 (lstP l p st)
  | [], x, p, st => by simp [lstP]
  | y :: l, x, p, st => by
    rw [List.cons_append, lstP, lstP_app l x (p + 1)]
    simp only [lstP, List.length_cons]
    congr 2
    omega
theorem last_l0 {L : List S24} (hL : L.length ≤ 20) (hn : ∀ x ∈ L, x.f0.length ≤ 60) : ∀ (n : Nat), n ≤ L.length → Ev (fun k => regletref15_Last.l0 k L ((n : Int) - 1)) (lstP (L.take n) 0 (0, 0, 0, false))
  | 0, h => Ev.step (fun k => by rw [regletref15_Last.l0, if_neg (by omega)]; rfl) (Ev.now _)
  | n + 1, h => by
    have hlt : n < L.length := by omega
    have e0 : (((n + 1 : Nat) : Int) - 1) = (n : Int) := by omega
    have hr : rd_T24 L (n : Int) = L[n] := by
      unfold rd_T24
      rw [Int.toNat_natCast, List.getD_eq_getElem?_getD, List.getElem?_eq_getElem hlt]; rfl
    have hln := hn _ (List.getElem_mem hlt)
    rw [List.take_succ_eq_append_getElem hlt, lstP_app, List.length_take, Nat.min_eq_left (by omega), Nat.zero_add, e0]
    unfold lstL
    generalize L[n] = x at *
    by_cases c : x.f0.length = 0
    · rw [if_pos c]
      have ew : wrap64 ((n : Int) - 1) = (n : Int) - 1 := w64 (by omega) (by omega)
      exact Ev.step (fun k => by rw [regletref15_Last.l0, if_pos (by omega), if_pos (by omega), if_pos (by omega), hr, if_neg (by omega), ew]) (last_l0 hL hn n (by omega))
    · rw [if_neg c]
      have ew : wrap64 ((x.f0.length : Int) - 1) = ((x.f0.length - 1 : Nat) : Int) := by rw [w64 (by omega) (by omega)]; omega
      have ex : rd_T28 x.f0 ((x.f0.length - 1 : Nat) : Int) = x.f0.getD (x.f0.length - 1) z28 := by unfold rd_T28; rw [Int.toNat_natCast]
      refine Ev.step (fun k => by rw [regletref15_Last.l0, if_pos (by omega), if_pos (by omega), if_pos (by omega), hr, if_pos (by omega), ew, if_pos (by omega), if_pos (by omega), ex]) ?_
      rw [show ((x.f0.length - 1 : Nat) : Int) = (x.f0.length : Int) - 1 by omega]
      exact Ev.now _
theorem last_ev {L : List S24} (h : Few L) : Ev (fun k => regletref15_Last.f k L) (lstP L 0 (0, 0, 0, false)) := by
  unfold regletref15_Last.f
  have hL := h.2.2
  rw [w64 (by omega) (by omega)]
  have := last_l0 h.2.2 (few_len h) L.length (Nat.le_refl _)
  rw [List.take_length] at this
  exact this
theorem lst_true {t : List S24} {p : Nat} {st : St} (h : st = (0, 0, 0, false) ∨ st.2.2.2 = true) : lstP t p st = (0, 0, 0, false) ∨ (lstP t p st).2.2.2 = true := by
  induction t generalizing p st with
  | nil => exact h
  | cons x t ih =>
    refine ih ?_
    unfold lstL
    by_cases c : x.f0.length = 0
    · rw [if_pos c]; exact h
    · rw [if_neg c]; exact .inr rfl
theorem rline_ev {L : List S24} (h : Few L) (a : Int) : Ev (fun k => regletref15_Line.f k L a) (lineP L a) := by
  have hb := bytes_ev h
  have hlen := bsP_len L 0
  unfold regletref15_Line.f lineP
  refine Ev.bind hb ?_
  have past : ∀ b, b = false → Ev (fun k => regletref15_Line.j0 k L a (bsP L 0) b) (if a = (totP L : Int) then lstP L 0 (0, 0, 0, false) else (0, 0, 0, false)) := fun b hbb => by
    subst hbb
    refine Ev.step (fun k => by rw [regletref15_Line.j0, if_neg (by decide), hlen]) ?_
    by_cases c : a = (totP L : Int)
    · rw [if_pos c]; simp only [if_pos c]; exact Ev.bind (last_ev h) (Ev.now _)
    · rw [if_neg c]; simp only [if_neg c]; exact Ev.now _
  by_cases c : a ≥ 0
  · simp only [if_pos c]
    rw [if_neg (by omega)]
    have hs := sP_spec L 0 a.toNat (0, 0, 0, false)
    by_cases c2 : a < (totP L : Int)
    · have hd : decide (a < ((bsP L 0).length : Int)) = true := decide_eq_true (by omega)
      rw [hd]
      cases hq : sP L 0 a.toNat (0, 0, 0, false) with
      | inr q => rw [hq] at hs; have := hs.1; omega
      | inl q =>
        rw [hq] at hs
        have hr : rd_T54 (bsP L 0) a = ⟨q.1, q.2.1, q.2.2⟩ := by
          unfold rd_T54
          rw [List.getD_eq_getElem?_getD, hs.2]; rfl
        refine Ev.step (fun k => by rw [regletref15_Line.j0, if_pos rfl, if_pos (by omega), if_pos (by omega), hr]) ?_
        exact Ev.now _
    · have hd : decide (a < ((bsP L 0).length : Int)) = false := decide_eq_false (by omega)
      rw [hd]
      cases hq : sP L 0 a.toNat (0, 0, 0, false) with
      | inl q => rw [hq] at hs; have := hs.1; omega
      | inr q =>
        obtain ⟨a2, st2⟩ := q
        rw [hq] at hs
        obtain ⟨e1, e2⟩ := hs
        have hp := past false rfl
        have e3 : lineOf (.inr (a2, st2)) = (if a = (totP L : Int) then lstP L 0 (0, 0, 0, false) else (0, 0, 0, false)) := by
          obtain ⟨z1, z2, z3, zb⟩ := st2
          show (if a2 = 0 then (if zb = true then (z1, z2, z3, true) else (0, 0, 0, false)) else (0, 0, 0, false)) = _
          rw [← e2]
          by_cases c3 : a2 = 0
          · have ca : a = (totP L : Int) := by omega
            rw [if_pos c3, if_pos ca]
            have := lst_true (t := L) (p := 0) (st := (0, 0, 0, false)) (.inl rfl)
            rw [← e2] at this
            rcases this with e | e
            · rw [e]
              injection e with e1 e; injection e with e2 e; injection e with e3 e4
              rw [e4]; rfl
            · have e' : zb = true := e
              rw [e', if_pos rfl]
          · have ca : ¬ a = (totP L : Int) := by omega
            rw [if_neg c3, if_neg ca]
        rw [e3]
        exact hp
  · simp only [if_neg c]
    rw [if_pos (by omega)]
    have hp := past false rfl
    rw [if_neg (by omega)] at hp
    exact hp
end Go.Proofs.Ytiabffkfabmlpaa.PLocateSpots
