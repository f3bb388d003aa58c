import Derived.Test.YtblmcdpfhdamjaaStyPaintSeen
/-! Our own text: the reference's great numbers, by digits in the base of a thousand. -/
namespace Go.Proofs.Ytblmcdpfhdamjaa.PPaintSeen
set_option linter.unusedVariables false
open Go.RowKit Go.Proofs.YtblmcdpfhdamjaaW.PrintWords

def ci (l : List Nat) : List Int := l.map (fun n : Nat => (n : Int))
def val : List Nat → Nat
  | [] => 0
  | d :: l => d + 1000 * val l
def Dig (l : List Nat) : Prop := ∀ d ∈ l, d < 1000
/-- Digits without noughts at the end. -/
structure Cn (l : List Nat) : Prop where
  dig : Dig l
  top : l = [] ∨ 1000 ^ (l.length - 1) ≤ val l
theorem ci_len (l : List Nat) : (ci l).length = l.length := by unfold ci; rw [List.length_map]
theorem rd_ci (l : List Nat) (i : Nat) : rd (ci l) (i : Int) = ((l.getD i 0 : Nat) : Int) := by
  unfold rd ci
  rw [Int.toNat_natCast, List.getD_eq_getElem?_getD, List.getD_eq_getElem?_getD, List.getElem?_map]
  cases l[i]? <;> rfl
theorem ci_set (l : List Nat) (i v : Nat) : (ci l).set i (v : Int) = ci (l.set i v) := by unfold ci; rw [List.map_set]
theorem ci_take (l : List Nat) (i : Nat) : (ci l).take i = ci (l.take i) := by unfold ci; rw [List.map_take]
theorem ci_snoc (l : List Nat) (v : Nat) : ci l ++ [(v : Int)] = ci (l ++ [v]) := by unfold ci; rw [List.map_append]; rfl
theorem val_app : ∀ (l m : List Nat), val (l ++ m) = val l + 1000 ^ l.length * val m
  | [], m => by simp [val]
  | d :: l, m => by
    show d + 1000 * val (l ++ m) = d + 1000 * val l + 1000 ^ (l.length + 1) * val m
    rw [val_app l m, Nat.pow_succ, Nat.mul_add, Nat.mul_comm (1000 ^ l.length) 1000, Nat.mul_assoc, Nat.add_assoc]
theorem val_lt : ∀ {l : List Nat}, Dig l → val l < 1000 ^ l.length
  | [], _ => by simp [val]
  | d :: l, h => by
    have h1 := h d List.mem_cons_self
    have h2 := val_lt (l := l) (fun x hx => h x (List.mem_cons_of_mem _ hx))
    show d + 1000 * val l < 1000 ^ (l.length + 1)
    rw [Nat.pow_succ]
    omega
theorem val_split (l : List Nat) (n : Nat) (h : n ≤ l.length) : val l = val (l.take n) + 1000 ^ n * val (l.drop n) := by
  have := val_app (l.take n) (l.drop n)
  rw [List.take_append_drop, List.length_take, Nat.min_eq_left h] at this
  exact this
theorem val_zero : ∀ {l : List Nat}, (∀ d ∈ l, d = 0) → val l = 0
  | [], _ => rfl
  | d :: l, h => by
    show d + 1000 * val l = 0
    rw [h d List.mem_cons_self, val_zero (fun x hx => h x (List.mem_cons_of_mem _ hx))]
theorem getD_lt {l : List Nat} {i : Nat} (h : i < l.length) : l.getD i 0 = l[i] := by
  rw [List.getD_eq_getElem?_getD, List.getElem?_eq_getElem h]; rfl
theorem val_set : ∀ (l : List Nat) (p v : Nat), p < l.length → val (l.set p v) + 1000 ^ p * l.getD p 0 = val l + 1000 ^ p * v
  | [], p, v, h => by simp at h
  | d :: l, 0, v, h => by
    show v + 1000 * val l + 1000 ^ 0 * d = d + 1000 * val l + 1000 ^ 0 * v
    rw [Nat.pow_zero, Nat.one_mul, Nat.one_mul]; omega
  | d :: l, p + 1, v, h => by
    have ih := val_set l p v (by simpa using h)
    show d + 1000 * val (l.set p v) + 1000 ^ (p + 1) * (d :: l).getD (p + 1) 0 = d + 1000 * val l + 1000 ^ (p + 1) * v
    rw [List.getD_cons_succ, Nat.pow_succ, Nat.mul_comm (1000 ^ p) 1000, Nat.mul_assoc, Nat.mul_assoc]
    generalize 1000 ^ p * l.getD p 0 = A at *
    generalize 1000 ^ p * v = B at *
    omega
theorem getD_set {l : List Nat} {p q v : Nat} (h : p < l.length) : (l.set p v).getD q 0 = if p = q then v else l.getD q 0 := by
  rw [List.getD_eq_getElem?_getD, List.getD_eq_getElem?_getD, List.getElem?_set]
  by_cases e : p = q
  · subst e; rw [if_pos rfl, if_pos h, if_pos rfl]; rfl
  · rw [if_neg e, if_neg e]
theorem dig_getD {l : List Nat} (h : ∀ i, i < l.length → l.getD i 0 < 1000) : Dig l := fun d hd => by
  obtain ⟨i, hi, rfl⟩ := List.mem_iff_getElem.1 hd
  rw [← getD_lt hi]; exact h i hi
/-! ### bare -/
theorem bare_l0 {l : List Nat} (hd : Dig l) (hl : l.length ≤ 1000) : ∀ n : Nat, n ≤ l.length → (∀ d ∈ l.drop n, d = 0) → ∃ m, Ev (fun k => regletref01_bare.l0 k (ci l) (n : Int)) (ci m) ∧ Cn m ∧ val m = val l ∧ m.length ≤ l.length
  | 0, hn, hz => by
    refine ⟨[], ?_, ⟨(fun d h => by cases h), .inl rfl⟩, ?_, Nat.zero_le _⟩
    · refine Ev.step (fun k => ?_) (Ev.now _)
      rw [regletref01_bare.l0, if_neg (by omega), Option.bind_some, if_pos (by omega), if_pos (by omega), if_pos (by simp), Int.toNat_natCast, List.take_zero]
      rfl
    · rw [val_zero (l := l) hz]; rfl
  | n + 1, hn, hz => by
    have w : wrap64 (((n + 1 : Nat) : Int) - 1) = (n : Int) := by rw [v64 (by omega) (by omega)]; omega
    by_cases c : l.getD n 0 = 0
    · obtain ⟨m, m1, m2, m3, m4⟩ := bare_l0 hd hl n (by omega) (fun d h => by
        rw [List.drop_eq_getElem_cons (by omega)] at h
        rcases List.mem_cons.1 h with e | e
        · rw [e, ← getD_lt]; exact c
        · exact hz d e)
      refine ⟨m, Ev.step (fun k => ?_) m1, m2, m3, m4⟩
      rw [regletref01_bare.l0, if_pos (by omega), w, if_pos (by omega), if_pos (by rw [ci_len]; omega), rd_ci, c, if_pos (by rfl)]
    · have hvs := val_split l (n + 1) hn
      rw [val_zero (l := l.drop (n + 1)) hz, Nat.mul_zero, Nat.add_zero] at hvs
      have htl : (l.take (n + 1)).length = n + 1 := by rw [List.length_take]; omega
      refine ⟨l.take (n + 1), ?_, ⟨fun d h => hd d (List.mem_of_mem_take h), .inr ?_⟩, hvs.symm, by omega⟩
      · refine Ev.step (fun k => ?_) (Ev.now _)
        rw [regletref01_bare.l0, if_pos (by omega), w, if_pos (by omega), if_pos (by rw [ci_len]; omega), rd_ci, if_neg (by omega), Option.bind_some, if_pos (by omega), if_pos (by rw [ci_len]; omega), if_pos (by simp [ci_len]; omega), Int.toNat_natCast, ci_take]
        rfl
      · rw [htl, ← hvs, val_split l n (by omega), List.drop_eq_getElem_cons (by omega)]
        have e : val (l[n] :: l.drop (n + 1)) = l[n] + 1000 * val (l.drop (n + 1)) := rfl
        rw [getD_lt (by omega)] at c
        have h1 : 1000 ^ n * 1 ≤ 1000 ^ n * val (l[n] :: l.drop (n + 1)) := Nat.mul_le_mul_left _ (by rw [e]; omega)
        rw [Nat.add_sub_cancel]
        omega
theorem bare_ev {l : List Nat} (hd : Dig l) (hl : l.length ≤ 1000) : ∃ m, Ev (fun k => regletref01_bare.f k (ci l)) (ci m) ∧ Cn m ∧ val m = val l ∧ m.length ≤ l.length := by
  have := bare_l0 hd hl l.length (Nat.le_refl _) (fun d h => by rw [List.drop_length] at h; cases h)
  unfold regletref01_bare.f
  rw [ci_len]
  exact this
/-! ### Of -/
theorem of_l0 : ∀ (f n : Nat) (acc : List Nat), n < 1000 ^ f → n ≤ 1152921504606846976 → acc.length + f ≤ 1000 → ∃ m, Ev (fun k => regletref01_Of.l0 k (n : Int) (ci acc)) (ci (acc ++ m)) ∧ Cn m ∧ val m = n ∧ m.length ≤ f
  | f, n, acc, h, hn, ha => by
    by_cases c : n = 0
    · subst c
      refine ⟨[], ?_, ⟨(fun d h => by cases h), .inl rfl⟩, rfl, Nat.zero_le _⟩
      rw [List.append_nil]
      exact Ev.step (fun k => by rw [regletref01_Of.l0, if_neg (by omega)]) (Ev.now _)
    match f, h, ha with
    | 0, h, ha => simp at h; omega
    | f + 1, h, ha =>
      rw [Nat.pow_succ] at h
      obtain ⟨m, m1, m2, m3, m4⟩ := of_l0 f (n / 1000) (acc ++ [n % 1000]) ((Nat.div_lt_iff_lt_mul (by decide)).2 h) (Nat.le_trans (Nat.div_le_self _ _) hn) (by rw [List.length_append, List.length_singleton]; omega)
      have e1 : wrap64 (Int.tdiv (n : Int) 1000) = ((n / 1000 : Nat) : Int) := by
        rw [Int.tdiv_eq_ediv_of_nonneg (by omega), v64 (by omega) (by omega)]; rfl
      have e2 : Int.tmod (n : Int) 1000 = ((n % 1000 : Nat) : Int) := by rw [Int.tmod_eq_emod_of_nonneg (by omega)]; rfl
      refine ⟨n % 1000 :: m, ?_, ⟨?_, .inr ?_⟩, ?_, by simp; omega⟩
      · rw [List.append_assoc] at m1
        refine Ev.step (fun k => ?_) m1
        rw [regletref01_Of.l0, if_pos (by omega), if_pos (by rw [ci_len]; omega), e1, e2, ci_snoc]
      · intro d hd
        rcases List.mem_cons.1 hd with e | e
        · rw [e]; exact Nat.mod_lt _ (by decide)
        · exact m2.dig d e
      · show 1000 ^ m.length ≤ n % 1000 + 1000 * val m
        rw [m3]
        rcases m2.top with e | e
        · subst e
          show 1 ≤ _
          omega
        · have hp : m.length ≠ 0 := fun z => by
            have : m = [] := List.length_eq_zero_iff.1 z
            subst this
            have z0 : val [] = 0 := rfl
            rw [z0] at m3
            simp at e
            rw [z0] at e
            omega
          obtain ⟨q, hq⟩ : ∃ q, m.length = q + 1 := ⟨m.length - 1, by omega⟩
          rw [hq, Nat.add_sub_cancel, m3] at e
          rw [hq, Nat.pow_succ]
          omega
      · show n % 1000 + 1000 * val m = n
        rw [m3]; omega
theorem clamp1_f {x : Int} (h0 : -1152921504606846976 ≤ x) (h1 : x ≤ 1152921504606846976) : regletref01_Clamp.f x = some x := by
  unfold regletref01_Clamp.f
  rw [if_neg (by omega), if_neg (by omega)]
theorem clamp_f (x : Int) : regletref01_Clamp.f x = some (cl_ x) := by
  unfold regletref01_Clamp.f cl_ mx mn
  by_cases h1 : x > 1152921504606846976
  · rw [if_pos h1]; congr 1; (repeat' split) <;> omega
  · rw [if_neg h1]
    by_cases h2 : x < -1152921504606846976
    · rw [if_pos h2]; congr 1; (repeat' split) <;> omega
    · rw [if_neg h2]; congr 1; (repeat' split) <;> omega
theorem of_ev {x : Int} (h0 : -1152921504606846976 ≤ x) (h1 : x ≤ 1152921504606846976) : ∃ m, Ev (fun k => regletref01_Of.f k x) (ci m) ∧ Cn m ∧ val m = x.natAbs ∧ m.length ≤ 7 := by
  have hx : x.natAbs ≤ 1152921504606846976 := by omega
  obtain ⟨m, m1, m2, m3, m4⟩ := of_l0 7 x.natAbs [] (Nat.lt_of_le_of_lt hx (by decide)) hx (by simp)
  refine ⟨m, ?_, m2, m3, m4⟩
  rw [List.nil_append] at m1
  have hj : Ev (fun k => regletref01_Of.j0 k ((x.natAbs : Nat) : Int)) (ci m) := Ev.step (fun k => by rw [regletref01_Of.j0]; rfl) m1
  unfold regletref01_Of.f
  rw [clamp1_f h0 h1]
  simp only [Option.bind_some]
  by_cases c : x < 0
  · refine Ev.congr (fun k => ?_) hj
    rw [if_pos c, v64 (by omega) (by omega), show -x = ((x.natAbs : Nat) : Int) by omega]
  · refine Ev.congr (fun k => ?_) hj
    rw [if_neg c]
    congr 1; omega
/-! ### Compare -/
theorem cmp_l0 {a b : List Nat} (ha : Dig a) (hb : Dig b) (hl : a.length = b.length) (hs : a.length ≤ 1000) : ∀ n : Nat, n ≤ a.length → a.drop n = b.drop n →
    Ev (fun k => regletref01_Compare.l0 k (ci a) (ci b) ((n : Int) - 1)) (if val a < val b then -1 else if val b < val a then 1 else 0)
  | 0, hn, he => by
    rw [List.drop_zero, List.drop_zero] at he
    subst he
    rw [if_neg (Nat.lt_irrefl _), if_neg (Nat.lt_irrefl _)]
    exact Ev.step (fun k => by rw [regletref01_Compare.l0, if_neg (by omega)]) (Ev.now _)
  | n + 1, hn, he => by
    have e1 : ((n + 1 : Nat) : Int) - 1 = (n : Int) := by omega
    rw [e1]
    have hna : n < a.length := by omega
    have hnb : n < b.length := by omega
    have va := val_split a n (by omega)
    have vb := val_split b n (by omega)
    rw [List.drop_eq_getElem_cons hna] at va
    rw [List.drop_eq_getElem_cons hnb, ← he] at vb
    have va' : val (a[n] :: a.drop (n + 1)) = a[n] + 1000 * val (a.drop (n + 1)) := rfl
    have vb' : val (b[n] :: a.drop (n + 1)) = b[n] + 1000 * val (a.drop (n + 1)) := rfl
    rw [va'] at va
    rw [vb'] at vb
    have ta : val (a.take n) < 1000 ^ n := by
      have := val_lt (l := a.take n) (fun d h => ha d (List.mem_of_mem_take h))
      rw [List.length_take, Nat.min_eq_left (by omega)] at this; exact this
    have tb : val (b.take n) < 1000 ^ n := by
      have := val_lt (l := b.take n) (fun d h => hb d (List.mem_of_mem_take h))
      rw [List.length_take, Nat.min_eq_left (by omega)] at this; exact this
    have ra : rd (ci a) (n : Int) = ((a[n] : Nat) : Int) := by rw [rd_ci, getD_lt hna]
    have rb : rd (ci b) (n : Int) = ((b[n] : Nat) : Int) := by rw [rd_ci, getD_lt hnb]
    have hlt : ∀ x y z : Nat, x < y → 1000 ^ n * (x + z) + 1000 ^ n ≤ 1000 ^ n * (y + z) := fun x y z h => by
      have : 1000 ^ n * (x + z + 1) ≤ 1000 ^ n * (y + z) := Nat.mul_le_mul_left _ (by omega)
      rw [Nat.mul_add, Nat.mul_one] at this; exact this
    rcases Nat.lt_trichotomy a[n] b[n] with c | c | c
    · have h := hlt a[n] b[n] (1000 * val (a.drop (n + 1))) c
      rw [if_pos (by omega)]
      refine Ev.step (fun k => ?_) (Ev.now _)
      rw [regletref01_Compare.l0, if_pos (by omega), if_pos (by omega), if_pos (by rw [ci_len]; omega), if_pos (by rw [ci_len]; omega), ra, rb, if_pos (by omega)]
    · have ih := cmp_l0 ha hb hl hs n (by omega) (by rw [List.drop_eq_getElem_cons hna, List.drop_eq_getElem_cons hnb, c, he])
      refine Ev.step (fun k => ?_) ih
      rw [regletref01_Compare.l0, if_pos (by omega), if_pos (by omega), if_pos (by rw [ci_len]; omega), if_pos (by rw [ci_len]; omega), ra, rb, if_neg (by omega), if_neg (by omega), v64 (by omega) (by omega)]
    · have h := hlt b[n] a[n] (1000 * val (a.drop (n + 1))) c
      rw [if_neg (by omega), if_pos (by omega)]
      refine Ev.step (fun k => ?_) (Ev.now _)
      rw [regletref01_Compare.l0, if_pos (by omega), if_pos (by omega), if_pos (by rw [ci_len]; omega), if_pos (by rw [ci_len]; omega), ra, rb, if_neg (by omega), if_pos (by omega)]
theorem len_lt {a b : List Nat} (ha : Dig a) (hb : Cn b) (h : a.length < b.length) : val a < val b := by
  have h1 := val_lt ha
  rcases hb.top with e | e
  · subst e; simp at h
  · exact Nat.lt_of_lt_of_le h1 (Nat.le_trans (Nat.pow_le_pow_right (by decide) (by omega)) e)
theorem cmp_ev {a b : List Nat} (ha : Dig a) (hb : Dig b) (la : a.length ≤ 1000) (lb : b.length ≤ 1000) : Ev (fun k => regletref01_Compare.f k (ci a) (ci b)) (if val a < val b then -1 else if val b < val a then 1 else 0) := by
  obtain ⟨x, x1, x2, x3, x4⟩ := bare_ev ha la
  obtain ⟨y, y1, y2, y3, y4⟩ := bare_ev hb lb
  unfold regletref01_Compare.f
  refine Ev.bind x1 (Ev.bind y1 ?_)
  rw [← x3, ← y3, ci_len, ci_len]
  by_cases c : x.length = y.length
  · have := cmp_l0 x2.dig y2.dig c (by omega) x.length (Nat.le_refl _) (by rw [List.drop_length, c, List.drop_length])
    refine Ev.congr (fun k => ?_) this
    rw [if_pos (by omega), v64 (by omega) (by omega)]
  · by_cases d : x.length < y.length
    · have := len_lt x2.dig y2 d
      rw [if_pos this]
      exact Ev.congr (fun k => by rw [if_neg (by omega), if_pos (by omega)]) (Ev.now _)
    · have := len_lt y2.dig x2 (by omega)
      rw [if_neg (by omega), if_pos this]
      exact Ev.congr (fun k => by rw [if_neg (by omega), if_neg (by omega)]) (Ev.now _)
end Go.Proofs.Ytblmcdpfhdamjaa.PPaintSeen
