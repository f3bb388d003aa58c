import Derived.Test.YtblmcdpfhdamjaaBigPaintSeen
import Derived.Test.YtblmcdpfhdamjaaSclPaintSeen
/-! Our own text: the reference's products and quotients are those of the numbers. -/
namespace Go.Proofs.Ytblmcdpfhdamjaa.PPaintSeen
set_option linter.unusedVariables false
open Go.RowKit Go.Proofs.YtblmcdpfhdamjaaW.PrintWords

/-- No cell beyond B. -/
def Bd (l : List Nat) (B : Nat) : Prop := ∀ i, l.getD i 0 ≤ B
theorem w9 {n : Nat} (h : n ≤ 1000000000) : wrap64 (n : Int) = (n : Int) := v64 (by omega) (by omega)
/-- One step of a product's inner loop, on the cells. -/
def stp_ (l : List Nat) (p x : Nat) : List Nat := ((l.set p (l.getD p 0 + x)).set (p + 1) (l.getD (p + 1) 0 + (l.getD p 0 + x) / 1000)).set p ((l.getD p 0 + x) % 1000)
theorem stp_len (l : List Nat) (p x : Nat) : (stp_ l p x).length = l.length := by unfold stp_; simp
theorem stp_val {l : List Nat} {p x : Nat} (hp : p + 1 < l.length) : val (stp_ l p x) = val l + 1000 ^ p * x := by
  have h1 := val_set l p (l.getD p 0 + x) (by omega)
  have h2 := val_set (l.set p (l.getD p 0 + x)) (p + 1) (l.getD (p + 1) 0 + (l.getD p 0 + x) / 1000) (by rw [List.length_set]; exact hp)
  have h3 := val_set ((l.set p (l.getD p 0 + x)).set (p + 1) (l.getD (p + 1) 0 + (l.getD p 0 + x) / 1000)) p ((l.getD p 0 + x) % 1000) (by rw [List.length_set, List.length_set]; omega)
  rw [getD_set (by omega), if_neg (by omega)] at h2
  rw [getD_set (by rw [List.length_set]; exact hp), if_neg (by omega), getD_set (by omega), if_pos rfl] at h3
  unfold stp_
  generalize val (((l.set p (l.getD p 0 + x)).set (p + 1) (l.getD (p + 1) 0 + (l.getD p 0 + x) / 1000)).set p ((l.getD p 0 + x) % 1000)) = V3 at *
  generalize val ((l.set p (l.getD p 0 + x)).set (p + 1) (l.getD (p + 1) 0 + (l.getD p 0 + x) / 1000)) = V2 at *
  generalize val (l.set p (l.getD p 0 + x)) = V1 at *
  have hdm := Nat.div_add_mod (l.getD p 0 + x) 1000
  rw [Nat.pow_succ] at h2
  generalize 1000 ^ p = K at *
  generalize l.getD p 0 = o at *
  generalize l.getD (p + 1) 0 = o1 at *
  generalize (o + x) / 1000 = c at *
  generalize (o + x) % 1000 = r at *
  have e1 : K * (o + x) = K * o + K * x := Nat.mul_add _ _ _
  have e2 : K * 1000 * (o1 + c) = K * 1000 * o1 + 1000 * (K * c) := by rw [Nat.mul_add, Nat.mul_right_comm K 1000 c, Nat.mul_comm (K * c) 1000]
  have e3 : K * (o + x) = 1000 * (K * c) + K * r := by rw [← hdm, Nat.mul_add, Nat.mul_left_comm]
  rw [e1] at h1
  rw [e2] at h2
  rw [e3] at h3
  rw [e1] at e3
  generalize K * o = A at *
  generalize K * x = X at *
  generalize K * 1000 * o1 = O at *
  generalize K * c = C at *
  generalize K * r = R at *
  omega
theorem stp_bd {l : List Nat} {p x t : Nat} (h : Bd l (2000 * t)) (hx : x ≤ 998001) (ht : t ≤ 400) (hp : p + 1 < l.length) : Bd (stp_ l p x) (2000 * (t + 1)) ∧ (stp_ l p x).getD p 0 < 1000 := by
  have h0 := h p
  have h1 := h (p + 1)
  refine ⟨fun i => ?_, ?_⟩
  · unfold stp_
    rw [getD_set (by rw [List.length_set, List.length_set]; omega), getD_set (by rw [List.length_set]; exact hp), getD_set (by omega)]
    have hi := h i
    generalize l.getD i 0 = oi at *
    generalize l.getD p 0 = o at *
    generalize l.getD (p + 1) 0 = o1 at *
    (repeat' split) <;> omega
  · unfold stp_
    rw [getD_set (by rw [List.length_set, List.length_set]; omega), if_pos rfl]
    exact Nat.mod_lt _ (by decide)
/-- Behind the product: what a cell has too much goes to the next one. -/
theorem l2_step {l : List Nat} {i : Nat} (hp : i + 1 < l.length) (hl : l.length ≤ 30) (h0 : l.getD i 0 ≤ 10000000) (h1 : l.getD (i + 1) 0 ≤ 10000000) (k : Nat) :
    regletref01_Times.l2 (k + 1) (ci l) (i : Int) = regletref01_Times.l2 k (ci (stp_ l i 0)) ((i + 1 : Nat) : Int) := by
  have w1 : wrap64 ((i : Int) + 1) = ((i + 1 : Nat) : Int) := vup (by omega)
  have hs1 : (l.set i (l.getD i 0)) = l := by
    rw [getD_lt (by omega), List.set_getElem_self]
  have e0 : stp_ l i 0 = (l.set (i + 1) (l.getD (i + 1) 0 + l.getD i 0 / 1000)).set i (l.getD i 0 % 1000) := by
    unfold stp_
    simp only [Nat.add_zero]
    rw [hs1]
  have e1 : (l.set (i + 1) (l.getD (i + 1) 0 + l.getD i 0 / 1000)).getD i 0 = l.getD i 0 := by rw [getD_set hp, if_neg (by omega)]
  rw [e0, regletref01_Times.l2, w1, if_pos (by rw [ci_len]; omega), if_pos (by omega), if_pos (by omega), if_pos (by rw [ci_len]; omega), rd_ci, rd_ci]
  generalize l.getD i 0 = o at *
  generalize l.getD (i + 1) 0 = o1 at *
  have t1 : Int.tdiv (o : Int) 1000 = ((o / 1000 : Nat) : Int) := by rw [Int.tdiv_eq_ediv_of_nonneg (by omega)]; rfl
  have t2 : Int.tmod (o : Int) 1000 = ((o % 1000 : Nat) : Int) := by rw [Int.tmod_eq_emod_of_nonneg (by omega)]; rfl
  have e2 : (o1 : Int) + ((o / 1000 : Nat) : Int) = ((o1 + o / 1000 : Nat) : Int) := rfl
  rw [t1, w9 (n := o / 1000) (by omega), e2, w9 (n := o1 + o / 1000) (by omega), Int.toNat_natCast, ci_set, Option.bind_some, rd_ci, e1, t2, Int.toNat_natCast, ci_set]
theorem last_z {l : List Nat} {n S : Nat} (hl : l.length = n + 1) (hv : val l = S) (hS : S < 1000 ^ n) : l.getD n 0 = 0 := by
  have hsp := val_split l n (by omega)
  have hlast : l.drop n = [l.getD n 0] := by
    rw [List.drop_eq_getElem_cons (by omega), getD_lt (by omega), List.drop_of_length_le (by omega)]
  have e : val [l.getD n 0] = l.getD n 0 := by show l.getD n 0 + 1000 * 0 = _; omega
  rw [hlast, e] at hsp
  rcases Nat.eq_zero_or_pos (l.getD n 0) with z | z
  · exact z
  · have h1 : 1000 ^ n * 1 ≤ 1000 ^ n * l.getD n 0 := Nat.mul_le_mul_left _ z
    rw [Nat.mul_one] at h1
    exact absurd hS (Nat.not_lt.2 (by rw [← hv, hsp]; exact Nat.le_trans h1 (Nat.le_add_left _ _)))
theorem stp_keep {l : List Nat} {i j : Nat} (hp : i + 1 < l.length) (hj : j < i) : (stp_ l i 0).getD j 0 = l.getD j 0 := by
  unfold stp_
  rw [getD_set (by rw [List.length_set, List.length_set]; omega), if_neg (by omega), getD_set (by rw [List.length_set]; exact hp), if_neg (by omega), getD_set (by omega), if_neg (by omega)]
theorem small_ {x t : Nat} (h : x ≤ 2000 * t) (ht : t ≤ 400) : x ≤ 10000000 := by omega
theorem times_l2 {n S : Nat} (hn : n ≤ 20) (hS : S < 1000 ^ n) : ∀ (d i t : Nat) (l : List Nat), i + d = n → l.length = n + 1 → Bd l (2000 * t) → t + d ≤ 400 → val l = S → (∀ j, j < i → l.getD j 0 < 1000) →
    ∃ m, Ev (fun k => regletref01_Times.l2 k (ci l) (i : Int)) (ci m) ∧ Cn m ∧ val m = S ∧ m.length ≤ n + 1
  | 0, i, t, l, hi, hl, hb, ht, hv, hd => by
    have hz := last_z hl hv hS
    clear hS
    have hdig : Dig l := dig_getD (fun j hj => by
      rcases Nat.lt_or_ge j n with f | f
      · exact hd j (by omega)
      · have : j = n := by omega
        subst this; omega)
    have hl2 : l.length ≤ 1000 := by omega
    obtain ⟨m, m1, m2, m3, m4⟩ := bare_ev hdig hl2
    refine ⟨m, ?_, m2, m3.trans hv, by rw [← hl]; exact m4⟩
    have w1 : wrap64 ((i : Int) + 1) = ((i + 1 : Nat) : Int) := vup (by omega)
    have hi1 : ¬ ((i + 1 : Nat) : Int) < ((ci l).length : Int) := by rw [ci_len]; omega
    refine Ev.step (fun k => by rw [regletref01_Times.l2, w1, if_neg hi1]) (Ev.bind m1 (Ev.now _))
  | d + 1, i, t, l, hi, hl, hb, ht, hv, hd => by
    have hp : i + 1 < l.length := by rw [hl, ← hi]; clear hS; omega
    have h0 := small_ (hb i) (Nat.le_trans (Nat.le_add_right _ _) ht)
    have h1 := small_ (hb (i + 1)) (Nat.le_trans (Nat.le_add_right _ _) ht)
    have ht1 : t + 1 + d ≤ 400 := by rw [Nat.add_assoc, Nat.add_comm 1 d]; exact ht
    obtain ⟨b1, b2⟩ := stp_bd (x := 0) hb (by decide) (Nat.le_trans (Nat.le_add_right _ _) ht) hp
    have hv2 := stp_val (x := 0) hp
    rw [Nat.mul_zero, Nat.add_zero] at hv2
    obtain ⟨m, m1, m2, m3, m4⟩ := times_l2 hn hS d (i + 1) (t + 1) (stp_ l i 0) (by rw [Nat.add_assoc, Nat.add_comm 1 d]; exact hi) (by rw [stp_len]; exact hl) b1 ht1 (hv2.trans hv) (fun j hj => by
      rcases Nat.lt_or_ge j i with f | f
      · rw [stp_keep hp f]; exact hd j f
      · have : j = i := Nat.le_antisymm (Nat.le_of_lt_succ hj) f
        subst this; exact b2)
    refine ⟨m, Ev.step (fun k => ?_) m1, m2, m3, m4⟩
    exact l2_step hp (by rw [hl]; exact Nat.le_trans (Nat.succ_le_succ hn) (by decide)) h0 h1 k
theorem val_take1 {b : List Nat} {j : Nat} (h : j < b.length) : val (b.take (j + 1)) = val (b.take j) + 1000 ^ j * b.getD j 0 := by
  have h1 := val_split (b.take (j + 1)) j (by rw [List.length_take]; omega)
  rw [List.take_take, Nat.min_eq_left (by omega), List.drop_take, show j + 1 - j = 1 by omega, List.drop_eq_getElem_cons h] at h1
  rw [h1, getD_lt h]
  show _ + 1000 ^ j * (b[j] + 1000 * 0) = _
  rw [Nat.mul_zero, Nat.add_zero]
theorem l1_step {a b l : List Nat} {i j : Nat} (ha : a.length ≤ 10) (hb : b.length ≤ 10) (hi : i < a.length) (hj : j < b.length) (hl : l.length = a.length + b.length + 1) (hx : a.getD i 0 * b.getD j 0 ≤ 998001) (h0 : l.getD (i + j) 0 ≤ 10000000) (h1 : l.getD (i + j + 1) 0 ≤ 10000000) (k : Nat) :
    regletref01_Times.l1 (k + 1) (ci a) (ci b) (ci l) (i : Int) (j : Int) = regletref01_Times.l1 k (ci a) (ci b) (ci (stp_ l (i + j) (a.getD i 0 * b.getD j 0))) (i : Int) ((j + 1 : Nat) : Int) := by
  have hp : i + j + 1 < l.length := by omega
  have hij : i + j < l.length := by omega
  have n1 : ¬ i + j = i + j + 1 := by omega
  have n2 : ¬ i + j + 1 = i + j := by omega
  have c1 : (j : Int) < ((ci b).length : Int) := by rw [ci_len]; exact Int.ofNat_lt.2 hj
  have c2 : ((i + j : Nat) : Int) < ((ci l).length : Int) := by rw [ci_len]; exact Int.ofNat_lt.2 hij
  have c3 : (i : Int) < ((ci a).length : Int) := by rw [ci_len]; exact Int.ofNat_lt.2 hi
  have c4 : ((i + j + 1 : Nat) : Int) < ((ci l).length : Int) := by rw [ci_len]; exact Int.ofNat_lt.2 hp
  have g1 : ∀ v, (l.set (i + j) v).getD (i + j + 1) 0 = l.getD (i + j + 1) 0 := fun v => by rw [getD_set hij, if_neg n1]
  have g2 : ∀ v, (l.set (i + j) v).getD (i + j) 0 = v := fun v => by rw [getD_set hij, if_pos rfl]
  have g3 : ∀ v u, ((l.set (i + j) v).set (i + j + 1) u).getD (i + j) 0 = v := fun v u => by rw [getD_set (by rw [List.length_set]; exact hp), if_neg n2, g2]
  have hx2 : a.getD i 0 * b.getD j 0 ≤ 1000000000 := Nat.le_trans hx (by decide)
  have hv : l.getD (i + j) 0 + a.getD i 0 * b.getD j 0 ≤ 20000000 := Nat.add_le_add h0 (Nat.le_trans hx (show 998001 ≤ 10000000 by decide))
  have px := pn (a.getD i 0) (b.getD j 0)
  have wj : wrap64 ((j : Int) + 1) = ((j + 1 : Nat) : Int) := vup (by omega)
  have w1 : wrap64 (((i + j : Nat) : Int) + 1) = ((i + j + 1 : Nat) : Int) := vup (by clear wj; omega)
  have w0 : wrap64 ((i : Int) + (j : Int)) = ((i + j : Nat) : Int) := w9 (n := i + j) (by clear wj w1; omega)
  unfold stp_
  rw [regletref01_Times.l1, if_pos c1, w0, if_pos (Int.natCast_nonneg _), if_pos c2, if_pos (Int.natCast_nonneg _), if_pos c3, if_pos (Int.natCast_nonneg _), rd_ci, rd_ci, rd_ci, px, wj]
  clear w0 wj c1 c2 c3 hx h0 hi hj hl ha hb hp hij n1 n2 px
  have ax := an (l.getD (i + j) 0) (a.getD i 0 * b.getD j 0)
  rw [w9 hx2, ax, w9 (Nat.le_trans hv (by decide)), Int.toNat_natCast, ci_set, Option.bind_some, w1, if_pos (Int.natCast_nonneg _), if_pos c4, rd_ci, rd_ci, g1, g2]
  clear ax hx2 w1 c4 g1 g2
  generalize l.getD (i + j) 0 + a.getD i 0 * b.getD j 0 = v at *
  generalize l.getD (i + j + 1) 0 = o1 at *
  have t1 : Int.tdiv (v : Int) 1000 = ((v / 1000 : Nat) : Int) := by rw [Int.tdiv_eq_ediv_of_nonneg (Int.natCast_nonneg v)]; rfl
  have t2 : Int.tmod (v : Int) 1000 = ((v % 1000 : Nat) : Int) := by rw [Int.tmod_eq_emod_of_nonneg (Int.natCast_nonneg v)]; rfl
  have hc : v / 1000 ≤ 20000000 := Nat.le_trans (Nat.div_le_self _ _) hv
  rw [t1, w9 (Nat.le_trans hc (by decide)), an o1, w9 (Nat.le_trans (Nat.add_le_add h1 hc) (by decide)), Int.toNat_natCast, ci_set, Option.bind_some, rd_ci, g3, t2, ci_set]
theorem l1_val {a b : List Nat} {i j : Nat} {V x : Nat} (hj : j < b.length) (hx : x = a.getD i 0 * b.getD j 0) (hv : V = val (a.take i) * val b + 1000 ^ i * (a.getD i 0 * val (b.take j))) :
    V + 1000 ^ (i + j) * x = val (a.take i) * val b + 1000 ^ i * (a.getD i 0 * val (b.take (j + 1))) := by
  rw [hv, hx, val_take1 hj, Nat.pow_add, Nat.mul_add (a.getD i 0), Nat.mul_add (1000 ^ i), Nat.add_assoc]
  congr 1
  congr 1
  rw [Nat.mul_assoc, Nat.mul_left_comm (1000 ^ j)]
theorem times_l1 {a b : List Nat} (da : Dig a) (db : Dig b) (ha : a.length ≤ 10) (hb : b.length ≤ 10) {i : Nat} (hi : i < a.length) : ∀ (d j t : Nat) (l : List Nat), j + d = b.length → l.length = a.length + b.length + 1 → Bd l (2000 * t) → t + d ≤ 400 →
    val l = val (a.take i) * val b + 1000 ^ i * (a.getD i 0 * val (b.take j)) →
    ∃ l' : List Nat, l'.length = a.length + b.length + 1 ∧ Bd l' (2000 * (t + d)) ∧ val l' = val (a.take (i + 1)) * val b ∧ ∀ R, Ev (fun k => regletref01_Times.l0 k (ci a) (ci b) (ci l') ((i + 1 : Nat) : Int)) R → Ev (fun k => regletref01_Times.l1 k (ci a) (ci b) (ci l) (i : Int) (j : Int)) R
  | 0, j, t, l, hj, hl, hbd, ht, hv => by
    have e : j = b.length := hj
    subst e
    refine ⟨l, hl, hbd, by rw [hv, List.take_length, val_take1 hi, Nat.add_mul, Nat.mul_assoc], fun R hR => ?_⟩
    have wi : wrap64 ((i : Int) + 1) = ((i + 1 : Nat) : Int) := vup (by clear hv hR; omega)
    have c : ¬ ((b.length : Nat) : Int) < ((ci b).length : Int) := by rw [ci_len]; exact Int.lt_irrefl _
    refine Ev.step (fun k => ?_) hR
    rw [regletref01_Times.l1, if_neg c, wi]
  | d + 1, j, t, l, hj, hl, hbd, ht, hv => by
    have hjb : j < b.length := by rw [← hj]; exact Nat.lt_add_of_pos_right (Nat.succ_pos d)
    have hai : a.getD i 0 < 1000 := by rw [getD_lt hi]; exact da _ (List.getElem_mem hi)
    have hbj : b.getD j 0 < 1000 := by rw [getD_lt hjb]; exact db _ (List.getElem_mem hjb)
    have hx : a.getD i 0 * b.getD j 0 ≤ 998001 := Nat.mul_le_mul (Nat.le_of_lt_succ hai) (Nat.le_of_lt_succ hbj)
    have ht0 : t ≤ 400 := Nat.le_trans (Nat.le_add_right _ _) ht
    have h0 := small_ (hbd (i + j)) ht0
    have h1 := small_ (hbd (i + j + 1)) ht0
    have hp : i + j + 1 < l.length := by rw [hl]; exact Nat.succ_lt_succ (Nat.add_lt_add hi hjb)
    obtain ⟨b1, b2⟩ := stp_bd hbd hx ht0 hp
    have hv2 := stp_val (x := a.getD i 0 * b.getD j 0) hp
    have et : t + 1 + d = t + (d + 1) := by rw [Nat.add_assoc, Nat.add_comm 1 d]
    obtain ⟨l', y1, y2, y3, y4⟩ := times_l1 da db ha hb hi d (j + 1) (t + 1) (stp_ l (i + j) (a.getD i 0 * b.getD j 0)) (by rw [Nat.add_assoc, Nat.add_comm 1 d]; exact hj) (by rw [stp_len]; exact hl) b1 (by rw [et]; exact ht) (by rw [hv2]; exact l1_val hjb rfl hv)
    rw [et] at y2
    exact ⟨l', y1, y2, y3, fun R hR => Ev.step (fun k => l1_step ha hb hi hjb hl hx h0 h1 k) (y4 R hR)⟩
theorem times_l0 {a b : List Nat} (da : Dig a) (db : Dig b) (ha : a.length ≤ 10) (hb : b.length ≤ 10) : ∀ (d i t : Nat) (l : List Nat), i + d = a.length → l.length = a.length + b.length + 1 → Bd l (2000 * t) → t ≤ 10 * i → val l = val (a.take i) * val b →
    ∃ m, Ev (fun k => regletref01_Times.l0 k (ci a) (ci b) (ci l) (i : Int)) (ci m) ∧ Cn m ∧ val m = val a * val b ∧ m.length ≤ a.length + b.length + 1
  | 0, i, t, l, hi, hl, hbd, ht, hv => by
    have e : i = a.length := hi
    subst e
    rw [List.take_length] at hv
    have hS : val a * val b < 1000 ^ (a.length + b.length) := by
      rw [Nat.pow_add]
      exact Nat.mul_lt_mul'' (val_lt da) (val_lt db)
    have hn : a.length + b.length ≤ 20 := Nat.add_le_add ha hb
    have ht2 : t + (a.length + b.length) ≤ 400 := by clear hS hv; omega
    obtain ⟨m, m1, m2, m3, m4⟩ := times_l2 (n := a.length + b.length) (S := val a * val b) hn hS (a.length + b.length) 0 t l (Nat.zero_add _) hl hbd ht2 hv (fun j hj => absurd hj (Nat.not_lt_zero j))
    have c : ¬ ((a.length : Nat) : Int) < ((ci a).length : Int) := by rw [ci_len]; exact Int.lt_irrefl _
    refine ⟨m, Ev.step (fun k => ?_) m1, m2, m3, m4⟩
    rw [regletref01_Times.l0, if_neg c]
    rfl
  | d + 1, i, t, l, hi, hl, hbd, ht, hv => by
    have hia : i < a.length := by rw [← hi]; exact Nat.lt_add_of_pos_right (Nat.succ_pos d)
    -- the next round's cells are told by the last state of this one
    have run : ∀ (l' : List Nat), l'.length = a.length + b.length + 1 → Bd l' (2000 * (t + b.length)) → val l' = val (a.take (i + 1)) * val b → ∃ m, Ev (fun k => regletref01_Times.l0 k (ci a) (ci b) (ci l') ((i + 1 : Nat) : Int)) (ci m) ∧ Cn m ∧ val m = val a * val b ∧ m.length ≤ a.length + b.length + 1 :=
      fun l' x1 x2 x4 => times_l0 da db ha hb d (i + 1) (t + b.length) l' (by rw [Nat.add_assoc, Nat.add_comm 1 d]; exact hi) x1 x2 (by clear hv x4; omega) x4
    have hv0 : val l = val (a.take i) * val b + 1000 ^ i * (a.getD i 0 * val (b.take 0)) := by
      have z : val (b.take 0) = 0 := rfl
      rw [hv, z, Nat.mul_zero, Nat.mul_zero, Nat.add_zero]
    -- the state behind the inner loop
    obtain ⟨l', y1, y2, y3, y4⟩ : ∃ l' : List Nat, l'.length = a.length + b.length + 1 ∧ Bd l' (2000 * (t + b.length)) ∧ val l' = val (a.take (i + 1)) * val b ∧ ∀ R, Ev (fun k => regletref01_Times.l0 k (ci a) (ci b) (ci l') ((i + 1 : Nat) : Int)) R → Ev (fun k => regletref01_Times.l1 k (ci a) (ci b) (ci l) (i : Int) ((0 : Nat) : Int)) R :=
      times_l1 da db ha hb hia b.length 0 t l (Nat.zero_add _) hl hbd (by clear hv hv0 run; omega) hv0
    obtain ⟨m, m1, m2, m3, m4⟩ := run l' y1 y2 y3
    refine ⟨m, Ev.step (fun k => ?_) (y4 _ m1), m2, m3, m4⟩
    have c : (i : Int) < ((ci a).length : Int) := by rw [ci_len]; omega
    rw [regletref01_Times.l0, if_pos c]
    rfl
theorem times_ev {a b : List Nat} (da : Dig a) (db : Dig b) (ha : a.length ≤ 10) (hb : b.length ≤ 10) : ∃ m, Ev (fun k => regletref01_Times.f k (ci a) (ci b)) (ci m) ∧ Cn m ∧ val m = val a * val b ∧ m.length ≤ a.length + b.length + 1 := by
  have hz : ∀ n : Nat, ∀ i, (List.replicate n 0).getD i 0 = 0 := fun n i => by
    rw [List.getD_eq_getElem?_getD, List.getElem?_replicate]
    split <;> rfl
  have hv : ∀ n : Nat, val (List.replicate n 0) = 0 := fun n => val_zero (fun d hd => (List.mem_replicate.1 hd).2)
  have hc : ∀ n : Nat, List.replicate n (0 : Int) = ci (List.replicate n 0) := fun n => by unfold ci; rw [List.map_replicate]; rfl
  obtain ⟨m, m1, m2, m3, m4⟩ := times_l0 da db ha hb a.length 0 0 (List.replicate (a.length + b.length + 1) 0) (Nat.zero_add _) (List.length_replicate) (fun i => by rw [hz]; exact Nat.zero_le _) (Nat.zero_le _) (by
    have z : val (a.take 0) = 0 := rfl
    rw [hv, z, Nat.zero_mul])
  refine ⟨m, ?_, m2, m3, m4⟩
  have e1 : wrap64 (wrap64 (((ci a).length : Int) + ((ci b).length : Int)) + 1) = ((a.length + b.length + 1 : Nat) : Int) := by
    rw [ci_len, ci_len, an, w9 (by omega), vup (by omega)]
  have e2 : a.length + b.length + 1 ≤ 35184372088832 := Nat.le_trans (Nat.succ_le_succ (Nat.add_le_add ha hb)) (by decide)
  unfold regletref01_Times.f
  rw [e1]
  refine Ev.congr (fun k => ?_) m1
  rw [if_pos (Int.natCast_nonneg _), Int.toNat_natCast, if_pos e2, hc]
  rfl
/-- The greatest number up to 2^60 whose product with b isn't above a. -/
theorem quo_l0 {a b : List Nat} {P C : Nat} (ha : Cn a) (hb : Cn b) (la : a.length ≤ 30) (lb : b.length ≤ 10) (va : val a = P) (vb : val b = C) (hC : 1 ≤ C) : ∀ (d lo hi : Nat), hi - lo ≤ d → lo ≤ hi → hi ≤ top_ → lo * C ≤ P → (hi = top_ ∨ P < (hi + 1) * C) →
    Ev (fun k => regletref01_Quotient.l0 k (ci a) (ci b) (lo : Int) (hi : Int)) (((min (P / C) top_ : Nat) : Int), decide (min (P / C) top_ * C = P))
  | d, lo, hi, hd, h1, h2, h3, h4 => by
    have h2' : hi ≤ 1152921504606846976 := h2
    by_cases c : lo < hi
    case neg =>
      have e : lo = hi := Nat.le_antisymm h1 (Nat.not_lt.1 c)
      subst e
      have hq : min (P / C) top_ = lo := by
        rcases h4 with h | h
        · subst h
          exact Nat.min_eq_right ((Nat.le_div_iff_mul_le hC).2 h3)
        · have : P / C = lo := Nat.le_antisymm (Nat.le_of_lt_succ ((Nat.div_lt_iff_lt_mul hC).2 h)) ((Nat.le_div_iff_mul_le hC).2 h3)
          rw [this]
          exact Nat.min_eq_left h2
      rw [hq]
      obtain ⟨x, x1, x2, x3, x4⟩ := of_ev (x := (lo : Int)) (by omega) (by omega)
      rw [Int.natAbs_natCast] at x3
      obtain ⟨m, m1, m2, m3, m4⟩ := times_ev x2.dig hb.dig (Nat.le_trans x4 (by decide)) lb
      have hcm := cmp_ev m2.dig ha.dig (by omega) (by omega)
      rw [m3, x3, va, vb] at hcm
      refine Ev.step (fun k => by rw [regletref01_Quotient.l0, if_neg (Int.lt_irrefl _)]) (Ev.bind x1 (Ev.bind m1 (Ev.bind hcm ?_)))
      refine Ev.congr (fun k => ?_) (Ev.now _)
      congr 2
      rcases Nat.lt_trichotomy (lo * C) P with g | g | g
      · rw [if_pos g, decide_eq_false (Nat.ne_of_lt g)]; rfl
      · rw [g, if_neg (Nat.lt_irrefl _), if_neg (Nat.lt_irrefl _), decide_eq_true rfl]; rfl
      · exact absurd h3 (Nat.not_le.2 g)
    match d, hd with
    | 0, hd => exact absurd c (by omega)
    | d + 1, hd =>
      obtain ⟨mid, hmid, hm1, hm2⟩ : ∃ mid : Nat, wrap64 ((lo : Int) + wrap64 (Int.tdiv (wrap64 (wrap64 ((hi : Int) - (lo : Int)) + 1)) 2)) = (mid : Int) ∧ lo < mid ∧ mid ≤ hi := by
        refine ⟨lo + (hi - lo + 1) / 2, ?_, by omega, by omega⟩
        rw [v64 (x := (hi : Int) - (lo : Int)) (by omega) (by omega), v64 (x := (hi : Int) - (lo : Int) + 1) (by omega) (by omega), Int.tdiv_eq_ediv_of_nonneg (by omega), v64 (x := ((hi : Int) - (lo : Int) + 1) / 2) (by omega) (by omega), v64 (by omega) (by omega)]
        omega
      have hmt : mid ≤ 1152921504606846976 := Nat.le_trans hm2 h2'
      obtain ⟨x, x1, x2, x3, x4⟩ := of_ev (x := (mid : Int)) (by omega) (by omega)
      rw [Int.natAbs_natCast] at x3
      obtain ⟨m, m1, m2, m3, m4⟩ := times_ev x2.dig hb.dig (Nat.le_trans x4 (by decide)) lb
      have hcm := cmp_ev m2.dig ha.dig (by omega) (by omega)
      rw [m3, x3, va, vb] at hcm
      refine Ev.step (fun k => by rw [regletref01_Quotient.l0, if_pos (Int.ofNat_lt.2 c), hmid]) (Ev.bind x1 (Ev.bind m1 (Ev.bind hcm ?_)))
      by_cases g : P < mid * C
      · have ih := quo_l0 ha hb la lb va vb hC d lo (mid - 1) (by omega) (by omega) (by show mid - 1 ≤ 1152921504606846976; omega) h3 (.inr (by rw [Nat.sub_add_cancel (by omega)]; exact g))
        refine Ev.congr (fun k => ?_) ih
        rw [if_neg (Nat.not_lt.2 (Nat.le_of_lt g)), if_pos g, if_neg (by decide), v64 (x := (mid : Int) - 1) (by omega) (by omega), show (mid : Int) - 1 = ((mid - 1 : Nat) : Int) by omega]
      · have ih := quo_l0 ha hb la lb va vb hC d mid hi (by omega) hm2 h2 (Nat.not_lt.1 g) h4
        refine Ev.congr (fun k => ?_) ih
        rw [if_neg g]
        split
        · rw [if_pos (by decide)]
        · rw [if_pos (by decide)]
theorem rscale_ev {part num den : Int} (h0 : 0 ≤ part) (h1 : part ≤ 1048576) : Ev (fun k => regletref15_scale.f k part num den) (scl_ part num den) := by
  unfold regletref15_scale.f scl_
  by_cases c : den ≤ 0
  · rw [if_pos c]
    exact Ev.congr (fun k => by rw [if_pos c]) (Ev.now _)
  rw [if_neg c]
  refine Ev.congr (fun k => by rw [if_neg c]) ?_
  suffices h : Ev (fun k => regletref01_MulDiv.f k part num den) (sclP (part.toNat * (cl_ num).natAbs) (cl_ den).toNat (decide (num < 0)), true) by
    exact Ev.bind h (Ev.now _)
  have hcp : cl_ part = part := cl_id (by omega) (by omega)
  have hd1 : 1 ≤ cl_ den := by unfold cl_ mx mn; (repeat' split) <;> omega
  have hdr := cl_rng den
  have hnr := cl_rng num
  have hns : (cl_ num < 0) = (num < 0) := by unfold cl_ mx mn; (repeat' split) <;> exact propext ⟨fun h => by omega, fun h => by omega⟩
  obtain ⟨xa, a1, a2, a3, a4⟩ := of_ev (x := part) (by omega) (by omega)
  obtain ⟨xb, b1, b2, b3, b4⟩ := of_ev hnr.1 hnr.2
  obtain ⟨xc, c1, c2, c3, c4⟩ := of_ev hdr.1 hdr.2
  obtain ⟨m, m1, m2, m3, m4⟩ := times_ev a2.dig b2.dig (Nat.le_trans a4 (by decide)) (Nat.le_trans b4 (by decide))
  rw [show part.natAbs = part.toNat by omega] at a3
  rw [show (cl_ den).natAbs = (cl_ den).toNat by omega] at c3
  have hq := quo_l0 m2 c2 (by omega) (Nat.le_trans c4 (by decide)) rfl rfl (by rw [c3]; omega) top_ 0 top_ (Nat.sub_le _ _) (Nat.zero_le _) (Nat.le_refl _) (by rw [Nat.zero_mul]; exact Nat.zero_le _) (.inl rfl)
  rw [m3, a3, b3, c3] at hq
  unfold regletref01_MulDiv.f
  simp only [clamp_f, Option.bind_some, hcp]
  refine Ev.congr (fun k => by rw [if_neg (show ¬ cl_ den = 0 by omega)]) (Ev.bind a1 (Ev.bind b1 (Ev.bind m1 (Ev.bind c1 (Ev.bind hq ?_)))))
  have hCp : 0 < (cl_ den).toNat := by omega
  have hnd : ¬ cl_ den < 0 := by omega
  refine Ev.congr (fun k => by rw [if_neg (show ¬ part < 0 by omega)]) ?_
  clear hq m1 m2 m3 m4 a1 a2 a3 a4 b1 b2 b3 b4 c1 c2 c3 c4
  generalize part.toNat * (cl_ num).natAbs = P at *
  generalize (cl_ den).toNat = C at *
  have hmin : min (P / C) top_ ≤ 1152921504606846976 := Nat.min_le_right _ _
  have j1 : ∀ (n : Int) (ex : Bool) (b : Int) (R : Int × Bool), Ev (fun k => regletref01_MulDiv.j2 k n ex b) R → Ev (fun k => regletref01_MulDiv.j1 k (cl_ den) n ex b) R := fun n ex b R h =>
    Ev.step (fun k => by rw [regletref01_MulDiv.j1, if_neg hnd]) h
  by_cases hn : num < 0
  · rw [decide_eq_true hn]
    refine Ev.step (g := fun k => regletref01_MulDiv.j0 k (cl_ num) (cl_ den) ((min (P / C) top_ : Nat) : Int) (decide (min (P / C) top_ * C = P)) 0) (f := fun k => regletref01_MulDiv.j1 k (cl_ den) ((min (P / C) top_ : Nat) : Int) (decide (min (P / C) top_ * C = P)) 1) (fun k => ?_) (j1 _ _ _ _ ?_)
    · rw [regletref01_MulDiv.j0, if_pos (by rw [hns]; exact hn), v64 (x := 0 + 1) (by decide) (by decide)]; rfl
    have hdm := Nat.div_add_mod P C
    have hml := Nat.mod_lt P hCp
    rw [Nat.mul_comm] at hdm
    have h2 : ¬ Int.tmod 1 2 = 0 := by decide
    by_cases hex : min (P / C) top_ * C = P
    · have e1 : P / C = min (P / C) top_ := by
        have := Nat.mul_div_cancel (min (P / C) top_) hCp
        rw [hex] at this
        exact this
      have e2 : P % C = 0 := by rw [← e1] at hex; omega
      have e3 : sclP P C true = -((min (P / C) top_ : Nat) : Int) := by unfold sclP; rw [if_pos rfl, if_pos e2]
      rw [e3, decide_eq_true hex]
      generalize min (P / C) top_ = n at *
      by_cases z : (n : Int) = 0
      · refine Ev.step (fun k => by rw [regletref01_MulDiv.j2, if_neg h2, if_pos z]) ?_
        refine Ev.step (fun k => ?_) (Ev.now _)
        rw [regletref01_MulDiv.j3, if_pos rfl, z]; rfl
      · refine Ev.step (fun k => by rw [regletref01_MulDiv.j2, if_neg h2, if_neg z]) ?_
        refine Ev.step (fun k => ?_) (Ev.now _)
        rw [regletref01_MulDiv.j3, if_neg (by decide), if_pos rfl, v64 (by omega) (by omega)]
    · have e4 : cl_ (-((min (P / C) top_ : Nat) : Int) - 1) = sclP P C true := by
        unfold sclP
        rw [if_pos rfl]
        have ht : top_ = 1152921504606846976 := rfl
        rcases Nat.lt_or_ge (P / C) top_ with g | g
        · have e5 : min (P / C) top_ = P / C := Nat.min_eq_left (Nat.le_of_lt g)
          have e6 : min (P / C + 1) top_ = P / C + 1 := Nat.min_eq_left g
          have e7 : ¬ P % C = 0 := fun z => hex (by rw [e5]; omega)
          rw [e5, e6, if_neg e7]
          have g' : P / C < 1152921504606846976 := g
          clear hdm hml hex e5 e6 e7 g
          generalize P / C = q at *
          clear hmin ht
          have e8 : cl_ (-(q : Int) - 1) = -(q : Int) - 1 := cl_id (by omega) (by omega)
          rw [e8]
          omega
        · have e5 : min (P / C) top_ = top_ := Nat.min_eq_right g
          have e6 : min (P / C + 1) top_ = top_ := Nat.min_eq_right (Nat.le_succ_of_le g)
          rw [e5, e6]
          have e7 : cl_ (-((top_ : Nat) : Int) - 1) = -((top_ : Nat) : Int) := by decide
          rw [e7]
          split <;> rfl
      rw [decide_eq_false hex, ← e4]
      generalize min (P / C) top_ = n at *
      clear e4 hdm hml hex
      have hj3 : Ev (fun k => regletref01_MulDiv.j3 k (n : Int) false false) (cl_ (-(n : Int) - 1), true) := by
        refine Ev.step (fun k => ?_) (Ev.now _)
        rw [regletref01_MulDiv.j3, if_neg (by decide), if_neg (by decide), v64 (x := -(n : Int)) (by omega) (by omega), v64 (x := -(n : Int) - 1) (by omega) (by omega), clamp_f, Option.bind_some]
      by_cases z : (n : Int) = 0
      · exact Ev.step (fun k => by rw [regletref01_MulDiv.j2, if_neg h2, if_pos z]) hj3
      · exact Ev.step (fun k => by rw [regletref01_MulDiv.j2, if_neg h2, if_neg z]) hj3
  · rw [decide_eq_false hn]
    refine Ev.step (g := fun k => regletref01_MulDiv.j0 k (cl_ num) (cl_ den) ((min (P / C) top_ : Nat) : Int) (decide (min (P / C) top_ * C = P)) 0) (f := fun k => regletref01_MulDiv.j1 k (cl_ den) ((min (P / C) top_ : Nat) : Int) (decide (min (P / C) top_ * C = P)) 0) (fun k => ?_) (j1 _ _ _ _ ?_)
    · rw [regletref01_MulDiv.j0, if_neg (by rw [hns]; exact hn)]
    refine Ev.step (fun k => by rw [regletref01_MulDiv.j2, if_pos (by decide)]) ?_
    exact Ev.step (fun k => by rw [regletref01_MulDiv.j3, if_pos rfl]; rfl) (Ev.now _)
end Go.Proofs.Ytblmcdpfhdamjaa.PPaintSeen
