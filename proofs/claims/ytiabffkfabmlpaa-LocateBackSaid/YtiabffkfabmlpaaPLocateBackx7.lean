-- WRITTEN BY wip/xprint.py of this repo, over the kit's print; functions the print does not take are by hand
import Derived.Test.YtiabffkfabmlpaaPLocateBackx0
import Derived.Test.YtiabffkfabmlpaaPLocateBackx6
namespace Go.Proofs.Ytiabffkfabmlpaa.PLocateBack
open Go.RowKit Go.Proofs.YtiabffkfabmlpaaW.PrintWords Go.Proofs.YtiabffkfabmlpaaW.PrintLast Go.Proofs.YtiabffkfabmlpaaW.PrintMore
attribute [local go_sem] max2_int min2_int max_two min_two max_three min_three max_four min_four   -- for this text's walks alone
set_option linter.unusedVariables false
set_option linter.unusedSimpArgs false
/-! ### texts: by hand: what the machine reads of a right text -/
def vOf (s : ByteArray) (i n : Int) : Int :=
  if n = 1 then bt s i else if n = 2 then bt s i % 32 * 64 + bt s (i + 1) % 64
  else if n = 3 then (bt s i % 16 * 64 + bt s (i + 1) % 64) * 64 + bt s (i + 2) % 64
  else ((bt s i % 8 * 64 + bt s (i + 1) % 64) * 64 + bt s (i + 2) % 64) * 64 + bt s (i + 3) % 64
theorem vOf_range (s : ByteArray) (i n : Int) : 0 ≤ vOf s i n ∧ vOf s i n ≤ 2097151 := by
  have hb := bt_range s i
  have hb1 := bt_range s (i + 1)
  have hb2 := bt_range s (i + 2)
  have hb3 := bt_range s (i + 3)
  unfold vOf
  (repeat' split) <;> omega
/-- The runes from a place on, where each begins, and the first wrong place (-1). -/
def rl_ (s : ByteArray) : Nat → Int → List Int
  | 0, _ => []
  | k + 1, i => if i < (s.size : Int) then (if rsize_ s i = 0 then [] else vOf s i (rsize_ s i) :: rl_ s k (i + rsize_ s i)) else []
def al_ (s : ByteArray) : Nat → Int → List Int
  | 0, _ => []
  | k + 1, i => if i < (s.size : Int) then (if rsize_ s i = 0 then [] else i :: al_ s k (i + rsize_ s i)) else []
def bd_ (s : ByteArray) : Nat → Int → Int
  | 0, _ => -1
  | k + 1, i => if i < (s.size : Int) then (if rsize_ s i = 0 then i else bd_ s k (i + rsize_ s i)) else -1
def right_ (s : ByteArray) : Bool := decide (bd_ s (s.size + 1) 0 < 0)
def is2_ (s : ByteArray) (i : Int) : Bool := decide (194 ≤ bt s i ∧ bt s i < 224 ∧ 128 ≤ bt s (i + 1) ∧ bt s (i + 1) ≤ 191)
def is3_ (s : ByteArray) (i : Int) : Bool := decide (224 ≤ bt s i ∧ bt s i < 240 ∧ (bt s i = 224 → 160 ≤ bt s (i + 1)) ∧ (bt s i = 237 → bt s (i + 1) ≤ 159) ∧ 128 ≤ bt s (i + 1) ∧ bt s (i + 1) ≤ 191 ∧ 128 ≤ bt s (i + 2) ∧ bt s (i + 2) ≤ 191)
def is4_ (s : ByteArray) (i : Int) : Bool := decide (240 ≤ bt s i ∧ bt s i ≤ 244 ∧ (bt s i = 240 → 144 ≤ bt s (i + 1)) ∧ (bt s i = 244 → bt s (i + 1) ≤ 143) ∧ 128 ≤ bt s (i + 1) ∧ bt s (i + 1) ≤ 191 ∧ 128 ≤ bt s (i + 2) ∧ bt s (i + 2) ≤ 191 ∧ 128 ≤ bt s (i + 3) ∧ bt s (i + 3) ≤ 191)
theorem is2_iff (s : ByteArray) (i : Int) : is2_ s i = true ↔ (194 ≤ bt s i ∧ bt s i < 224 ∧ 128 ≤ bt s (i + 1) ∧ bt s (i + 1) ≤ 191) := decide_eq_true_iff
theorem is3_iff (s : ByteArray) (i : Int) : is3_ s i = true ↔ (224 ≤ bt s i ∧ bt s i < 240 ∧ (bt s i = 224 → 160 ≤ bt s (i + 1)) ∧ (bt s i = 237 → bt s (i + 1) ≤ 159) ∧ 128 ≤ bt s (i + 1) ∧ bt s (i + 1) ≤ 191 ∧ 128 ≤ bt s (i + 2) ∧ bt s (i + 2) ≤ 191) := decide_eq_true_iff
theorem is4_iff (s : ByteArray) (i : Int) : is4_ s i = true ↔ (240 ≤ bt s i ∧ bt s i ≤ 244 ∧ (bt s i = 240 → 144 ≤ bt s (i + 1)) ∧ (bt s i = 244 → bt s (i + 1) ≤ 143) ∧ 128 ≤ bt s (i + 1) ∧ bt s (i + 1) ≤ 191 ∧ 128 ≤ bt s (i + 2) ∧ bt s (i + 2) ≤ 191 ∧ 128 ≤ bt s (i + 3) ∧ bt s (i + 3) ≤ 191) := decide_eq_true_iff
theorem more_eq (s : ByteArray) (i : Int) : ∀ (k : Nat) (n lo hi : Int), more_ s i (k + 1) n lo hi = if (s.size : Int) ≤ n ∨ bt s n < lo ∨ hi < bt s n then 0 else more_ s i k (n + 1) 128 191 := by
  intro k n lo hi
  simp only [more_]
  by_cases h1 : (s.size : Int) ≤ n
  · rw [if_pos h1, if_pos (.inl h1)]
  rw [if_neg h1]
  by_cases h2 : bt s n < lo
  · rw [if_pos h2, if_pos (.inr (.inl h2))]
  rw [if_neg h2]
  by_cases h3 : hi < bt s n
  · rw [if_pos h3, if_pos (.inr (.inr h3))]
  rw [if_neg h3, if_neg (by omega)]
theorem rsize_is (s : ByteArray) (i : Int) (h0 : 0 ≤ i) (h1 : i < s.size) :
    rsize_ s i = if bt s i < 128 then 1 else if i + 2 ≤ s.size ∧ is2_ s i = true then 2 else if i + 3 ≤ s.size ∧ is3_ s i = true then 3 else if i + 4 ≤ s.size ∧ is4_ s i = true then 4 else 0 := by
  have hb := bt_range s i
  have hb1 := bt_range s (i + 1)
  have hb2 := bt_range s (i + 2)
  have hb3 := bt_range s (i + 3)
  have e2 : i + 1 + 1 = i + 2 := by omega
  have e3 : i + 2 + 1 = i + 3 := by omega
  have e4 : i + 3 + 1 - i = 4 := by omega
  have m2 := is2_iff s i
  have m3 := is3_iff s i
  have m4 := is4_iff s i
  generalize is2_ s i = a2 at *
  generalize is3_ s i = a3 at *
  generalize is4_ s i = a4 at *
  have z0 : ∀ n, more_ s i 0 n 128 191 = n - i := fun _ => rfl
  unfold rsize_ lead_
  rw [if_neg (by omega), if_neg (by omega)]
  simp only [more_eq, z0, e2, e3]
  generalize bt s i = c at *
  generalize bt s (i + 1) = d at *
  generalize bt s (i + 2) = e at *
  generalize bt s (i + 3) = f at *
  by_cases b2 : i + 2 ≤ s.size ∧ a2 = true
  · have := m2.1 b2.2
    rw [if_neg (by omega), if_neg (by omega), if_neg (by omega), if_pos (by omega), if_neg (by omega), if_neg (by omega), if_pos b2]
    omega
  by_cases b3 : i + 3 ≤ s.size ∧ a3 = true
  · have := m3.1 b3.2
    rw [if_neg (by omega), if_neg (by omega), if_neg (by omega), if_neg (by omega), if_pos (by omega), if_neg (by omega : ¬ c < 128), if_neg b2, if_pos b3]
    by_cases c1 : c = 224
    · rw [if_pos c1, if_neg (by omega), if_neg (by omega)]; omega
    rw [if_neg c1]
    by_cases c2 : c = 237
    · rw [if_pos c2, if_neg (by omega), if_neg (by omega)]; omega
    rw [if_neg c2, if_neg (by omega), if_neg (by omega)]; omega
  by_cases b4 : i + 4 ≤ s.size ∧ a4 = true
  · have := m4.1 b4.2
    rw [if_neg (by omega), if_neg (by omega), if_neg (by omega), if_neg (by omega), if_neg (by omega), if_neg (by omega : ¬ c < 128), if_neg b2, if_neg b3, if_pos b4]
    by_cases c1 : c = 240
    · rw [if_pos c1, if_neg (by omega), if_neg (by omega), if_neg (by omega)]; omega
    rw [if_neg c1]
    by_cases c2 : c = 244
    · rw [if_pos c2, if_neg (by omega), if_neg (by omega), if_neg (by omega)]; omega
    rw [if_neg c2, if_neg (by omega), if_neg (by omega), if_neg (by omega)]; omega
  rw [if_neg b2, if_neg b3, if_neg b4]
  have n2 : ¬ (i + 2 ≤ s.size ∧ 194 ≤ c ∧ c < 224 ∧ 128 ≤ d ∧ d ≤ 191) := fun h => b2 ⟨h.1, m2.2 h.2⟩
  have n3 : ¬ (i + 3 ≤ s.size ∧ 224 ≤ c ∧ c < 240 ∧ (c = 224 → 160 ≤ d) ∧ (c = 237 → d ≤ 159) ∧ 128 ≤ d ∧ d ≤ 191 ∧ 128 ≤ e ∧ e ≤ 191) := fun h => b3 ⟨h.1, m3.2 h.2⟩
  have n4 : ¬ (i + 4 ≤ s.size ∧ 240 ≤ c ∧ c ≤ 244 ∧ (c = 240 → 144 ≤ d) ∧ (c = 244 → d ≤ 143) ∧ 128 ≤ d ∧ d ≤ 191 ∧ 128 ≤ e ∧ e ≤ 191 ∧ 128 ≤ f ∧ f ≤ 191) := fun h => b4 ⟨h.1, m4.2 h.2⟩
  clear m2 m3 m4 b2 b3 b4
  by_cases c1 : c < 128
  · rw [if_pos c1, if_pos c1]
  rw [if_neg c1, if_neg c1]
  by_cases c2 : c < 194
  · rw [if_pos c2]
  rw [if_neg c2]
  by_cases c3 : 244 < c
  · rw [if_pos c3]
  rw [if_neg c3]
  by_cases c4 : c < 224
  · rw [if_pos c4, if_pos (by omega)]
  rw [if_neg c4]
  by_cases c5 : c < 240
  · rw [if_pos c5]
    by_cases k1 : c = 224
    · rw [if_pos k1]
      by_cases q : (s.size : Int) ≤ i + 1 ∨ d < 160 ∨ 191 < d
      rotate_left
      · rw [if_neg q, if_pos (by omega)]
      rw [if_pos q]
    rw [if_neg k1]
    by_cases k2 : c = 237
    · rw [if_pos k2]
      by_cases q : (s.size : Int) ≤ i + 1 ∨ d < 128 ∨ 159 < d
      rotate_left
      · rw [if_neg q, if_pos (by omega)]
      rw [if_pos q]
    rw [if_neg k2]
    by_cases q : (s.size : Int) ≤ i + 1 ∨ d < 128 ∨ 191 < d
    rotate_left
    · rw [if_neg q, if_pos (by omega)]
    rw [if_pos q]
  rw [if_neg c5]
  by_cases k1 : c = 240
  · rw [if_pos k1]
    by_cases q : (s.size : Int) ≤ i + 1 ∨ d < 144 ∨ 191 < d
    · rw [if_pos q]
    rw [if_neg q]
    by_cases q2 : (s.size : Int) ≤ i + 2 ∨ e < 128 ∨ 191 < e
    rotate_left
    · rw [if_neg q2, if_pos (by omega)]
    rw [if_pos q2]
  rw [if_neg k1]
  by_cases k2 : c = 244
  · rw [if_pos k2]
    by_cases q : (s.size : Int) ≤ i + 1 ∨ d < 128 ∨ 143 < d
    · rw [if_pos q]
    rw [if_neg q]
    by_cases q2 : (s.size : Int) ≤ i + 2 ∨ e < 128 ∨ 191 < e
    rotate_left
    · rw [if_neg q2, if_pos (by omega)]
    rw [if_pos q2]
  rw [if_neg k2]
  by_cases q : (s.size : Int) ≤ i + 1 ∨ d < 128 ∨ 191 < d
  · rw [if_pos q]
  rw [if_neg q]
  by_cases q2 : (s.size : Int) ≤ i + 2 ∨ e < 128 ∨ 191 < e
  rotate_left
  · rw [if_neg q2, if_pos (by omega)]
  rw [if_pos q2]
theorem getb (s : ByteArray) (i k : Nat) (h : i + k < s.size) : ((s.get! (i + k)).toNat : Int) = bt s ((i : Int) + k) := by
  have e : ((i : Int) + (k : Int)).toNat = i + k := by omega
  rw [← bt_at s _ (by rw [e]; exact h)]
  simp only [e]
  have : s.get! (i + k) = s[i + k]'h := by
    simp [ByteArray.get!, getElem!_pos, h]
    rfl
  rw [this]
theorem decode_eq {s : ByteArray} {i : Nat} (hi : i < s.size) (hz : ¬ rsize_ s i = 0) : Utf8.decode s i = ((vOf s i (rsize_ s i)).toNat, (rsize_ s i).toNat) := by
  have hr := rsize_is s i (by omega) (by omega)
  have hb0 := getb s i 0 (by omega)
  rw [show ((i : Int) + ((0 : Nat) : Int)) = (i : Int) by omega] at hb0
  have hb := bt_range s i
  have hb1 := bt_range s (i + 1)
  have hb2 := bt_range s (i + 2)
  have hb3 := bt_range s (i + 3)
  simp only [Utf8.decode]
  by_cases c1 : bt s i < 128
  · rw [if_pos c1] at hr
    rw [hr, if_pos (by omega)]
    have : vOf s i 1 = bt s i := by unfold vOf; rw [if_pos rfl]
    rw [this, ← hb0]; rfl
  rw [if_neg c1] at hr
  rw [if_neg (by omega)]
  by_cases c2 : (i : Int) + 2 ≤ s.size ∧ is2_ s i = true
  · rw [if_pos c2] at hr
    have h2 := (is2_iff s i).1 c2.2
    have g1 := getb s i 1 (by omega)
    rw [show ((1 : Nat) : Int) = 1 from rfl] at g1
    have e1 : ((s.get! (i + 0)).toNat / 32 == 6 && (decide (i + 1 < s.size) && (s.get! (i + 1)).toNat / 64 == 2)) = true := by
      simp only [Bool.and_eq_true, beq_iff_eq, decide_eq_true_eq]
      refine ⟨by omega, by omega, by omega⟩
    rw [if_pos e1, if_pos (by omega), hr]
    have : vOf s i 2 = bt s i % 32 * 64 + bt s (i + 1) % 64 := by unfold vOf; rw [if_neg (by decide), if_pos rfl]
    rw [this]
    refine Prod.ext ?_ rfl
    show _ = (bt s i % 32 * 64 + bt s (i + 1) % 64).toNat
    omega
  rw [if_neg c2] at hr
  have n1 : ¬ ((s.get! (i + 0)).toNat / 32 == 6 && (decide (i + 1 < s.size) && (s.get! (i + 1)).toNat / 64 == 2)) = true ∨ True := .inr trivial
  clear n1
  by_cases c3 : (i : Int) + 3 ≤ s.size ∧ is3_ s i = true
  · rw [if_pos c3] at hr
    have h3 := (is3_iff s i).1 c3.2
    have g1 := getb s i 1 (by omega)
    have g2 := getb s i 2 (by omega)
    rw [show ((1 : Nat) : Int) = 1 from rfl] at g1
    rw [show ((2 : Nat) : Int) = 2 from rfl] at g2
    have e0 : ¬ ((s.get! (i + 0)).toNat / 32 == 6 && (decide (i + 1 < s.size) && (s.get! (i + 1)).toNat / 64 == 2)) = true := by
      simp only [Bool.and_eq_true, beq_iff_eq, decide_eq_true_eq]
      omega
    have e1 : ((s.get! (i + 0)).toNat / 16 == 14 && (decide (i + 1 < s.size) && (s.get! (i + 1)).toNat / 64 == 2) && (decide (i + 2 < s.size) && (s.get! (i + 2)).toNat / 64 == 2)) = true := by
      simp only [Bool.and_eq_true, beq_iff_eq, decide_eq_true_eq]
      refine ⟨⟨by omega, by omega, by omega⟩, by omega, by omega⟩
    have e2 : ∀ c : Nat, (c : Int) = (bt s i % 16 * 64 + bt s (i + 1) % 64) * 64 + bt s (i + 2) % 64 → (decide (c ≥ 2048) && Utf8.valid c) = true := by
      intro c hc
      simp only [Utf8.valid, Bool.and_eq_true, Bool.or_eq_true, decide_eq_true_eq]
      omega
    rw [if_neg e0, if_pos e1, if_pos (e2 _ (by omega)), hr]
    have : vOf s i 3 = (bt s i % 16 * 64 + bt s (i + 1) % 64) * 64 + bt s (i + 2) % 64 := by unfold vOf; rw [if_neg (by decide), if_neg (by decide), if_pos rfl]
    rw [this]
    refine Prod.ext ?_ rfl
    show _ = ((bt s i % 16 * 64 + bt s (i + 1) % 64) * 64 + bt s (i + 2) % 64).toNat
    omega
  rw [if_neg c3] at hr
  by_cases c4 : (i : Int) + 4 ≤ s.size ∧ is4_ s i = true
  · rw [if_pos c4] at hr
    have h4 := (is4_iff s i).1 c4.2
    have g1 := getb s i 1 (by omega)
    have g2 := getb s i 2 (by omega)
    have g3 := getb s i 3 (by omega)
    rw [show ((1 : Nat) : Int) = 1 from rfl] at g1
    rw [show ((2 : Nat) : Int) = 2 from rfl] at g2
    rw [show ((3 : Nat) : Int) = 3 from rfl] at g3
    have e0 : ¬ ((s.get! (i + 0)).toNat / 32 == 6 && (decide (i + 1 < s.size) && (s.get! (i + 1)).toNat / 64 == 2)) = true := by
      simp only [Bool.and_eq_true, beq_iff_eq, decide_eq_true_eq]
      omega
    have e1 : ¬ ((s.get! (i + 0)).toNat / 16 == 14 && (decide (i + 1 < s.size) && (s.get! (i + 1)).toNat / 64 == 2) && (decide (i + 2 < s.size) && (s.get! (i + 2)).toNat / 64 == 2)) = true := by
      simp only [Bool.and_eq_true, beq_iff_eq, decide_eq_true_eq]
      omega
    have e3 : ((s.get! (i + 0)).toNat / 8 == 30 && (decide (i + 1 < s.size) && (s.get! (i + 1)).toNat / 64 == 2) && (decide (i + 2 < s.size) && (s.get! (i + 2)).toNat / 64 == 2) && (decide (i + 3 < s.size) && (s.get! (i + 3)).toNat / 64 == 2)) = true := by
      simp only [Bool.and_eq_true, beq_iff_eq, decide_eq_true_eq]
      refine ⟨⟨⟨by omega, by omega, by omega⟩, by omega, by omega⟩, by omega, by omega⟩
    have e2 : ∀ c : Nat, (c : Int) = ((bt s i % 8 * 64 + bt s (i + 1) % 64) * 64 + bt s (i + 2) % 64) * 64 + bt s (i + 3) % 64 → (decide (c ≥ 65536) && Utf8.valid c) = true := by
      intro c hc
      simp only [Utf8.valid, Bool.and_eq_true, Bool.or_eq_true, decide_eq_true_eq]
      omega
    rw [if_neg e0, if_neg e1, if_pos e3, if_pos (e2 _ (by omega)), hr]
    have : vOf s i 4 = ((bt s i % 8 * 64 + bt s (i + 1) % 64) * 64 + bt s (i + 2) % 64) * 64 + bt s (i + 3) % 64 := by unfold vOf; rw [if_neg (by decide), if_neg (by decide), if_neg (by decide)]
    rw [this]
    refine Prod.ext ?_ rfl
    show _ = (((bt s i % 8 * 64 + bt s (i + 1) % 64) * 64 + bt s (i + 2) % 64) * 64 + bt s (i + 3) % 64).toNat
    omega
  rw [if_neg c4] at hr
  exact absurd hr hz
theorem bd_step {s : ByteArray} {q : Nat} {i : Int} (h : bd_ s (q + 1) i < 0) (h0 : 0 ≤ i) (hi : i < s.size) : ¬ rsize_ s i = 0 ∧ bd_ s q (i + rsize_ s i) < 0 := by
  simp only [bd_] at h
  rw [if_pos hi] at h
  by_cases hz : rsize_ s i = 0
  rotate_left
  · rw [if_neg hz] at h; exact ⟨hz, h⟩
  rw [if_pos hz] at h; omega
theorem more_rng (s : ByteArray) (i : Int) : ∀ (k : Nat) (n lo hi : Int), n ≤ s.size → more_ s i k n lo hi = 0 ∨ (more_ s i k n lo hi = n + k - i ∧ n + k ≤ s.size)
  | 0, n, _, _, h => by right; simp only [more_]; omega
  | k + 1, n, lo, hi, h => by
    simp only [more_]
    split
    · left; rfl
    split
    · left; rfl
    split
    · left; rfl
    have := more_rng s i k (n + 1) 128 191 (by omega)
    omega
theorem rsize_rng (s : ByteArray) (i : Int) : rsize_ s i = 0 ∨ (1 ≤ rsize_ s i ∧ rsize_ s i ≤ 4 ∧ i + rsize_ s i ≤ s.size) := by
  unfold rsize_
  split
  · left; rfl
  split
  · left; rfl
  unfold lead_
  have a1 := more_rng s i 1 (i + 1) 128 191 (by omega)
  have a2 := more_rng s i 2 (i + 1) 160 191 (by omega)
  have a3 := more_rng s i 2 (i + 1) 128 159 (by omega)
  have a4 := more_rng s i 2 (i + 1) 128 191 (by omega)
  have a5 := more_rng s i 3 (i + 1) 144 191 (by omega)
  have a6 := more_rng s i 3 (i + 1) 128 143 (by omega)
  have a7 := more_rng s i 3 (i + 1) 128 191 (by omega)
  (repeat' split) <;> omega
theorem rl_cons {s : ByteArray} {q : Nat} {i : Int} (hi : i < s.size) (hz : ¬ rsize_ s i = 0) : rl_ s (q + 1) i = vOf s i (rsize_ s i) :: rl_ s q (i + rsize_ s i) := by
  simp only [rl_]; rw [if_pos hi, if_neg hz]
theorem rl_end {s : ByteArray} {q : Nat} {i : Int} (hi : ¬ i < s.size) : rl_ s q i = [] := by
  cases q with
  | zero => rfl
  | succ q => simp only [rl_]; rw [if_neg hi]
/-! ### runes_size: by hand (its code holds a label) -/
def runes_size.f (a0 : ByteArray) (a1 : Int) : Option Int := if (a0.size : Int) ≤ 4611686018427387904 then some (rsize_ a0 a1) else none
theorem intOfS_int (k : IntKind) (q : Int) : intOfS (.int k q) = q := rfl
theorem frame_of (t : Array Value) (n : Nat) (h : t.size = n) : t = ((List.range n).map (fun i => t.getD i undef)).toArray := by
  apply Array.ext
  · simp [h]
  · intro i h1 h2
    simp [Array.getD, h1]
def sizeFrame (a0 : ByteArray) (a1 : Int) (need : Nat) (low high c n : Int) (a_ : Act) : Prop :=
  a_.defers = [] ∧ a_.tmps.size = 74 ∧ a_.tmps.getD 0 undef = .string a0 ∧ a_.tmps.getD 1 undef = .int .i64 a1 ∧ a_.tmps.getD 2 undef = undef ∧ a_.tmps.getD 3 undef = undef ∧ a_.tmps.getD 5 undef = .int .i64 need ∧ a_.tmps.getD 6 undef = .int .u8 low ∧ a_.tmps.getD 7 undef = .int .u8 high ∧ a_.tmps.getD 8 undef = .int .u8 c ∧ a_.tmps.getD 9 undef = .int .i64 n
theorem sizeFrame_open {a0 : ByteArray} {a1 : Int} {need : Nat} {low high c n : Int} {a_ : Act} (h : sizeFrame a0 a1 need low high c n a_) :
    ∃ u : Nat → Value, a_ = { tmps := #[.string a0, .int .i64 a1, undef, undef, u 4, .int .i64 need, .int .u8 low, .int .u8 high, .int .u8 c, .int .i64 n, u 10, u 11, u 12, u 13, u 14, u 15, u 16, u 17, u 18, u 19, u 20, u 21, u 22, u 23, u 24, u 25, u 26, u 27, u 28, u 29, u 30, u 31, u 32, u 33, u 34, u 35, u 36, u 37, u 38, u 39, u 40, u 41, u 42, u 43, u 44, u 45, u 46, u 47, u 48, u 49, u 50, u 51, u 52, u 53, u 54, u 55, u 56, u 57, u 58, u 59, u 60, u 61, u 62, u 63, u 64, u 65, u 66, u 67, u 68, u 69, u 70, u 71, u 72, u 73], defers := [] } := by
  obtain ⟨t, d⟩ := a_
  obtain ⟨rfl, hs, h0, h1, h2, h3, h5, h6, h7, h8, h9⟩ := h
  have hf := frame_of t 74 hs
  generalize hu : (fun i => t.getD i undef) = u at hf
  replace h0 : u 0 = .string a0 := by rw [← hu]; exact h0
  replace h1 : u 1 = .int .i64 a1 := by rw [← hu]; exact h1
  replace h2 : u 2 = undef := by rw [← hu]; exact h2
  replace h3 : u 3 = undef := by rw [← hu]; exact h3
  replace h5 : u 5 = .int .i64 need := by rw [← hu]; exact h5
  replace h6 : u 6 = .int .u8 low := by rw [← hu]; exact h6
  replace h7 : u 7 = .int .u8 high := by rw [← hu]; exact h7
  replace h8 : u 8 = .int .u8 c := by rw [← hu]; exact h8
  replace h9 : u 9 = .int .i64 n := by rw [← hu]; exact h9
  refine ⟨u, ?_⟩
  replace hf : t = #[u 0, u 1, u 2, u 3, u 4, u 5, u 6, u 7, u 8, u 9, u 10, u 11, u 12, u 13, u 14, u 15, u 16, u 17, u 18, u 19, u 20, u 21, u 22, u 23, u 24, u 25, u 26, u 27, u 28, u 29, u 30, u 31, u 32, u 33, u 34, u 35, u 36, u 37, u 38, u 39, u 40, u 41, u 42, u 43, u 44, u 45, u 46, u 47, u 48, u 49, u 50, u 51, u 52, u 53, u 54, u 55, u 56, u 57, u 58, u 59, u 60, u 61, u 62, u 63, u 64, u 65, u 66, u 67, u 68, u 69, u 70, u 71, u 72, u 73] := hf
  rw [h0, h1, h2, h3, h5, h6, h7, h8, h9] at hf
  rw [hf]
set_option maxHeartbeats 16000000 in
set_option maxRecDepth 100000 in
theorem runes_size.calls (a0 : ByteArray) (a1 : Int) (r : Int) (w : World) (h : runes_size.f a0 a1 = some r) :
    Calls Try.prog 61 #[.string a0, .int .i64 a1] w fun e w' => e = .returned (.int .i64 r) ∧ Drawn0 w w' := by
  unfold runes_size.f at h
  by_cases hsz : (a0.size : Int) ≤ 4611686018427387904
  case neg => rw [if_neg hsz] at h; cases h
  rw [if_pos hsz] at h
  have H0 : rsize_ a0 a1 = r := Option.some.inj h
  clear h
  have H := Aside0.mk H0
  clear H0
  go_enter Try.func61, Try.ntmps61
  go_wp2
  refine wp_scope_jumps 0 (fun a_ w_ => ∃ (need : Nat) (low high c n : Int), sizeFrame a0 a1 need low high c n a_ ∧ Aside0 (need ≤ 3 ∧ 0 ≤ low ∧ low ≤ 255 ∧ 0 ≤ high ∧ high ≤ 255 ∧ 0 ≤ a1 ∧ a1 < n ∧ n + (need : Int) ≤ (a0.size : Int) + 4 ∧ more_ a0 a1 need n low high = r) ∧ Drawn0 w w_) (fun a_ _ => (intOfS (a_.tmps.getD 5 undef)).toNat) rfl ?_ ?_
  · by_cases c1 : a1 < 0
    · skip
      have c1b0 : decide (a1 < 0) = true := decide_eq_true c1
      have HR : r = 0 := by have h_ := H.out; unfold rsize_ at h_; rw [if_pos c1] at h_; exact h_.symm
      subst HR
      clear H
      go_wp2
      simp only [Exit.jump]
      go_ret
      exact ⟨z180_, z173_⟩
    by_cases c2 : (a0.size : Int) ≤ a1
    · skip
      have c1b0 : decide (a1 < 0) = false := decide_eq_false c1
      have c2b0 : decide (a1 ≥ (a0.size : Int)) = true := decide_eq_true c2
      have HR : r = 0 := by have h_ := H.out; unfold rsize_ at h_; rw [if_neg c1, if_pos c2] at h_; exact h_.symm
      subst HR
      clear H
      go_wp2
      simp only [Exit.jump]
      go_ret
      exact ⟨z180_, z173_⟩
    have H2 := H.out
    unfold rsize_ at H2
    rw [if_neg c1, if_neg c2] at H2
    clear H
    have c1b0 : decide (a1 < 0) = false := decide_eq_false c1
    have c2b0 : decide (a1 ≥ (a0.size : Int)) = false := decide_eq_false c2
    have i0 : 0 ≤ a1 := by omega
    have i1 : a1 < (a0.size : Int) := by omega
    have p6 := eq_true i0
    have q6 := eq_true i1
    have hx6 := bt_at a0 a1
    have hc := bt_range a0 a1
    obtain ⟨hc0, hc1⟩ := hc
    clear c1 c2
    obtain ⟨c, hcc⟩ : ∃ c_ : Int, bt a0 a1 = c_ := ⟨_, rfl⟩
    rw [hcc] at hx6 hc0 hc1 H2
    clear hcc
    unfold lead_ at H2
    go_upto_block 0 with (fail)
    go_cut [5, 6, 7] (fun v5 v6 v7 wc => ∃ (need : Nat) (low high : Int), v5 = .int .i64 need ∧ v6 = .int .u8 low ∧ v7 = .int .u8 high ∧ Aside0 (1 ≤ need ∧ need ≤ 3 ∧ 0 ≤ low ∧ low ≤ 255 ∧ 0 ≤ high ∧ high ≤ 255 ∧ more_ a0 a1 need (a1 + 1) low high = r) ∧ Drawn0 w wc)
    case first =>
      by_cases c3 : c < 128
      · rw [if_pos c3] at H2
        have c3b0 : decide (c < 128) = true := decide_eq_true c3
        have HR : r = 1 := H2.symm
        subst HR
        clear H2
        go_wp2
        simp only [Exit.jump]
        go_ret
        exact ⟨z180_, z173_⟩
      rw [if_neg c3] at H2
      have c3b0 : decide (c < 128) = false := decide_eq_false c3
      by_cases c4 : c < 194
      · rw [if_pos c4] at H2
        have c4b0 : decide (c < 194) = true := decide_eq_true c4
        have HR : r = 0 := H2.symm
        subst HR
        clear H2
        go_wp2
        simp only [Exit.jump]
        go_ret
        exact ⟨z180_, z173_⟩
      rw [if_neg c4] at H2
      have c4b0 : decide (c < 194) = false := decide_eq_false c4
      by_cases c5 : 244 < c
      · rw [if_pos c5] at H2
        have c5b0 : decide (c > 244) = true := decide_eq_true c5
        have HR : r = 0 := H2.symm
        subst HR
        clear H2
        go_wp2
        simp only [Exit.jump]
        go_ret
        exact ⟨z180_, z173_⟩
      rw [if_neg c5] at H2
      have c5b0 : decide (c > 244) = false := decide_eq_false c5
      by_cases c6 : c < 224
      · rw [if_pos c6] at H2
        have c6b0 : decide (c < 224) = true := decide_eq_true c6
        have H3 := Aside0.mk H2
        clear H2
        go_wp2
        go_meet
        case rel => exact ⟨1, _, _, z189_, rfl, rfl, ⟨by omega, by omega, by omega, by omega, by omega, by omega, H3.out⟩, z173_⟩
      rw [if_neg c6] at H2
      have c6b0 : decide (c < 224) = false := decide_eq_false c6
      by_cases c7 : c < 240
      · rw [if_pos c7] at H2
        have c7b0 : decide (c < 240) = true := decide_eq_true c7
        by_cases c8 : c = 224
        · rw [if_pos c8] at H2
          have c8b0 : (c == 224) = true := beq_iff_eq.mpr c8
          clear c8
          have c8b9 : (c == 237) = false := beq_eq_false_iff_ne.mpr (by have := beq_iff_eq.mp c8b0; omega)
          have H3 := Aside0.mk H2
          clear H2
          go_wp2
          go_meet
          case rel => exact ⟨2, _, _, z189_, rfl, rfl, ⟨by omega, by omega, by omega, by omega, by omega, by omega, H3.out⟩, z173_⟩
        rw [if_neg c8] at H2
        have c8b0 : (c == 224) = false := beq_eq_false_iff_ne.mpr c8
        by_cases c9 : c = 237
        · rw [if_pos c9] at H2
          have c9b0 : (c == 237) = true := beq_iff_eq.mpr c9
          clear c9
          have H3 := Aside0.mk H2
          clear H2
          go_wp2
          go_meet
          case rel => exact ⟨2, _, _, z189_, rfl, rfl, ⟨by omega, by omega, by omega, by omega, by omega, by omega, H3.out⟩, z173_⟩
        rw [if_neg c9] at H2
        have c9b0 : (c == 237) = false := beq_eq_false_iff_ne.mpr c9
        have H3 := Aside0.mk H2
        clear H2
        go_wp2
        go_meet
        case rel => exact ⟨2, _, _, z189_, rfl, rfl, ⟨by omega, by omega, by omega, by omega, by omega, by omega, H3.out⟩, z173_⟩
      rw [if_neg c7] at H2
      have c7b0 : decide (c < 240) = false := decide_eq_false c7
      by_cases c8 : c = 240
      · rw [if_pos c8] at H2
        have c8b0 : (c == 240) = true := beq_iff_eq.mpr c8
        clear c8
        have c8b9 : (c == 244) = false := beq_eq_false_iff_ne.mpr (by have := beq_iff_eq.mp c8b0; omega)
        have H3 := Aside0.mk H2
        clear H2
        go_wp2
        go_meet
        case rel => exact ⟨3, _, _, z189_, rfl, rfl, ⟨by omega, by omega, by omega, by omega, by omega, by omega, H3.out⟩, z173_⟩
      rw [if_neg c8] at H2
      have c8b0 : (c == 240) = false := beq_eq_false_iff_ne.mpr c8
      by_cases c9 : c = 244
      · rw [if_pos c9] at H2
        have c9b0 : (c == 244) = true := beq_iff_eq.mpr c9
        clear c9
        have H3 := Aside0.mk H2
        clear H2
        go_wp2
        go_meet
        case rel => exact ⟨3, _, _, z189_, rfl, rfl, ⟨by omega, by omega, by omega, by omega, by omega, by omega, H3.out⟩, z173_⟩
      rw [if_neg c9] at H2
      have c9b0 : (c == 244) = false := beq_eq_false_iff_ne.mpr c9
      have H3 := Aside0.mk H2
      clear H2
      go_wp2
      go_meet
      case rel => exact ⟨3, _, _, z189_, rfl, rfl, ⟨by omega, by omega, by omega, by omega, by omega, by omega, H3.out⟩, z173_⟩
    case rest =>
      obtain ⟨need, low, high, rfl, rfl, rfl, HA, ⟨m0, rfl⟩⟩ := hcut
      obtain ⟨g0, g1, g2, g3, g4, g5, H3⟩ := HA.out
      clear HA H2 hc0 hc1 hx6 p6 q6 c1b0 c2b0
      obtain ⟨k, rfl⟩ : ∃ k, need = k + 1 := ⟨need - 1, by omega⟩
      simp only [more_] at H3
      obtain ⟨n, hn⟩ : ∃ n_ : Int, n_ = a1 + 1 := ⟨_, rfl⟩
      rw [← hn] at H3 ⊢
      have N := Aside0.mk hn
      have i5 : a1 < n := by omega
      have i6 : n ≤ a1 + 1 := by omega
      clear hn
      have z0 : (((k + 1 : Nat) : Int) == 0) = false := beq_eq_false_iff_ne.mpr (by omega)
      have k0 : (0 : Int) ≤ k := by omega
      by_cases n1 : (a0.size : Int) ≤ n
      · rw [if_pos n1] at H3
        have n1b0 : decide (n ≥ (a0.size : Int)) = true := decide_eq_true n1
        subst H3
        go_wp2
        go_step3
        go_wp2
        simp only [Exit.jump]
        go_ret
        exact ⟨z180_, z173_⟩
      rw [if_neg n1] at H3
      have n1b0 : decide (n ≥ (a0.size : Int)) = false := decide_eq_false n1
      have i2 : n < (a0.size : Int) := by omega
      have i3 : 0 ≤ n := by omega
      have hx7 := bt_at a0 n
      have hd := bt_range a0 n
      obtain ⟨hd0, hd1⟩ := hd
      obtain ⟨b, hbb⟩ : ∃ c_ : Int, bt a0 n = c_ := ⟨_, rfl⟩
      rw [hbb] at hx7 hd0 hd1 H3
      clear hbb
      have p7 := eq_true i3
      have q7 := eq_true i2
      by_cases n2 : b < low
      · rw [if_pos n2] at H3
        have n2b0 : decide (b < low) = true := decide_eq_true n2
        subst H3
        go_wp2
        go_step3
        go_wp2
        simp only [Exit.jump]
        go_ret
        exact ⟨z180_, z173_⟩
      rw [if_neg n2] at H3
      have n2b0 : decide (b < low) = false := decide_eq_false n2
      by_cases n3 : high < b
      · rw [if_pos n3] at H3
        have n3b0 : decide (b > high) = true := decide_eq_true n3
        subst H3
        go_wp2
        go_step3
        go_wp2
        simp only [Exit.jump]
        go_ret
        exact ⟨z180_, z173_⟩
      rw [if_neg n3] at H3
      have n3b0 : decide (b > high) = false := decide_eq_false n3
      have H4 := Aside0.mk H3
      clear H3
      go_wp2
      go_step3
      go_wp2
      go_step3
      refine ⟨rfl, k, _, _, _, _, ⟨rfl, rfl, rfl, rfl, rfl, rfl, z189_, rfl, rfl, rfl, z189_⟩, ⟨by omega, by omega, by omega, by omega, by omega, by omega, by omega, by omega, H4.out⟩, z173_⟩
  · rintro a_ w_ ⟨need, low, high, c, n, hfr, HH, ⟨m, rfl⟩⟩
    obtain ⟨u, hu⟩ := sizeFrame_open hfr
    clear hfr
    subst hu
    obtain ⟨g0, g1, g2, g3, g4, g5, g6, g7, g8⟩ := HH.out
    clear HH H
    cases need with
    | zero =>
      simp only [more_] at g8
      subst g8
      go_wp2
      simp only [Exit.jump]
      go_ret
      exact ⟨z180_, z173_⟩
    | succ k =>
      simp only [more_] at g8
      have z0 : (((k + 1 : Nat) : Int) == 0) = false := beq_eq_false_iff_ne.mpr (by omega)
      by_cases n1 : (a0.size : Int) ≤ n
      · rw [if_pos n1] at g8
        have n1b0 : decide (n ≥ (a0.size : Int)) = true := decide_eq_true n1
        subst g8
        go_wp2
        simp only [Exit.jump]
        go_ret
        exact ⟨z180_, z173_⟩
      rw [if_neg n1] at g8
      have n1b0 : decide (n ≥ (a0.size : Int)) = false := decide_eq_false n1
      have i2 : n < (a0.size : Int) := by omega
      have i3 : 0 ≤ n := by omega
      have hx7 := bt_at a0 n
      have hd := bt_range a0 n
      obtain ⟨hd0, hd1⟩ := hd
      obtain ⟨b, hbb⟩ : ∃ c_ : Int, bt a0 n = c_ := ⟨_, rfl⟩
      rw [hbb] at hx7 hd0 hd1 g8
      clear hbb
      have p7 := eq_true i3
      have q7 := eq_true i2
      by_cases n2 : b < low
      · rw [if_pos n2] at g8
        have n2b0 : decide (b < low) = true := decide_eq_true n2
        subst g8
        go_wp2
        simp only [Exit.jump]
        go_ret
        exact ⟨z180_, z173_⟩
      rw [if_neg n2] at g8
      have n2b0 : decide (b < low) = false := decide_eq_false n2
      by_cases n3 : high < b
      · rw [if_pos n3] at g8
        have n3b0 : decide (b > high) = true := decide_eq_true n3
        subst g8
        go_wp2
        simp only [Exit.jump]
        go_ret
        exact ⟨z180_, z173_⟩
      rw [if_neg n3] at g8
      have n3b0 : decide (b > high) = false := decide_eq_false n3
      have H3 := Aside0.mk g8
      clear g8
      have k0 : (0 : Int) ≤ k := by omega
      go_wp2
      go_step3
      refine ⟨rfl, ⟨k, _, _, _, _, ⟨rfl, rfl, rfl, rfl, rfl, rfl, z189_, rfl, rfl, rfl, z189_⟩, ⟨by omega, by omega, by omega, by omega, by omega, by omega, by omega, by omega, H3.out⟩, z173_⟩, ?_⟩
      simp [intOfS]
/-! ### runes_First: function 49 -/
def runes_First.l0 : Nat → Int → ByteArray → Int → Option (Int × Int)
  | 0, _, _, _ => none
  | k + 1, x4, x149000, x149001 => if (x149001 : Int).toNat < x149000.size then (some (itR_ x149000 x149001, x4)) else (some (0, 0))
def runes_First.f (k : Nat) (a0 : ByteArray) : Option (Int × Int) := (runes_size.f a0 0).bind fun t147 => (if 0 ≤ t147 then (if t147 ≤ (a0.size : Int) then (runes_First.l0 k t147 (a0.extract 0 (t147 : Int).toNat) 0) else (none)) else (none))
theorem runes_First.mono_l : ∀ k, (∀ y0 y1 y2, LeO (runes_First.l0 k y0 y1 y2) (runes_First.l0 (k + 1) y0 y1 y2))
  | 0 => fun _ _ _ r h => by simp [runes_First.l0] at h
  | k + 1 => by
    have ih0 := runes_First.mono_l k
    · intro y0 y1 y2
      unfold runes_First.l0
      repeat' first | (with_reducible first | exact ih0 _ _ _ | exact LeO.refl _ | exact LeO.none _ | refine LeO.ite ?_ ?_ | refine LeO.bind ?_ (fun _ => ?_)) | exact ih0 _ _ _ | exact LeO.none _ | refine LeO.ite ?_ ?_ | refine LeO.bind ?_ (fun _ => ?_)
theorem runes_First.mono : ∀ a0 k, LeO (runes_First.f k a0) (runes_First.f (k + 1) a0) := by
  intro a0 k
  have ih0 := runes_First.mono_l k
  unfold runes_First.f
  repeat' first | (with_reducible first | exact ih0 _ _ _ | exact LeO.refl _ | exact LeO.none _ | refine LeO.ite ?_ ?_ | refine LeO.bind ?_ (fun _ => ?_)) | exact ih0 _ _ _ | exact LeO.none _ | refine LeO.ite ?_ ?_ | refine LeO.bind ?_ (fun _ => ?_)
set_option maxHeartbeats 8000000 in
set_option maxRecDepth 100000 in
theorem runes_First.calls (k : Nat) (a0 : ByteArray) (r1 : Int) (r2 : Int) (w : World) (h : runes_First.f k a0 = some (r1, r2)) :
    Calls Try.prog 49 #[.string a0] w fun e w' => e = .returned (.tuple #[.int .i32 r1, .int .i64 r2]) ∧ Below w.heap.size w w' := by
  have HB := Aside0.mk (Below.refl w.heap.size w)
  have H : ((runes_size.f a0 0).bind fun t147 => (if 0 ≤ t147 then (if t147 ≤ (a0.size : Int) then (runes_First.l0 k t147 (a0.extract 0 (t147 : Int).toNat) 0) else (none)) else (none))) = some (r1, r2) := h
  clear h
  replace H := Option.bind_eq_some_iff.mp H
  obtain ⟨t147, A20, H⟩ := H
  replace H : (if 0 ≤ t147 then (if t147 ≤ (a0.size : Int) then (runes_First.l0 k t147 (a0.extract 0 (t147 : Int).toNat) 0) else (none)) else (none)) = some (r1, r2) := H
  have A2 := Aside0.mk A20
  clear A20
  by_cases c3 : 0 ≤ t147
  rotate_left
  · rw [if_neg c3] at H
    exact absurd H (by simp)
  rw [if_pos c3] at H
  have c3b0 := eq_true c3
  have c3b1 : decide (0 ≤ t147) = true := decide_eq_true c3
  clear c3
  by_cases c4 : t147 ≤ (a0.size : Int)
  rotate_left
  · rw [if_neg c4] at H
    exact absurd H (by simp)
  rw [if_pos c4] at H
  have c4b0 := eq_true c4
  have c4b1 : decide (t147 ≤ (a0.size : Int)) = true := decide_eq_true c4
  clear c4
  have H' := Aside0.mk H
  clear H
  go_enter Try.func49, Try.ntmps49
  go_wp2_with (first | ((with_reducible refine gate_callee (f := 61) rfl ?_); refine goesL_ (some 8) rfl rfl Try.func61 (by kernel_rfl) rfl #[.string a0, .int .i64 0] rfl z99_ ?_; (with_reducible refine (runes_size.calls a0 0 t147 _ A2.out).mono ?_); rintro e w' ⟨rfl, ⟨nd, rfl⟩⟩; refine ⟨_, rfl, ?_⟩) | ((with_reducible refine gate_dst (N := 12) rfl ?_); refine iter_event ?hg (N := 12) ?hd (s := (a0.extract 0 (t147 : Int).toNat)) ?hr ?_; (case hd => rfl); (case hg => rfl); (case hr => exact z181_); intro gb148 hg w5 hbox hb; have BK148 := Aside0.mk (hbox); have GW148 := Aside0.mk ((z74_ : w.heap.size ≤ gb148)); have GE148 := Aside0.mk ((z74_ : w.heap.size ≤ gb148)); replace HB := Aside0.mk (below_step z103_ hb); clear hb hbox hg))
  (try simp only [Act.put, List.setIfInBounds_toArray, List.set_cons_zero, List.set_cons_succ])
  go_loopg [] k (fun kq w' => ∃ (x149001_1 : Int), Aside0 (runes_First.l0 kq t147 (a0.extract 0 (t147 : Int).toNat) x149001_1 = some (r1, r2)) ∧ Aside0 (kq ≤ k) ∧ Aside0 (w'.heap[gb148]? = some (.stringIter (a0.extract 0 (t147 : Int).toNat) (x149001_1 : Int).toNat)) ∧ Aside0 (Below w.heap.size w w'))
  case atStart => exact ⟨(0), H', ⟨Nat.le_refl _⟩, ⟨z123_⟩, ⟨z78_⟩⟩
  case round =>
    clear H'; (try clear p2); (try clear c3); (try clear c3b0); (try clear c3b1); (try clear c4); (try clear c4b0); (try clear c4b1)
    obtain ⟨x149001_1, HA, HK1, BK148, HB⟩ := hrel
    cases gk with
    | zero => exact absurd HA.out (by simp [runes_First.l0])
    | succ k1 =>
      have H := HA.out
      clear HA
      simp only [runes_First.l0] at H
      by_cases c6 : (x149001_1 : Int).toNat < (a0.extract 0 (t147 : Int).toNat).size
      rotate_left
      · rw [if_neg c6] at H
        have c6b0 : decide ((x149001_1 : Int).toNat < (a0.extract 0 (t147 : Int).toNat).size) = false := decide_eq_false c6
        clear c6
        simp only [Option.some.injEq, Prod.mk.injEq] at H
        obtain ⟨rfl, rfl⟩ := H
        go_wp2_with (first | ((with_reducible refine gate_dst (N := 13) rfl ?_); refine next_no (w0 := w) (base := w.heap.size) ?hg (N := 13) ?hd (g := gb148) (s := (a0.extract 0 (t147 : Int).toNat)) (p := x149001_1) ?hx rfl ?hi ?hp ?hB ?he ?_; (case hd => rfl); (case hg => rfl); (case hx => exact z179_); (case hi => exact z104_); (case hp => exact z178_); (case hB => exact z64_); (case he => exact GW148.out); intro w8 hbox hg hb; replace BK148 := Aside0.mk (hbox); replace HB := Aside0.mk (hb); clear hbox hb hg))
        go_ret2
        exact ⟨z155_, z78_⟩
      rw [if_pos c6] at H
      have c6b0 : decide ((x149001_1 : Int).toNat < (a0.extract 0 (t147 : Int).toNat).size) = true := decide_eq_true c6
      clear c6
      simp only [Option.some.injEq, Prod.mk.injEq] at H
      obtain ⟨rfl, rfl⟩ := H
      go_wp2_with (first | ((with_reducible refine gate_dst (N := 13) rfl ?_); refine next_yes (w0 := w) (base := w.heap.size) ?hg (N := 13) ?hd (g := gb148) (s := (a0.extract 0 (t147 : Int).toNat)) (p := x149001_1) ?hx rfl ?hi ?hp ?hB ?he ?_; (case hd => rfl); (case hg => rfl); (case hx => exact z179_); (case hi => exact z104_); (case hp => exact z178_); (case hB => exact z64_); (case he => exact GW148.out); intro w7 hbox hg hb; replace BK148 := Aside0.mk (hbox); replace HB := Aside0.mk (hb); clear hbox hb hg))
      go_ret2
      exact ⟨z155_, z78_⟩
/-! ### locate_shown: function 30 -/
def locate_shown.l0 : Nat → ByteArray → Int → ByteArray → Int → Option (Int)
  | 0, _, _, _, _ => none
  | k + 1, x0, x3, x150000, x150001 => if (x150001 : Int).toNat < x150000.size then ((runes_Kind.f k (itR_ x150000 x150001)).bind fun t150 => (if t150 = 0 then (if 0 ≤ (itP_ x150001) then (if (itP_ x150001) ≤ (x0.size : Int) then ((runes_First.f k (x0.extract ((itP_ x150001) : Int).toNat x0.size)).bind fun bt151 => (locate_shown.l0 k x0 (wrap64 ((itP_ x150001) + bt151.2)) x150000 (itN_ x150000 x150001))) else (none)) else (none)) else (if t150 = 2 then (if 0 ≤ (itP_ x150001) then (if (itP_ x150001) ≤ (x0.size : Int) then ((runes_First.f k (x0.extract ((itP_ x150001) : Int).toNat x0.size)).bind fun bt153 => (locate_shown.l0 k x0 (wrap64 ((itP_ x150001) + bt153.2)) x150000 (itN_ x150000 x150001))) else (none)) else (none)) else (if t150 = 6 then (if 0 ≤ (itP_ x150001) then (if (itP_ x150001) ≤ (x0.size : Int) then ((runes_First.f k (x0.extract ((itP_ x150001) : Int).toNat x0.size)).bind fun bt155 => (locate_shown.l0 k x0 (wrap64 ((itP_ x150001) + bt155.2)) x150000 (itN_ x150000 x150001))) else (none)) else (none)) else (locate_shown.l0 k x0 x3 x150000 (itN_ x150000 x150001)))))) else (some x3)
def locate_shown.f (k : Nat) (a0 : ByteArray) : Option (Int) := locate_shown.l0 k a0 0 a0 0
theorem locate_shown.mono_l : ∀ k, (∀ y0 y1 y2 y3, LeO (locate_shown.l0 k y0 y1 y2 y3) (locate_shown.l0 (k + 1) y0 y1 y2 y3))
  | 0 => fun _ _ _ _ r h => by simp [locate_shown.l0] at h
  | k + 1 => by
    have ih0 := locate_shown.mono_l k
    · intro y0 y1 y2 y3
      unfold locate_shown.l0
      repeat' first | (with_reducible first | exact ih0 _ _ _ _ | exact runes_First.mono _ _ | exact runes_Kind.mono _ _ | exact LeO.refl _ | exact LeO.none _ | refine LeO.ite ?_ ?_ | refine LeO.bind ?_ (fun _ => ?_)) | exact ih0 _ _ _ _ | exact runes_First.mono _ _ | exact runes_Kind.mono _ _ | exact LeO.none _ | refine LeO.ite ?_ ?_ | refine LeO.bind ?_ (fun _ => ?_)
theorem locate_shown.mono : ∀ a0 k, LeO (locate_shown.f k a0) (locate_shown.f (k + 1) a0) := by
  intro a0 k
  have ih0 := locate_shown.mono_l k
  unfold locate_shown.f
  repeat' first | (with_reducible first | exact ih0 _ _ _ _ | exact runes_First.mono _ _ | exact runes_Kind.mono _ _ | exact LeO.refl _ | exact LeO.none _ | refine LeO.ite ?_ ?_ | refine LeO.bind ?_ (fun _ => ?_)) | exact ih0 _ _ _ _ | exact runes_First.mono _ _ | exact runes_Kind.mono _ _ | exact LeO.none _ | refine LeO.ite ?_ ?_ | refine LeO.bind ?_ (fun _ => ?_)
set_option maxHeartbeats 8000000 in
set_option maxRecDepth 100000 in
theorem locate_shown.calls (k : Nat) (a0 : ByteArray) (r : Int) (w : World) (h : locate_shown.f k a0 = some r) :
    Calls Try.prog 30 #[.string a0] w fun e w' => e = .returned (.int .i64 r) ∧ Below w.heap.size w w' := by
  have HB := Aside0.mk (Below.refl w.heap.size w)
  have H : (locate_shown.l0 k a0 0 a0 0) = some r := h
  clear h
  have H' := Aside0.mk H
  clear H
  go_enter Try.func30, Try.ntmps30
  go_wp2_with (first | ((with_reducible refine gate_dst (N := 9) rfl ?_); refine iter_event ?hg (N := 9) ?hd (s := a0) ?hr ?_; (case hd => rfl); (case hg => rfl); (case hr => exact z181_); intro gb149 hg w2 hbox hb; have BK149 := Aside0.mk (hbox); have GW149 := Aside0.mk ((z74_ : w.heap.size ≤ gb149)); have GE149 := Aside0.mk ((z74_ : w.heap.size ≤ gb149)); replace HB := Aside0.mk (below_step z103_ hb); clear hb hbox hg))
  (try simp only [Act.put, List.setIfInBounds_toArray, List.set_cons_zero, List.set_cons_succ])
  go_loopg [3] k (fun kq v3 w' => ∃ (x3_1 : Int) (x150001_1 : Int), v3 = .int .i64 x3_1 ∧ Aside0 (locate_shown.l0 kq a0 x3_1 a0 x150001_1 = some r) ∧ Aside0 (kq ≤ k) ∧ Aside0 (w'.heap[gb149]? = some (.stringIter a0 (x150001_1 : Int).toNat)) ∧ Aside0 (Below w.heap.size w w'))
  case atStart => exact ⟨(0), (0), z180_, H', ⟨Nat.le_refl _⟩, ⟨z124_⟩, ⟨z79_⟩⟩
  case round =>
    clear H'; (try clear p2)
    obtain ⟨x3_1, x150001_1, rfl, HA, HK1, BK149, HB⟩ := hrel
    cases gk with
    | zero => exact absurd HA.out (by simp [locate_shown.l0])
    | succ k1 =>
      have H := HA.out
      clear HA
      simp only [locate_shown.l0] at H
      by_cases c3 : (x150001_1 : Int).toNat < a0.size
      rotate_left
      · rw [if_neg c3] at H
        have c3b0 : decide ((x150001_1 : Int).toNat < a0.size) = false := decide_eq_false c3
        clear c3
        obtain rfl := Option.some.inj H
        go_wp2_with (first | ((with_reducible refine gate_dst (N := 10) rfl ?_); refine next_no (w0 := w) (base := w.heap.size) ?hg (N := 10) ?hd (g := gb149) (s := a0) (p := x150001_1) ?hx rfl ?hi ?hp ?hB ?he ?_; (case hd => rfl); (case hg => rfl); (case hx => exact z179_); (case hi => exact z105_); (case hp => exact z178_); (case hB => exact z65_); (case he => exact GW149.out); intro w24 hbox hg hb; replace BK149 := Aside0.mk (hbox); replace HB := Aside0.mk (hb); clear hbox hb hg))
        go_ret
        exact ⟨z155_, z79_⟩
      rw [if_pos c3] at H
      have c3b0 : decide ((x150001_1 : Int).toNat < a0.size) = true := decide_eq_true c3
      clear c3
      replace H := Option.bind_eq_some_iff.mp H
      obtain ⟨t150, A40, H⟩ := H
      replace H : (if t150 = 0 then (if 0 ≤ (itP_ x150001_1) then (if (itP_ x150001_1) ≤ (a0.size : Int) then ((runes_First.f k1 (a0.extract ((itP_ x150001_1) : Int).toNat a0.size)).bind fun bt151 => (locate_shown.l0 k1 a0 (wrap64 ((itP_ x150001_1) + bt151.2)) a0 (itN_ a0 x150001_1))) else (none)) else (none)) else (if t150 = 2 then (if 0 ≤ (itP_ x150001_1) then (if (itP_ x150001_1) ≤ (a0.size : Int) then ((runes_First.f k1 (a0.extract ((itP_ x150001_1) : Int).toNat a0.size)).bind fun bt153 => (locate_shown.l0 k1 a0 (wrap64 ((itP_ x150001_1) + bt153.2)) a0 (itN_ a0 x150001_1))) else (none)) else (none)) else (if t150 = 6 then (if 0 ≤ (itP_ x150001_1) then (if (itP_ x150001_1) ≤ (a0.size : Int) then ((runes_First.f k1 (a0.extract ((itP_ x150001_1) : Int).toNat a0.size)).bind fun bt155 => (locate_shown.l0 k1 a0 (wrap64 ((itP_ x150001_1) + bt155.2)) a0 (itN_ a0 x150001_1))) else (none)) else (none)) else (locate_shown.l0 k1 a0 x3_1 a0 (itN_ a0 x150001_1))))) = some r := H
      have A4 := Aside0.mk A40
      clear A40
      by_cases c5 : t150 = 0
      · rw [if_pos c5] at H
        have c5b0 : (t150 == 0) = true := beq_iff_eq.mpr c5
        have c5b1 : (t150 != 0) = false := bne_eq_false_iff_eq.mpr c5
        clear c5
        by_cases c6 : 0 ≤ (itP_ x150001_1)
        rotate_left
        · rw [if_neg c6] at H
          exact absurd H (by simp)
        rw [if_pos c6] at H
        have c6b0 := eq_true c6
        have c6b1 : decide (0 ≤ (itP_ x150001_1)) = true := decide_eq_true c6
        clear c6
        by_cases c7 : (itP_ x150001_1) ≤ (a0.size : Int)
        rotate_left
        · rw [if_neg c7] at H
          exact absurd H (by simp)
        rw [if_pos c7] at H
        have c7b0 := eq_true c7
        have c7b1 : decide ((itP_ x150001_1) ≤ (a0.size : Int)) = true := decide_eq_true c7
        clear c7
        replace H := Option.bind_eq_some_iff.mp H
        obtain ⟨⟨t151, t152⟩, A80, H⟩ := H
        replace H : (locate_shown.l0 k1 a0 (wrap64 ((itP_ x150001_1) + t152)) a0 (itN_ a0 x150001_1)) = some r := H
        have A8 := Aside0.mk A80
        clear A80
        have H' := Aside0.mk H
        clear H
        go_wp2_with (first | ((with_reducible refine gate_dst (N := 10) rfl ?_); refine next_yes (w0 := w) (base := w.heap.size) ?hg (N := 10) ?hd (g := gb149) (s := a0) (p := x150001_1) ?hx rfl ?hi ?hp ?hB ?he ?_; (case hd => rfl); (case hg => rfl); (case hx => exact z179_); (case hi => exact z105_); (case hp => exact z178_); (case hB => exact z65_); (case he => exact GW149.out); intro w9 hbox hg hb; replace BK149 := Aside0.mk (hbox); replace HB := Aside0.mk (hb); clear hbox hb hg) | ((with_reducible refine gate_callee (f := 32) rfl ?_); refine goesL_ (some 15) rfl rfl Try.func32 (by kernel_rfl) rfl #[.int .i32 (itR_ a0 x150001_1)] rfl z99_ ?_; (with_reducible refine (runes_Kind.calls k1 (itR_ a0 x150001_1) t150 _ A4.out).mono ?_); rintro e w' ⟨rfl, ⟨nd, rfl⟩⟩; refine ⟨_, rfl, ?_⟩) | ((with_reducible refine gate_callee (f := 49) rfl ?_); refine goesL_ (some 24) rfl rfl Try.func49 (by kernel_rfl) rfl #[.string (a0.extract ((itP_ x150001_1) : Int).toNat a0.size)] rfl z99_ ?_; (with_reducible refine (runes_First.calls k1 (a0.extract ((itP_ x150001_1) : Int).toNat a0.size) t151 t152 _ A8.out).mono ?_); rintro e w10 ⟨rfl, hb⟩; refine ⟨_, rfl, ?_⟩; replace BK149 := Aside0.mk (blk_below (g := gb149) (o := .stringIter a0 (itN_ a0 x150001_1 : Int).toNat) z124_ hb); replace HB := Aside0.mk (below_step z79_ hb); (try clear hb); (try clear hb2); (try clear hk); (try clear hi)))
        go_roundg k1
        case measure => have := HK1.out; omega
        case rel => exact ⟨(wrap64 ((itP_ x150001_1) + t152)), (itN_ a0 x150001_1), z180_, H', ⟨z191_⟩, ⟨z124_⟩, ⟨z79_⟩⟩
      rw [if_neg c5] at H
      have c5b0 : (t150 == 0) = false := beq_eq_false_iff_ne.mpr c5
      have c5b1 : (t150 != 0) = true := bne_iff_ne.mpr c5
      by_cases c11 : t150 = 2
      · rw [if_pos c11] at H
        have c11b0 : (t150 == 2) = true := beq_iff_eq.mpr c11
        have c11b1 : (t150 != 2) = false := bne_eq_false_iff_eq.mpr c11
        clear c11
        by_cases c12 : 0 ≤ (itP_ x150001_1)
        rotate_left
        · rw [if_neg c12] at H
          exact absurd H (by simp)
        rw [if_pos c12] at H
        have c12b0 := eq_true c12
        have c12b1 : decide (0 ≤ (itP_ x150001_1)) = true := decide_eq_true c12
        clear c12
        by_cases c13 : (itP_ x150001_1) ≤ (a0.size : Int)
        rotate_left
        · rw [if_neg c13] at H
          exact absurd H (by simp)
        rw [if_pos c13] at H
        have c13b0 := eq_true c13
        have c13b1 : decide ((itP_ x150001_1) ≤ (a0.size : Int)) = true := decide_eq_true c13
        clear c13
        replace H := Option.bind_eq_some_iff.mp H
        obtain ⟨⟨t153, t154⟩, A140, H⟩ := H
        replace H : (locate_shown.l0 k1 a0 (wrap64 ((itP_ x150001_1) + t154)) a0 (itN_ a0 x150001_1)) = some r := H
        have A14 := Aside0.mk A140
        clear A140
        have H' := Aside0.mk H
        clear H
        go_wp2_with (first | ((with_reducible refine gate_dst (N := 10) rfl ?_); refine next_yes (w0 := w) (base := w.heap.size) ?hg (N := 10) ?hd (g := gb149) (s := a0) (p := x150001_1) ?hx rfl ?hi ?hp ?hB ?he ?_; (case hd => rfl); (case hg => rfl); (case hx => exact z179_); (case hi => exact z105_); (case hp => exact z178_); (case hB => exact z65_); (case he => exact GW149.out); intro w15 hbox hg hb; replace BK149 := Aside0.mk (hbox); replace HB := Aside0.mk (hb); clear hbox hb hg) | ((with_reducible refine gate_callee (f := 32) rfl ?_); refine goesL_ (some 15) rfl rfl Try.func32 (by kernel_rfl) rfl #[.int .i32 (itR_ a0 x150001_1)] rfl z99_ ?_; (with_reducible refine (runes_Kind.calls k1 (itR_ a0 x150001_1) t150 _ A4.out).mono ?_); rintro e w' ⟨rfl, ⟨nd, rfl⟩⟩; refine ⟨_, rfl, ?_⟩) | ((with_reducible refine gate_callee (f := 49) rfl ?_); refine goesL_ (some 24) rfl rfl Try.func49 (by kernel_rfl) rfl #[.string (a0.extract ((itP_ x150001_1) : Int).toNat a0.size)] rfl z99_ ?_; (with_reducible refine (runes_First.calls k1 (a0.extract ((itP_ x150001_1) : Int).toNat a0.size) t153 t154 _ A14.out).mono ?_); rintro e w16 ⟨rfl, hb⟩; refine ⟨_, rfl, ?_⟩; replace BK149 := Aside0.mk (blk_below (g := gb149) (o := .stringIter a0 (itN_ a0 x150001_1 : Int).toNat) z124_ hb); replace HB := Aside0.mk (below_step z79_ hb); (try clear hb); (try clear hb2); (try clear hk); (try clear hi)))
        go_roundg k1
        case measure => have := HK1.out; omega
        case rel => exact ⟨(wrap64 ((itP_ x150001_1) + t154)), (itN_ a0 x150001_1), z180_, H', ⟨z191_⟩, ⟨z124_⟩, ⟨z79_⟩⟩
      rw [if_neg c11] at H
      have c11b0 : (t150 == 2) = false := beq_eq_false_iff_ne.mpr c11
      have c11b1 : (t150 != 2) = true := bne_iff_ne.mpr c11
      by_cases c17 : t150 = 6
      rotate_left
      · rw [if_neg c17] at H
        have c17b0 : (t150 == 6) = false := beq_eq_false_iff_ne.mpr c17
        have c17b1 : (t150 != 6) = true := bne_iff_ne.mpr c17
        have H' := Aside0.mk H
        clear H
        go_wp2_with (first | ((with_reducible refine gate_dst (N := 10) rfl ?_); refine next_yes (w0 := w) (base := w.heap.size) ?hg (N := 10) ?hd (g := gb149) (s := a0) (p := x150001_1) ?hx rfl ?hi ?hp ?hB ?he ?_; (case hd => rfl); (case hg => rfl); (case hx => exact z179_); (case hi => exact z105_); (case hp => exact z178_); (case hB => exact z65_); (case he => exact GW149.out); intro w23 hbox hg hb; replace BK149 := Aside0.mk (hbox); replace HB := Aside0.mk (hb); clear hbox hb hg) | ((with_reducible refine gate_callee (f := 32) rfl ?_); refine goesL_ (some 15) rfl rfl Try.func32 (by kernel_rfl) rfl #[.int .i32 (itR_ a0 x150001_1)] rfl z99_ ?_; (with_reducible refine (runes_Kind.calls k1 (itR_ a0 x150001_1) t150 _ A4.out).mono ?_); rintro e w' ⟨rfl, ⟨nd, rfl⟩⟩; refine ⟨_, rfl, ?_⟩))
        go_roundg k1
        case measure => have := HK1.out; omega
        case rel => exact ⟨(x3_1), (itN_ a0 x150001_1), z180_, H', ⟨z191_⟩, ⟨z124_⟩, ⟨z79_⟩⟩
      rw [if_pos c17] at H
      have c17b0 : (t150 == 6) = true := beq_iff_eq.mpr c17
      have c17b1 : (t150 != 6) = false := bne_eq_false_iff_eq.mpr c17
      clear c17
      by_cases c18 : 0 ≤ (itP_ x150001_1)
      rotate_left
      · rw [if_neg c18] at H
        exact absurd H (by simp)
      rw [if_pos c18] at H
      have c18b0 := eq_true c18
      have c18b1 : decide (0 ≤ (itP_ x150001_1)) = true := decide_eq_true c18
      clear c18
      by_cases c19 : (itP_ x150001_1) ≤ (a0.size : Int)
      rotate_left
      · rw [if_neg c19] at H
        exact absurd H (by simp)
      rw [if_pos c19] at H
      have c19b0 := eq_true c19
      have c19b1 : decide ((itP_ x150001_1) ≤ (a0.size : Int)) = true := decide_eq_true c19
      clear c19
      replace H := Option.bind_eq_some_iff.mp H
      obtain ⟨⟨t155, t156⟩, A200, H⟩ := H
      replace H : (locate_shown.l0 k1 a0 (wrap64 ((itP_ x150001_1) + t156)) a0 (itN_ a0 x150001_1)) = some r := H
      have A20 := Aside0.mk A200
      clear A200
      have H' := Aside0.mk H
      clear H
      go_wp2_with (first | ((with_reducible refine gate_dst (N := 10) rfl ?_); refine next_yes (w0 := w) (base := w.heap.size) ?hg (N := 10) ?hd (g := gb149) (s := a0) (p := x150001_1) ?hx rfl ?hi ?hp ?hB ?he ?_; (case hd => rfl); (case hg => rfl); (case hx => exact z179_); (case hi => exact z105_); (case hp => exact z178_); (case hB => exact z65_); (case he => exact GW149.out); intro w21 hbox hg hb; replace BK149 := Aside0.mk (hbox); replace HB := Aside0.mk (hb); clear hbox hb hg) | ((with_reducible refine gate_callee (f := 32) rfl ?_); refine goesL_ (some 15) rfl rfl Try.func32 (by kernel_rfl) rfl #[.int .i32 (itR_ a0 x150001_1)] rfl z99_ ?_; (with_reducible refine (runes_Kind.calls k1 (itR_ a0 x150001_1) t150 _ A4.out).mono ?_); rintro e w' ⟨rfl, ⟨nd, rfl⟩⟩; refine ⟨_, rfl, ?_⟩) | ((with_reducible refine gate_callee (f := 49) rfl ?_); refine goesL_ (some 24) rfl rfl Try.func49 (by kernel_rfl) rfl #[.string (a0.extract ((itP_ x150001_1) : Int).toNat a0.size)] rfl z99_ ?_; (with_reducible refine (runes_First.calls k1 (a0.extract ((itP_ x150001_1) : Int).toNat a0.size) t155 t156 _ A20.out).mono ?_); rintro e w22 ⟨rfl, hb⟩; refine ⟨_, rfl, ?_⟩; replace BK149 := Aside0.mk (blk_below (g := gb149) (o := .stringIter a0 (itN_ a0 x150001_1 : Int).toNat) z124_ hb); replace HB := Aside0.mk (below_step z79_ hb); (try clear hb); (try clear hb2); (try clear hk); (try clear hi)))
      go_roundg k1
      case measure => have := HK1.out; omega
      case rel => exact ⟨(wrap64 ((itP_ x150001_1) + t156)), (itN_ a0 x150001_1), z180_, H', ⟨z191_⟩, ⟨z124_⟩, ⟨z79_⟩⟩
end Go.Proofs.Ytiabffkfabmlpaa.PLocateBack
