-- WRITTEN BY wip/xprint.py of this repo, over the kit's print; functions the print does not take are by hand
import Derived.Test.YtblmcdpfhdamjaaPPaintWindowx0
import Derived.Test.YtblmcdpfhdamjaaPPaintWindowx7
namespace Go.Proofs.Ytblmcdpfhdamjaa.PPaintWindow
open Go.RowKit Go.Proofs.YtblmcdpfhdamjaaW.PrintWords Go.Proofs.YtblmcdpfhdamjaaW.PrintLast Go.Proofs.YtblmcdpfhdamjaaW.PrintMore
attribute [local go_sem] max2_int min2_int max_two min_two max_three min_three max_four min_four   -- for this text's walks alone
set_option linter.unusedVariables false
set_option linter.unusedSimpArgs false
/-! ### scaled_Add: function 57 -/
def scaled_Add.f (a0 : Int) (a1 : Int) : Option (Int) := (scaled_Clamp.f a0).bind fun t147 => ((scaled_Clamp.f a1).bind fun t148 => ((scaled_Clamp.f (wrap64 (t147 + t148))).bind fun t149 => (some t149)))
set_option maxHeartbeats 8000000 in
set_option maxRecDepth 100000 in
theorem scaled_Add.calls (a0 : Int) (a1 : Int) (r : Int) (w : World) (h : scaled_Add.f a0 a1 = some r) :
    Calls Try.prog 57 #[.int .i64 a0, .int .i64 a1] w fun e w' => e = .returned (.int .i64 r) ∧ Below w.heap.size w w' := by
  have HB := Aside0.mk (Below.refl w.heap.size w)
  have H : ((scaled_Clamp.f a0).bind fun t147 => ((scaled_Clamp.f a1).bind fun t148 => ((scaled_Clamp.f (wrap64 (t147 + t148))).bind fun t149 => (some t149)))) = some r := h
  clear h
  replace H := Option.bind_eq_some_iff.mp H
  obtain ⟨t147, A30, H⟩ := H
  replace H : ((scaled_Clamp.f a1).bind fun t148 => ((scaled_Clamp.f (wrap64 (t147 + t148))).bind fun t149 => (some t149))) = some r := H
  have A3 := Aside0.mk A30
  clear A30
  replace H := Option.bind_eq_some_iff.mp H
  obtain ⟨t148, A40, H⟩ := H
  replace H : ((scaled_Clamp.f (wrap64 (t147 + t148))).bind fun t149 => (some t149)) = some r := H
  have A4 := Aside0.mk A40
  clear A40
  replace H := Option.bind_eq_some_iff.mp H
  obtain ⟨t149, A50, H⟩ := H
  replace H : (some t149) = some r := H
  have A5 := Aside0.mk A50
  clear A50
  obtain rfl := Option.some.inj H
  go_enter Try.func57, Try.ntmps57
  go_wp2_with (first | ((with_reducible refine gate_callee (f := 82) rfl ?_); refine goesL_ (some 6) rfl rfl Try.func82 (by kernel_rfl) rfl #[.int .i64 a0] rfl z113_ ?_; (with_reducible refine (scaled_Clamp.calls a0 t147 _ A3.out).mono ?_); rintro e w6 ⟨rfl, hb⟩; refine ⟨_, rfl, ?_⟩; replace HB := Aside0.mk (below_step z117_ hb); (try clear hb); (try clear hb2); (try clear hk); (try clear hi)) | ((with_reducible refine gate_callee (f := 82) rfl ?_); refine goesL_ (some 8) rfl rfl Try.func82 (by kernel_rfl) rfl #[.int .i64 a1] rfl z113_ ?_; (with_reducible refine (scaled_Clamp.calls a1 t148 _ A4.out).mono ?_); rintro e w7 ⟨rfl, hb⟩; refine ⟨_, rfl, ?_⟩; replace HB := Aside0.mk (below_step z117_ hb); (try clear hb); (try clear hb2); (try clear hk); (try clear hi)) | ((with_reducible refine gate_callee (f := 82) rfl ?_); refine goesL_ (some 10) rfl rfl Try.func82 (by kernel_rfl) rfl #[.int .i64 (wrap64 (t147 + t148))] rfl z113_ ?_; (with_reducible refine (scaled_Clamp.calls (wrap64 (t147 + t148)) t149 _ A5.out).mono ?_); rintro e w8 ⟨rfl, hb⟩; refine ⟨_, rfl, ?_⟩; replace HB := Aside0.mk (below_step z117_ hb); (try clear hb); (try clear hb2); (try clear hk); (try clear hi)))
  go_ret
  exact ⟨z178_, z117_⟩
/-! ### sizes of runes: by hand -/
def more_ (s : ByteArray) (i : Int) : Nat → Int → Int → Int → Int
  | 0, n, _, _ => n - i
  | k + 1, n, lo, hi => if (s.size : Int) ≤ n then 0 else if bt s n < lo then 0 else if hi < bt s n then 0 else more_ s i k (n + 1) 128 191
def lead_ (s : ByteArray) (i c : Int) : Int :=
  if c < 128 then 1 else if c < 194 then 0 else if 244 < c then 0 else
  if c < 224 then more_ s i 1 (i + 1) 128 191 else
  if c < 240 then (if c = 224 then more_ s i 2 (i + 1) 160 191 else if c = 237 then more_ s i 2 (i + 1) 128 159 else more_ s i 2 (i + 1) 128 191) else
  if c = 240 then more_ s i 3 (i + 1) 144 191 else if c = 244 then more_ s i 3 (i + 1) 128 143 else more_ s i 3 (i + 1) 128 191
def rsize_ (s : ByteArray) (i : Int) : Int := if i < 0 then 0 else if (s.size : Int) ≤ i then 0 else lead_ s i (bt s i)
def intOfS : Value → Int | .int _ q => q | _ => 0
/-! ### texts: by hand: what the machine reads of a right text -/
def vOf (s : ByteArray) (i n : Int) : Int :=
  if n = 1 then bt s i else if n = 2 then bt s i % 32 * 64 + bt s (i + 1) % 64
  else if n = 3 then (bt s i % 16 * 64 + bt s (i + 1) % 64) * 64 + bt s (i + 2) % 64
  else ((bt s i % 8 * 64 + bt s (i + 1) % 64) * 64 + bt s (i + 2) % 64) * 64 + bt s (i + 3) % 64
theorem vOf_range (s : ByteArray) (i n : Int) : 0 ≤ vOf s i n ∧ vOf s i n ≤ 2097151 := by
  have hb := bt_range s i
  have hb1 := bt_range s (i + 1)
  have hb2 := bt_range s (i + 2)
  have hb3 := bt_range s (i + 3)
  unfold vOf
  (repeat' split) <;> omega
/-- The runes from a place on, where each begins, and the first wrong place (-1). -/
def rl_ (s : ByteArray) : Nat → Int → List Int
  | 0, _ => []
  | k + 1, i => if i < (s.size : Int) then (if rsize_ s i = 0 then [] else vOf s i (rsize_ s i) :: rl_ s k (i + rsize_ s i)) else []
def al_ (s : ByteArray) : Nat → Int → List Int
  | 0, _ => []
  | k + 1, i => if i < (s.size : Int) then (if rsize_ s i = 0 then [] else i :: al_ s k (i + rsize_ s i)) else []
def bd_ (s : ByteArray) : Nat → Int → Int
  | 0, _ => -1
  | k + 1, i => if i < (s.size : Int) then (if rsize_ s i = 0 then i else bd_ s k (i + rsize_ s i)) else -1
def right_ (s : ByteArray) : Bool := decide (bd_ s (s.size + 1) 0 < 0)
def is2_ (s : ByteArray) (i : Int) : Bool := decide (194 ≤ bt s i ∧ bt s i < 224 ∧ 128 ≤ bt s (i + 1) ∧ bt s (i + 1) ≤ 191)
def is3_ (s : ByteArray) (i : Int) : Bool := decide (224 ≤ bt s i ∧ bt s i < 240 ∧ (bt s i = 224 → 160 ≤ bt s (i + 1)) ∧ (bt s i = 237 → bt s (i + 1) ≤ 159) ∧ 128 ≤ bt s (i + 1) ∧ bt s (i + 1) ≤ 191 ∧ 128 ≤ bt s (i + 2) ∧ bt s (i + 2) ≤ 191)
def is4_ (s : ByteArray) (i : Int) : Bool := decide (240 ≤ bt s i ∧ bt s i ≤ 244 ∧ (bt s i = 240 → 144 ≤ bt s (i + 1)) ∧ (bt s i = 244 → bt s (i + 1) ≤ 143) ∧ 128 ≤ bt s (i + 1) ∧ bt s (i + 1) ≤ 191 ∧ 128 ≤ bt s (i + 2) ∧ bt s (i + 2) ≤ 191 ∧ 128 ≤ bt s (i + 3) ∧ bt s (i + 3) ≤ 191)
theorem is2_iff (s : ByteArray) (i : Int) : is2_ s i = true ↔ (194 ≤ bt s i ∧ bt s i < 224 ∧ 128 ≤ bt s (i + 1) ∧ bt s (i + 1) ≤ 191) := decide_eq_true_iff
theorem is3_iff (s : ByteArray) (i : Int) : is3_ s i = true ↔ (224 ≤ bt s i ∧ bt s i < 240 ∧ (bt s i = 224 → 160 ≤ bt s (i + 1)) ∧ (bt s i = 237 → bt s (i + 1) ≤ 159) ∧ 128 ≤ bt s (i + 1) ∧ bt s (i + 1) ≤ 191 ∧ 128 ≤ bt s (i + 2) ∧ bt s (i + 2) ≤ 191) := decide_eq_true_iff
theorem is4_iff (s : ByteArray) (i : Int) : is4_ s i = true ↔ (240 ≤ bt s i ∧ bt s i ≤ 244 ∧ (bt s i = 240 → 144 ≤ bt s (i + 1)) ∧ (bt s i = 244 → bt s (i + 1) ≤ 143) ∧ 128 ≤ bt s (i + 1) ∧ bt s (i + 1) ≤ 191 ∧ 128 ≤ bt s (i + 2) ∧ bt s (i + 2) ≤ 191 ∧ 128 ≤ bt s (i + 3) ∧ bt s (i + 3) ≤ 191) := decide_eq_true_iff
theorem more_eq (s : ByteArray) (i : Int) : ∀ (k : Nat) (n lo hi : Int), more_ s i (k + 1) n lo hi = if (s.size : Int) ≤ n ∨ bt s n < lo ∨ hi < bt s n then 0 else more_ s i k (n + 1) 128 191 := by
  intro k n lo hi
  simp only [more_]
  by_cases h1 : (s.size : Int) ≤ n
  · rw [if_pos h1, if_pos (.inl h1)]
  rw [if_neg h1]
  by_cases h2 : bt s n < lo
  · rw [if_pos h2, if_pos (.inr (.inl h2))]
  rw [if_neg h2]
  by_cases h3 : hi < bt s n
  · rw [if_pos h3, if_pos (.inr (.inr h3))]
  rw [if_neg h3, if_neg (by omega)]
theorem rsize_is (s : ByteArray) (i : Int) (h0 : 0 ≤ i) (h1 : i < s.size) :
    rsize_ s i = if bt s i < 128 then 1 else if i + 2 ≤ s.size ∧ is2_ s i = true then 2 else if i + 3 ≤ s.size ∧ is3_ s i = true then 3 else if i + 4 ≤ s.size ∧ is4_ s i = true then 4 else 0 := by
  have hb := bt_range s i
  have hb1 := bt_range s (i + 1)
  have hb2 := bt_range s (i + 2)
  have hb3 := bt_range s (i + 3)
  have e2 : i + 1 + 1 = i + 2 := by omega
  have e3 : i + 2 + 1 = i + 3 := by omega
  have e4 : i + 3 + 1 - i = 4 := by omega
  have m2 := is2_iff s i
  have m3 := is3_iff s i
  have m4 := is4_iff s i
  generalize is2_ s i = a2 at *
  generalize is3_ s i = a3 at *
  generalize is4_ s i = a4 at *
  have z0 : ∀ n, more_ s i 0 n 128 191 = n - i := fun _ => rfl
  unfold rsize_ lead_
  rw [if_neg (by omega), if_neg (by omega)]
  simp only [more_eq, z0, e2, e3]
  generalize bt s i = c at *
  generalize bt s (i + 1) = d at *
  generalize bt s (i + 2) = e at *
  generalize bt s (i + 3) = f at *
  by_cases b2 : i + 2 ≤ s.size ∧ a2 = true
  · have := m2.1 b2.2
    rw [if_neg (by omega), if_neg (by omega), if_neg (by omega), if_pos (by omega), if_neg (by omega), if_neg (by omega), if_pos b2]
    omega
  by_cases b3 : i + 3 ≤ s.size ∧ a3 = true
  · have := m3.1 b3.2
    rw [if_neg (by omega), if_neg (by omega), if_neg (by omega), if_neg (by omega), if_pos (by omega), if_neg (by omega : ¬ c < 128), if_neg b2, if_pos b3]
    by_cases c1 : c = 224
    · rw [if_pos c1, if_neg (by omega), if_neg (by omega)]; omega
    rw [if_neg c1]
    by_cases c2 : c = 237
    · rw [if_pos c2, if_neg (by omega), if_neg (by omega)]; omega
    rw [if_neg c2, if_neg (by omega), if_neg (by omega)]; omega
  by_cases b4 : i + 4 ≤ s.size ∧ a4 = true
  · have := m4.1 b4.2
    rw [if_neg (by omega), if_neg (by omega), if_neg (by omega), if_neg (by omega), if_neg (by omega), if_neg (by omega : ¬ c < 128), if_neg b2, if_neg b3, if_pos b4]
    by_cases c1 : c = 240
    · rw [if_pos c1, if_neg (by omega), if_neg (by omega), if_neg (by omega)]; omega
    rw [if_neg c1]
    by_cases c2 : c = 244
    · rw [if_pos c2, if_neg (by omega), if_neg (by omega), if_neg (by omega)]; omega
    rw [if_neg c2, if_neg (by omega), if_neg (by omega), if_neg (by omega)]; omega
  rw [if_neg b2, if_neg b3, if_neg b4]
  have n2 : ¬ (i + 2 ≤ s.size ∧ 194 ≤ c ∧ c < 224 ∧ 128 ≤ d ∧ d ≤ 191) := fun h => b2 ⟨h.1, m2.2 h.2⟩
  have n3 : ¬ (i + 3 ≤ s.size ∧ 224 ≤ c ∧ c < 240 ∧ (c = 224 → 160 ≤ d) ∧ (c = 237 → d ≤ 159) ∧ 128 ≤ d ∧ d ≤ 191 ∧ 128 ≤ e ∧ e ≤ 191) := fun h => b3 ⟨h.1, m3.2 h.2⟩
  have n4 : ¬ (i + 4 ≤ s.size ∧ 240 ≤ c ∧ c ≤ 244 ∧ (c = 240 → 144 ≤ d) ∧ (c = 244 → d ≤ 143) ∧ 128 ≤ d ∧ d ≤ 191 ∧ 128 ≤ e ∧ e ≤ 191 ∧ 128 ≤ f ∧ f ≤ 191) := fun h => b4 ⟨h.1, m4.2 h.2⟩
  clear m2 m3 m4 b2 b3 b4
  by_cases c1 : c < 128
  · rw [if_pos c1, if_pos c1]
  rw [if_neg c1, if_neg c1]
  by_cases c2 : c < 194
  · rw [if_pos c2]
  rw [if_neg c2]
  by_cases c3 : 244 < c
  · rw [if_pos c3]
  rw [if_neg c3]
  by_cases c4 : c < 224
  · rw [if_pos c4, if_pos (by omega)]
  rw [if_neg c4]
  by_cases c5 : c < 240
  · rw [if_pos c5]
    by_cases k1 : c = 224
    · rw [if_pos k1]
      by_cases q : (s.size : Int) ≤ i + 1 ∨ d < 160 ∨ 191 < d
      rotate_left
      · rw [if_neg q, if_pos (by omega)]
      rw [if_pos q]
    rw [if_neg k1]
    by_cases k2 : c = 237
    · rw [if_pos k2]
      by_cases q : (s.size : Int) ≤ i + 1 ∨ d < 128 ∨ 159 < d
      rotate_left
      · rw [if_neg q, if_pos (by omega)]
      rw [if_pos q]
    rw [if_neg k2]
    by_cases q : (s.size : Int) ≤ i + 1 ∨ d < 128 ∨ 191 < d
    rotate_left
    · rw [if_neg q, if_pos (by omega)]
    rw [if_pos q]
  rw [if_neg c5]
  by_cases k1 : c = 240
  · rw [if_pos k1]
    by_cases q : (s.size : Int) ≤ i + 1 ∨ d < 144 ∨ 191 < d
    · rw [if_pos q]
    rw [if_neg q]
    by_cases q2 : (s.size : Int) ≤ i + 2 ∨ e < 128 ∨ 191 < e
    rotate_left
    · rw [if_neg q2, if_pos (by omega)]
    rw [if_pos q2]
  rw [if_neg k1]
  by_cases k2 : c = 244
  · rw [if_pos k2]
    by_cases q : (s.size : Int) ≤ i + 1 ∨ d < 128 ∨ 143 < d
    · rw [if_pos q]
    rw [if_neg q]
    by_cases q2 : (s.size : Int) ≤ i + 2 ∨ e < 128 ∨ 191 < e
    rotate_left
    · rw [if_neg q2, if_pos (by omega)]
    rw [if_pos q2]
  rw [if_neg k2]
  by_cases q : (s.size : Int) ≤ i + 1 ∨ d < 128 ∨ 191 < d
  · rw [if_pos q]
  rw [if_neg q]
  by_cases q2 : (s.size : Int) ≤ i + 2 ∨ e < 128 ∨ 191 < e
  rotate_left
  · rw [if_neg q2, if_pos (by omega)]
  rw [if_pos q2]
theorem getb (s : ByteArray) (i k : Nat) (h : i + k < s.size) : ((s.get! (i + k)).toNat : Int) = bt s ((i : Int) + k) := by
  have e : ((i : Int) + (k : Int)).toNat = i + k := by omega
  rw [← bt_at s _ (by rw [e]; exact h)]
  simp only [e]
  have : s.get! (i + k) = s[i + k]'h := by
    simp [ByteArray.get!, getElem!_pos, h]
    rfl
  rw [this]
theorem decode_eq {s : ByteArray} {i : Nat} (hi : i < s.size) (hz : ¬ rsize_ s i = 0) : Utf8.decode s i = ((vOf s i (rsize_ s i)).toNat, (rsize_ s i).toNat) := by
  have hr := rsize_is s i (by omega) (by omega)
  have hb0 := getb s i 0 (by omega)
  rw [show ((i : Int) + ((0 : Nat) : Int)) = (i : Int) by omega] at hb0
  have hb := bt_range s i
  have hb1 := bt_range s (i + 1)
  have hb2 := bt_range s (i + 2)
  have hb3 := bt_range s (i + 3)
  simp only [Utf8.decode]
  by_cases c1 : bt s i < 128
  · rw [if_pos c1] at hr
    rw [hr, if_pos (by omega)]
    have : vOf s i 1 = bt s i := by unfold vOf; rw [if_pos rfl]
    rw [this, ← hb0]; rfl
  rw [if_neg c1] at hr
  rw [if_neg (by omega)]
  by_cases c2 : (i : Int) + 2 ≤ s.size ∧ is2_ s i = true
  · rw [if_pos c2] at hr
    have h2 := (is2_iff s i).1 c2.2
    have g1 := getb s i 1 (by omega)
    rw [show ((1 : Nat) : Int) = 1 from rfl] at g1
    have e1 : ((s.get! (i + 0)).toNat / 32 == 6 && (decide (i + 1 < s.size) && (s.get! (i + 1)).toNat / 64 == 2)) = true := by
      simp only [Bool.and_eq_true, beq_iff_eq, decide_eq_true_eq]
      refine ⟨by omega, by omega, by omega⟩
    rw [if_pos e1, if_pos (by omega), hr]
    have : vOf s i 2 = bt s i % 32 * 64 + bt s (i + 1) % 64 := by unfold vOf; rw [if_neg (by decide), if_pos rfl]
    rw [this]
    refine Prod.ext ?_ rfl
    show _ = (bt s i % 32 * 64 + bt s (i + 1) % 64).toNat
    omega
  rw [if_neg c2] at hr
  have n1 : ¬ ((s.get! (i + 0)).toNat / 32 == 6 && (decide (i + 1 < s.size) && (s.get! (i + 1)).toNat / 64 == 2)) = true ∨ True := .inr trivial
  clear n1
  by_cases c3 : (i : Int) + 3 ≤ s.size ∧ is3_ s i = true
  · rw [if_pos c3] at hr
    have h3 := (is3_iff s i).1 c3.2
    have g1 := getb s i 1 (by omega)
    have g2 := getb s i 2 (by omega)
    rw [show ((1 : Nat) : Int) = 1 from rfl] at g1
    rw [show ((2 : Nat) : Int) = 2 from rfl] at g2
    have e0 : ¬ ((s.get! (i + 0)).toNat / 32 == 6 && (decide (i + 1 < s.size) && (s.get! (i + 1)).toNat / 64 == 2)) = true := by
      simp only [Bool.and_eq_true, beq_iff_eq, decide_eq_true_eq]
      omega
    have e1 : ((s.get! (i + 0)).toNat / 16 == 14 && (decide (i + 1 < s.size) && (s.get! (i + 1)).toNat / 64 == 2) && (decide (i + 2 < s.size) && (s.get! (i + 2)).toNat / 64 == 2)) = true := by
      simp only [Bool.and_eq_true, beq_iff_eq, decide_eq_true_eq]
      refine ⟨⟨by omega, by omega, by omega⟩, by omega, by omega⟩
    have e2 : ∀ c : Nat, (c : Int) = (bt s i % 16 * 64 + bt s (i + 1) % 64) * 64 + bt s (i + 2) % 64 → (decide (c ≥ 2048) && Utf8.valid c) = true := by
      intro c hc
      simp only [Utf8.valid, Bool.and_eq_true, Bool.or_eq_true, decide_eq_true_eq]
      omega
    rw [if_neg e0, if_pos e1, if_pos (e2 _ (by omega)), hr]
    have : vOf s i 3 = (bt s i % 16 * 64 + bt s (i + 1) % 64) * 64 + bt s (i + 2) % 64 := by unfold vOf; rw [if_neg (by decide), if_neg (by decide), if_pos rfl]
    rw [this]
    refine Prod.ext ?_ rfl
    show _ = ((bt s i % 16 * 64 + bt s (i + 1) % 64) * 64 + bt s (i + 2) % 64).toNat
    omega
  rw [if_neg c3] at hr
  by_cases c4 : (i : Int) + 4 ≤ s.size ∧ is4_ s i = true
  · rw [if_pos c4] at hr
    have h4 := (is4_iff s i).1 c4.2
    have g1 := getb s i 1 (by omega)
    have g2 := getb s i 2 (by omega)
    have g3 := getb s i 3 (by omega)
    rw [show ((1 : Nat) : Int) = 1 from rfl] at g1
    rw [show ((2 : Nat) : Int) = 2 from rfl] at g2
    rw [show ((3 : Nat) : Int) = 3 from rfl] at g3
    have e0 : ¬ ((s.get! (i + 0)).toNat / 32 == 6 && (decide (i + 1 < s.size) && (s.get! (i + 1)).toNat / 64 == 2)) = true := by
      simp only [Bool.and_eq_true, beq_iff_eq, decide_eq_true_eq]
      omega
    have e1 : ¬ ((s.get! (i + 0)).toNat / 16 == 14 && (decide (i + 1 < s.size) && (s.get! (i + 1)).toNat / 64 == 2) && (decide (i + 2 < s.size) && (s.get! (i + 2)).toNat / 64 == 2)) = true := by
      simp only [Bool.and_eq_true, beq_iff_eq, decide_eq_true_eq]
      omega
    have e3 : ((s.get! (i + 0)).toNat / 8 == 30 && (decide (i + 1 < s.size) && (s.get! (i + 1)).toNat / 64 == 2) && (decide (i + 2 < s.size) && (s.get! (i + 2)).toNat / 64 == 2) && (decide (i + 3 < s.size) && (s.get! (i + 3)).toNat / 64 == 2)) = true := by
      simp only [Bool.and_eq_true, beq_iff_eq, decide_eq_true_eq]
      refine ⟨⟨⟨by omega, by omega, by omega⟩, by omega, by omega⟩, by omega, by omega⟩
    have e2 : ∀ c : Nat, (c : Int) = ((bt s i % 8 * 64 + bt s (i + 1) % 64) * 64 + bt s (i + 2) % 64) * 64 + bt s (i + 3) % 64 → (decide (c ≥ 65536) && Utf8.valid c) = true := by
      intro c hc
      simp only [Utf8.valid, Bool.and_eq_true, Bool.or_eq_true, decide_eq_true_eq]
      omega
    rw [if_neg e0, if_neg e1, if_pos e3, if_pos (e2 _ (by omega)), hr]
    have : vOf s i 4 = ((bt s i % 8 * 64 + bt s (i + 1) % 64) * 64 + bt s (i + 2) % 64) * 64 + bt s (i + 3) % 64 := by unfold vOf; rw [if_neg (by decide), if_neg (by decide), if_neg (by decide)]
    rw [this]
    refine Prod.ext ?_ rfl
    show _ = (((bt s i % 8 * 64 + bt s (i + 1) % 64) * 64 + bt s (i + 2) % 64) * 64 + bt s (i + 3) % 64).toNat
    omega
  rw [if_neg c4] at hr
  exact absurd hr hz
theorem bd_step {s : ByteArray} {q : Nat} {i : Int} (h : bd_ s (q + 1) i < 0) (h0 : 0 ≤ i) (hi : i < s.size) : ¬ rsize_ s i = 0 ∧ bd_ s q (i + rsize_ s i) < 0 := by
  simp only [bd_] at h
  rw [if_pos hi] at h
  by_cases hz : rsize_ s i = 0
  rotate_left
  · rw [if_neg hz] at h; exact ⟨hz, h⟩
  rw [if_pos hz] at h; omega
theorem more_rng (s : ByteArray) (i : Int) : ∀ (k : Nat) (n lo hi : Int), n ≤ s.size → more_ s i k n lo hi = 0 ∨ (more_ s i k n lo hi = n + k - i ∧ n + k ≤ s.size)
  | 0, n, _, _, h => by right; simp only [more_]; omega
  | k + 1, n, lo, hi, h => by
    simp only [more_]
    split
    · left; rfl
    split
    · left; rfl
    split
    · left; rfl
    have := more_rng s i k (n + 1) 128 191 (by omega)
    omega
theorem rsize_rng (s : ByteArray) (i : Int) : rsize_ s i = 0 ∨ (1 ≤ rsize_ s i ∧ rsize_ s i ≤ 4 ∧ i + rsize_ s i ≤ s.size) := by
  unfold rsize_
  split
  · left; rfl
  split
  · left; rfl
  unfold lead_
  have a1 := more_rng s i 1 (i + 1) 128 191 (by omega)
  have a2 := more_rng s i 2 (i + 1) 160 191 (by omega)
  have a3 := more_rng s i 2 (i + 1) 128 159 (by omega)
  have a4 := more_rng s i 2 (i + 1) 128 191 (by omega)
  have a5 := more_rng s i 3 (i + 1) 144 191 (by omega)
  have a6 := more_rng s i 3 (i + 1) 128 143 (by omega)
  have a7 := more_rng s i 3 (i + 1) 128 191 (by omega)
  (repeat' split) <;> omega
theorem rl_cons {s : ByteArray} {q : Nat} {i : Int} (hi : i < s.size) (hz : ¬ rsize_ s i = 0) : rl_ s (q + 1) i = vOf s i (rsize_ s i) :: rl_ s q (i + rsize_ s i) := by
  simp only [rl_]; rw [if_pos hi, if_neg hz]
theorem rl_end {s : ByteArray} {q : Nat} {i : Int} (hi : ¬ i < s.size) : rl_ s q i = [] := by
  cases q with
  | zero => rfl
  | succ q => simp only [rl_]; rw [if_neg hi]
/-! ### runes_size: by hand (its code holds a label) -/
def runes_size.f (a0 : ByteArray) (a1 : Int) : Option Int := if (a0.size : Int) ≤ 4611686018427387904 then some (rsize_ a0 a1) else none
theorem intOfS_int (k : IntKind) (q : Int) : intOfS (.int k q) = q := rfl
theorem frame_of (t : Array Value) (n : Nat) (h : t.size = n) : t = ((List.range n).map (fun i => t.getD i undef)).toArray := by
  apply Array.ext
  · simp [h]
  · intro i h1 h2
    simp [Array.getD, h1]
def sizeFrame (a0 : ByteArray) (a1 : Int) (need : Nat) (low high c n : Int) (a_ : Act) : Prop :=
  a_.defers = [] ∧ a_.tmps.size = 74 ∧ a_.tmps.getD 0 undef = .string a0 ∧ a_.tmps.getD 1 undef = .int .i64 a1 ∧ a_.tmps.getD 2 undef = undef ∧ a_.tmps.getD 3 undef = undef ∧ a_.tmps.getD 5 undef = .int .i64 need ∧ a_.tmps.getD 6 undef = .int .u8 low ∧ a_.tmps.getD 7 undef = .int .u8 high ∧ a_.tmps.getD 8 undef = .int .u8 c ∧ a_.tmps.getD 9 undef = .int .i64 n
theorem sizeFrame_open {a0 : ByteArray} {a1 : Int} {need : Nat} {low high c n : Int} {a_ : Act} (h : sizeFrame a0 a1 need low high c n a_) :
    ∃ u : Nat → Value, a_ = { tmps := #[.string a0, .int .i64 a1, undef, undef, u 4, .int .i64 need, .int .u8 low, .int .u8 high, .int .u8 c, .int .i64 n, u 10, u 11, u 12, u 13, u 14, u 15, u 16, u 17, u 18, u 19, u 20, u 21, u 22, u 23, u 24, u 25, u 26, u 27, u 28, u 29, u 30, u 31, u 32, u 33, u 34, u 35, u 36, u 37, u 38, u 39, u 40, u 41, u 42, u 43, u 44, u 45, u 46, u 47, u 48, u 49, u 50, u 51, u 52, u 53, u 54, u 55, u 56, u 57, u 58, u 59, u 60, u 61, u 62, u 63, u 64, u 65, u 66, u 67, u 68, u 69, u 70, u 71, u 72, u 73], defers := [] } := by
  obtain ⟨t, d⟩ := a_
  obtain ⟨rfl, hs, h0, h1, h2, h3, h5, h6, h7, h8, h9⟩ := h
  have hf := frame_of t 74 hs
  generalize hu : (fun i => t.getD i undef) = u at hf
  replace h0 : u 0 = .string a0 := by rw [← hu]; exact h0
  replace h1 : u 1 = .int .i64 a1 := by rw [← hu]; exact h1
  replace h2 : u 2 = undef := by rw [← hu]; exact h2
  replace h3 : u 3 = undef := by rw [← hu]; exact h3
  replace h5 : u 5 = .int .i64 need := by rw [← hu]; exact h5
  replace h6 : u 6 = .int .u8 low := by rw [← hu]; exact h6
  replace h7 : u 7 = .int .u8 high := by rw [← hu]; exact h7
  replace h8 : u 8 = .int .u8 c := by rw [← hu]; exact h8
  replace h9 : u 9 = .int .i64 n := by rw [← hu]; exact h9
  refine ⟨u, ?_⟩
  replace hf : t = #[u 0, u 1, u 2, u 3, u 4, u 5, u 6, u 7, u 8, u 9, u 10, u 11, u 12, u 13, u 14, u 15, u 16, u 17, u 18, u 19, u 20, u 21, u 22, u 23, u 24, u 25, u 26, u 27, u 28, u 29, u 30, u 31, u 32, u 33, u 34, u 35, u 36, u 37, u 38, u 39, u 40, u 41, u 42, u 43, u 44, u 45, u 46, u 47, u 48, u 49, u 50, u 51, u 52, u 53, u 54, u 55, u 56, u 57, u 58, u 59, u 60, u 61, u 62, u 63, u 64, u 65, u 66, u 67, u 68, u 69, u 70, u 71, u 72, u 73] := hf
  rw [h0, h1, h2, h3, h5, h6, h7, h8, h9] at hf
  rw [hf]
set_option maxHeartbeats 16000000 in
set_option maxRecDepth 100000 in
theorem runes_size.calls (a0 : ByteArray) (a1 : Int) (r : Int) (w : World) (h : runes_size.f a0 a1 = some r) :
    Calls Try.prog 108 #[.string a0, .int .i64 a1] w fun e w' => e = .returned (.int .i64 r) ∧ Drawn0 w w' := by
  unfold runes_size.f at h
  by_cases hsz : (a0.size : Int) ≤ 4611686018427387904
  case neg => rw [if_neg hsz] at h; cases h
  rw [if_pos hsz] at h
  have H0 : rsize_ a0 a1 = r := Option.some.inj h
  clear h
  have H := Aside0.mk H0
  clear H0
  go_enter Try.func108, Try.ntmps108
  go_wp2
  refine wp_scope_jumps 0 (fun a_ w_ => ∃ (need : Nat) (low high c n : Int), sizeFrame a0 a1 need low high c n a_ ∧ Aside0 (need ≤ 3 ∧ 0 ≤ low ∧ low ≤ 255 ∧ 0 ≤ high ∧ high ≤ 255 ∧ 0 ≤ a1 ∧ a1 < n ∧ n + (need : Int) ≤ (a0.size : Int) + 4 ∧ more_ a0 a1 need n low high = r) ∧ Drawn0 w w_) (fun a_ _ => (intOfS (a_.tmps.getD 5 undef)).toNat) rfl ?_ ?_
  · by_cases c1 : a1 < 0
    · skip
      have c1b0 : decide (a1 < 0) = true := decide_eq_true c1
      have HR : r = 0 := by have h_ := H.out; unfold rsize_ at h_; rw [if_pos c1] at h_; exact h_.symm
      subst HR
      clear H
      go_wp2
      simp only [Exit.jump]
      go_ret
      exact ⟨z208_, z199_⟩
    by_cases c2 : (a0.size : Int) ≤ a1
    · skip
      have c1b0 : decide (a1 < 0) = false := decide_eq_false c1
      have c2b0 : decide (a1 ≥ (a0.size : Int)) = true := decide_eq_true c2
      have HR : r = 0 := by have h_ := H.out; unfold rsize_ at h_; rw [if_neg c1, if_pos c2] at h_; exact h_.symm
      subst HR
      clear H
      go_wp2
      simp only [Exit.jump]
      go_ret
      exact ⟨z208_, z199_⟩
    have H2 := H.out
    unfold rsize_ at H2
    rw [if_neg c1, if_neg c2] at H2
    clear H
    have c1b0 : decide (a1 < 0) = false := decide_eq_false c1
    have c2b0 : decide (a1 ≥ (a0.size : Int)) = false := decide_eq_false c2
    have i0 : 0 ≤ a1 := by omega
    have i1 : a1 < (a0.size : Int) := by omega
    have p6 := eq_true i0
    have q6 := eq_true i1
    have hx6 := bt_at a0 a1
    have hc := bt_range a0 a1
    obtain ⟨hc0, hc1⟩ := hc
    clear c1 c2
    obtain ⟨c, hcc⟩ : ∃ c_ : Int, bt a0 a1 = c_ := ⟨_, rfl⟩
    rw [hcc] at hx6 hc0 hc1 H2
    clear hcc
    unfold lead_ at H2
    go_upto_block 0 with (fail)
    go_cut [5, 6, 7] (fun v5 v6 v7 wc => ∃ (need : Nat) (low high : Int), v5 = .int .i64 need ∧ v6 = .int .u8 low ∧ v7 = .int .u8 high ∧ Aside0 (1 ≤ need ∧ need ≤ 3 ∧ 0 ≤ low ∧ low ≤ 255 ∧ 0 ≤ high ∧ high ≤ 255 ∧ more_ a0 a1 need (a1 + 1) low high = r) ∧ Drawn0 w wc)
    case first =>
      by_cases c3 : c < 128
      · rw [if_pos c3] at H2
        have c3b0 : decide (c < 128) = true := decide_eq_true c3
        have HR : r = 1 := H2.symm
        subst HR
        clear H2
        go_wp2
        simp only [Exit.jump]
        go_ret
        exact ⟨z208_, z199_⟩
      rw [if_neg c3] at H2
      have c3b0 : decide (c < 128) = false := decide_eq_false c3
      by_cases c4 : c < 194
      · rw [if_pos c4] at H2
        have c4b0 : decide (c < 194) = true := decide_eq_true c4
        have HR : r = 0 := H2.symm
        subst HR
        clear H2
        go_wp2
        simp only [Exit.jump]
        go_ret
        exact ⟨z208_, z199_⟩
      rw [if_neg c4] at H2
      have c4b0 : decide (c < 194) = false := decide_eq_false c4
      by_cases c5 : 244 < c
      · rw [if_pos c5] at H2
        have c5b0 : decide (c > 244) = true := decide_eq_true c5
        have HR : r = 0 := H2.symm
        subst HR
        clear H2
        go_wp2
        simp only [Exit.jump]
        go_ret
        exact ⟨z208_, z199_⟩
      rw [if_neg c5] at H2
      have c5b0 : decide (c > 244) = false := decide_eq_false c5
      by_cases c6 : c < 224
      · rw [if_pos c6] at H2
        have c6b0 : decide (c < 224) = true := decide_eq_true c6
        have H3 := Aside0.mk H2
        clear H2
        go_wp2
        go_meet
        case rel => exact ⟨1, _, _, z216_, rfl, rfl, ⟨by omega, by omega, by omega, by omega, by omega, by omega, H3.out⟩, z199_⟩
      rw [if_neg c6] at H2
      have c6b0 : decide (c < 224) = false := decide_eq_false c6
      by_cases c7 : c < 240
      · rw [if_pos c7] at H2
        have c7b0 : decide (c < 240) = true := decide_eq_true c7
        by_cases c8 : c = 224
        · rw [if_pos c8] at H2
          have c8b0 : (c == 224) = true := beq_iff_eq.mpr c8
          clear c8
          have c8b9 : (c == 237) = false := beq_eq_false_iff_ne.mpr (by have := beq_iff_eq.mp c8b0; omega)
          have H3 := Aside0.mk H2
          clear H2
          go_wp2
          go_meet
          case rel => exact ⟨2, _, _, z216_, rfl, rfl, ⟨by omega, by omega, by omega, by omega, by omega, by omega, H3.out⟩, z199_⟩
        rw [if_neg c8] at H2
        have c8b0 : (c == 224) = false := beq_eq_false_iff_ne.mpr c8
        by_cases c9 : c = 237
        · rw [if_pos c9] at H2
          have c9b0 : (c == 237) = true := beq_iff_eq.mpr c9
          clear c9
          have H3 := Aside0.mk H2
          clear H2
          go_wp2
          go_meet
          case rel => exact ⟨2, _, _, z216_, rfl, rfl, ⟨by omega, by omega, by omega, by omega, by omega, by omega, H3.out⟩, z199_⟩
        rw [if_neg c9] at H2
        have c9b0 : (c == 237) = false := beq_eq_false_iff_ne.mpr c9
        have H3 := Aside0.mk H2
        clear H2
        go_wp2
        go_meet
        case rel => exact ⟨2, _, _, z216_, rfl, rfl, ⟨by omega, by omega, by omega, by omega, by omega, by omega, H3.out⟩, z199_⟩
      rw [if_neg c7] at H2
      have c7b0 : decide (c < 240) = false := decide_eq_false c7
      by_cases c8 : c = 240
      · rw [if_pos c8] at H2
        have c8b0 : (c == 240) = true := beq_iff_eq.mpr c8
        clear c8
        have c8b9 : (c == 244) = false := beq_eq_false_iff_ne.mpr (by have := beq_iff_eq.mp c8b0; omega)
        have H3 := Aside0.mk H2
        clear H2
        go_wp2
        go_meet
        case rel => exact ⟨3, _, _, z216_, rfl, rfl, ⟨by omega, by omega, by omega, by omega, by omega, by omega, H3.out⟩, z199_⟩
      rw [if_neg c8] at H2
      have c8b0 : (c == 240) = false := beq_eq_false_iff_ne.mpr c8
      by_cases c9 : c = 244
      · rw [if_pos c9] at H2
        have c9b0 : (c == 244) = true := beq_iff_eq.mpr c9
        clear c9
        have H3 := Aside0.mk H2
        clear H2
        go_wp2
        go_meet
        case rel => exact ⟨3, _, _, z216_, rfl, rfl, ⟨by omega, by omega, by omega, by omega, by omega, by omega, H3.out⟩, z199_⟩
      rw [if_neg c9] at H2
      have c9b0 : (c == 244) = false := beq_eq_false_iff_ne.mpr c9
      have H3 := Aside0.mk H2
      clear H2
      go_wp2
      go_meet
      case rel => exact ⟨3, _, _, z216_, rfl, rfl, ⟨by omega, by omega, by omega, by omega, by omega, by omega, H3.out⟩, z199_⟩
    case rest =>
      obtain ⟨need, low, high, rfl, rfl, rfl, HA, ⟨m0, rfl⟩⟩ := hcut
      obtain ⟨g0, g1, g2, g3, g4, g5, H3⟩ := HA.out
      clear HA H2 hc0 hc1 hx6 p6 q6 c1b0 c2b0
      obtain ⟨k, rfl⟩ : ∃ k, need = k + 1 := ⟨need - 1, by omega⟩
      simp only [more_] at H3
      obtain ⟨n, hn⟩ : ∃ n_ : Int, n_ = a1 + 1 := ⟨_, rfl⟩
      rw [← hn] at H3 ⊢
      have N := Aside0.mk hn
      have i5 : a1 < n := by omega
      have i6 : n ≤ a1 + 1 := by omega
      clear hn
      have z0 : (((k + 1 : Nat) : Int) == 0) = false := beq_eq_false_iff_ne.mpr (by omega)
      have k0 : (0 : Int) ≤ k := by omega
      by_cases n1 : (a0.size : Int) ≤ n
      · rw [if_pos n1] at H3
        have n1b0 : decide (n ≥ (a0.size : Int)) = true := decide_eq_true n1
        subst H3
        go_wp2
        go_step3
        go_wp2
        simp only [Exit.jump]
        go_ret
        exact ⟨z208_, z199_⟩
      rw [if_neg n1] at H3
      have n1b0 : decide (n ≥ (a0.size : Int)) = false := decide_eq_false n1
      have i2 : n < (a0.size : Int) := by omega
      have i3 : 0 ≤ n := by omega
      have hx7 := bt_at a0 n
      have hd := bt_range a0 n
      obtain ⟨hd0, hd1⟩ := hd
      obtain ⟨b, hbb⟩ : ∃ c_ : Int, bt a0 n = c_ := ⟨_, rfl⟩
      rw [hbb] at hx7 hd0 hd1 H3
      clear hbb
      have p7 := eq_true i3
      have q7 := eq_true i2
      by_cases n2 : b < low
      · rw [if_pos n2] at H3
        have n2b0 : decide (b < low) = true := decide_eq_true n2
        subst H3
        go_wp2
        go_step3
        go_wp2
        simp only [Exit.jump]
        go_ret
        exact ⟨z208_, z199_⟩
      rw [if_neg n2] at H3
      have n2b0 : decide (b < low) = false := decide_eq_false n2
      by_cases n3 : high < b
      · rw [if_pos n3] at H3
        have n3b0 : decide (b > high) = true := decide_eq_true n3
        subst H3
        go_wp2
        go_step3
        go_wp2
        simp only [Exit.jump]
        go_ret
        exact ⟨z208_, z199_⟩
      rw [if_neg n3] at H3
      have n3b0 : decide (b > high) = false := decide_eq_false n3
      have H4 := Aside0.mk H3
      clear H3
      go_wp2
      go_step3
      go_wp2
      go_step3
      refine ⟨rfl, k, _, _, _, _, ⟨rfl, rfl, rfl, rfl, rfl, rfl, z216_, rfl, rfl, rfl, z216_⟩, ⟨by omega, by omega, by omega, by omega, by omega, by omega, by omega, by omega, H4.out⟩, z199_⟩
  · rintro a_ w_ ⟨need, low, high, c, n, hfr, HH, ⟨m, rfl⟩⟩
    obtain ⟨u, hu⟩ := sizeFrame_open hfr
    clear hfr
    subst hu
    obtain ⟨g0, g1, g2, g3, g4, g5, g6, g7, g8⟩ := HH.out
    clear HH H
    cases need with
    | zero =>
      simp only [more_] at g8
      subst g8
      go_wp2
      simp only [Exit.jump]
      go_ret
      exact ⟨z208_, z199_⟩
    | succ k =>
      simp only [more_] at g8
      have z0 : (((k + 1 : Nat) : Int) == 0) = false := beq_eq_false_iff_ne.mpr (by omega)
      by_cases n1 : (a0.size : Int) ≤ n
      · rw [if_pos n1] at g8
        have n1b0 : decide (n ≥ (a0.size : Int)) = true := decide_eq_true n1
        subst g8
        go_wp2
        simp only [Exit.jump]
        go_ret
        exact ⟨z208_, z199_⟩
      rw [if_neg n1] at g8
      have n1b0 : decide (n ≥ (a0.size : Int)) = false := decide_eq_false n1
      have i2 : n < (a0.size : Int) := by omega
      have i3 : 0 ≤ n := by omega
      have hx7 := bt_at a0 n
      have hd := bt_range a0 n
      obtain ⟨hd0, hd1⟩ := hd
      obtain ⟨b, hbb⟩ : ∃ c_ : Int, bt a0 n = c_ := ⟨_, rfl⟩
      rw [hbb] at hx7 hd0 hd1 g8
      clear hbb
      have p7 := eq_true i3
      have q7 := eq_true i2
      by_cases n2 : b < low
      · rw [if_pos n2] at g8
        have n2b0 : decide (b < low) = true := decide_eq_true n2
        subst g8
        go_wp2
        simp only [Exit.jump]
        go_ret
        exact ⟨z208_, z199_⟩
      rw [if_neg n2] at g8
      have n2b0 : decide (b < low) = false := decide_eq_false n2
      by_cases n3 : high < b
      · rw [if_pos n3] at g8
        have n3b0 : decide (b > high) = true := decide_eq_true n3
        subst g8
        go_wp2
        simp only [Exit.jump]
        go_ret
        exact ⟨z208_, z199_⟩
      rw [if_neg n3] at g8
      have n3b0 : decide (b > high) = false := decide_eq_false n3
      have H3 := Aside0.mk g8
      clear g8
      have k0 : (0 : Int) ≤ k := by omega
      go_wp2
      go_step3
      refine ⟨rfl, ⟨k, _, _, _, _, ⟨rfl, rfl, rfl, rfl, rfl, rfl, z216_, rfl, rfl, rfl, z216_⟩, ⟨by omega, by omega, by omega, by omega, by omega, by omega, by omega, by omega, H3.out⟩, z199_⟩, ?_⟩
      simp [intOfS]
/-! ### runes_First: function 89 -/
def runes_First.l0 : Nat → Int → ByteArray → Int → Option (Int × Int)
  | 0, _, _, _ => none
  | k + 1, x4, x152000, x152001 => if (x152001 : Int).toNat < x152000.size then (some (itR_ x152000 x152001, x4)) else (some (0, 0))
def runes_First.f (k : Nat) (a0 : ByteArray) : Option (Int × Int) := (runes_size.f a0 0).bind fun t150 => (if 0 ≤ t150 then (if t150 ≤ (a0.size : Int) then (runes_First.l0 k t150 (a0.extract 0 (t150 : Int).toNat) 0) else (none)) else (none))
theorem runes_First.mono_l : ∀ k, (∀ y0 y1 y2, LeO (runes_First.l0 k y0 y1 y2) (runes_First.l0 (k + 1) y0 y1 y2))
  | 0 => fun _ _ _ r h => by simp [runes_First.l0] at h
  | k + 1 => by
    have ih0 := runes_First.mono_l k
    · intro y0 y1 y2
      unfold runes_First.l0
      repeat' first | (with_reducible first | exact ih0 _ _ _ | exact LeO.refl _ | exact LeO.none _ | refine LeO.ite ?_ ?_ | refine LeO.bind ?_ (fun _ => ?_)) | exact ih0 _ _ _ | exact LeO.none _ | refine LeO.ite ?_ ?_ | refine LeO.bind ?_ (fun _ => ?_)
theorem runes_First.mono : ∀ a0 k, LeO (runes_First.f k a0) (runes_First.f (k + 1) a0) := by
  intro a0 k
  have ih0 := runes_First.mono_l k
  unfold runes_First.f
  repeat' first | (with_reducible first | exact ih0 _ _ _ | exact LeO.refl _ | exact LeO.none _ | refine LeO.ite ?_ ?_ | refine LeO.bind ?_ (fun _ => ?_)) | exact ih0 _ _ _ | exact LeO.none _ | refine LeO.ite ?_ ?_ | refine LeO.bind ?_ (fun _ => ?_)
set_option maxHeartbeats 8000000 in
set_option maxRecDepth 100000 in
theorem runes_First.calls (k : Nat) (a0 : ByteArray) (r1 : Int) (r2 : Int) (w : World) (h : runes_First.f k a0 = some (r1, r2)) :
    Calls Try.prog 89 #[.string a0] w fun e w' => e = .returned (.tuple #[.int .i32 r1, .int .i64 r2]) ∧ Below w.heap.size w w' := by
  have HB := Aside0.mk (Below.refl w.heap.size w)
  have H : ((runes_size.f a0 0).bind fun t150 => (if 0 ≤ t150 then (if t150 ≤ (a0.size : Int) then (runes_First.l0 k t150 (a0.extract 0 (t150 : Int).toNat) 0) else (none)) else (none))) = some (r1, r2) := h
  clear h
  replace H := Option.bind_eq_some_iff.mp H
  obtain ⟨t150, A20, H⟩ := H
  replace H : (if 0 ≤ t150 then (if t150 ≤ (a0.size : Int) then (runes_First.l0 k t150 (a0.extract 0 (t150 : Int).toNat) 0) else (none)) else (none)) = some (r1, r2) := H
  have A2 := Aside0.mk A20
  clear A20
  by_cases c3 : 0 ≤ t150
  rotate_left
  · rw [if_neg c3] at H
    exact absurd H (by simp)
  rw [if_pos c3] at H
  have c3b0 := eq_true c3
  have c3b1 : decide (0 ≤ t150) = true := decide_eq_true c3
  clear c3
  by_cases c4 : t150 ≤ (a0.size : Int)
  rotate_left
  · rw [if_neg c4] at H
    exact absurd H (by simp)
  rw [if_pos c4] at H
  have c4b0 := eq_true c4
  have c4b1 : decide (t150 ≤ (a0.size : Int)) = true := decide_eq_true c4
  clear c4
  have H' := Aside0.mk H
  clear H
  go_enter Try.func89, Try.ntmps89
  go_wp2_with (first | ((with_reducible refine gate_callee (f := 108) rfl ?_); refine goesL_ (some 8) rfl rfl Try.func108 (by kernel_rfl) rfl #[.string a0, .int .i64 0] rfl z113_ ?_; (with_reducible refine (runes_size.calls a0 0 t150 _ A2.out).mono ?_); rintro e w' ⟨rfl, ⟨nd, rfl⟩⟩; refine ⟨_, rfl, ?_⟩) | ((with_reducible refine gate_dst (N := 12) rfl ?_); refine iter_event ?hg (N := 12) ?hd (s := (a0.extract 0 (t150 : Int).toNat)) ?hr ?_; (case hd => rfl); (case hg => rfl); (case hr => exact z209_); intro gb151 hg w5 hbox hb; have BK151 := Aside0.mk (hbox); have GW151 := Aside0.mk ((z85_ : w.heap.size ≤ gb151)); have GE151 := Aside0.mk ((z85_ : w.heap.size ≤ gb151)); replace HB := Aside0.mk (below_step z117_ hb); clear hb hbox hg))
  (try simp only [Act.put, List.setIfInBounds_toArray, List.set_cons_zero, List.set_cons_succ])
  go_loopg [] k (fun kq w' => ∃ (x152001_1 : Int), Aside0 (runes_First.l0 kq t150 (a0.extract 0 (t150 : Int).toNat) x152001_1 = some (r1, r2)) ∧ Aside0 (kq ≤ k) ∧ Aside0 (w'.heap[gb151]? = some (.stringIter (a0.extract 0 (t150 : Int).toNat) (x152001_1 : Int).toNat)) ∧ Aside0 (Below w.heap.size w w'))
  case atStart => exact ⟨(0), H', ⟨Nat.le_refl _⟩, ⟨z136_⟩, ⟨z89_⟩⟩
  case round =>
    clear H'
    try clear c1
    try clear p2
    try clear c3
    try clear c3b0
    try clear c3b1
    try clear c4
    try clear c4b0
    try clear c4b1
    obtain ⟨x152001_1, HA, HK1, BK151, HB⟩ := hrel
    cases gk with
    | zero => exact absurd HA.out (by simp [runes_First.l0])
    | succ k1 =>
      have H := HA.out
      clear HA
      simp only [runes_First.l0] at H
      by_cases c6 : (x152001_1 : Int).toNat < (a0.extract 0 (t150 : Int).toNat).size
      rotate_left
      · rw [if_neg c6] at H
        have c6b0 : decide ((x152001_1 : Int).toNat < (a0.extract 0 (t150 : Int).toNat).size) = false := decide_eq_false c6
        clear c6
        simp only [Option.some.injEq, Prod.mk.injEq] at H
        obtain ⟨rfl, rfl⟩ := H
        go_wp2_with (first | ((with_reducible refine gate_dst (N := 13) rfl ?_); refine next_no (w0 := w) (base := w.heap.size) ?hg (N := 13) ?hd (g := gb151) (s := (a0.extract 0 (t150 : Int).toNat)) (p := x152001_1) ?hx rfl ?hi ?hp ?hB ?he ?_; (case hd => rfl); (case hg => rfl); (case hx => exact z207_); (case hi => exact z119_); (case hp => exact z204_); (case hB => exact z75_); (case he => exact GW151.out); intro w8 hbox hg hb; replace BK151 := Aside0.mk (hbox); replace HB := Aside0.mk (hb); clear hbox hb hg))
        go_ret2
        exact ⟨z178_, z89_⟩
      rw [if_pos c6] at H
      have c6b0 : decide ((x152001_1 : Int).toNat < (a0.extract 0 (t150 : Int).toNat).size) = true := decide_eq_true c6
      clear c6
      simp only [Option.some.injEq, Prod.mk.injEq] at H
      obtain ⟨rfl, rfl⟩ := H
      go_wp2_with (first | ((with_reducible refine gate_dst (N := 13) rfl ?_); refine next_yes (w0 := w) (base := w.heap.size) ?hg (N := 13) ?hd (g := gb151) (s := (a0.extract 0 (t150 : Int).toNat)) (p := x152001_1) ?hx rfl ?hi ?hp ?hB ?he ?_; (case hd => rfl); (case hg => rfl); (case hx => exact z207_); (case hi => exact z119_); (case hp => exact z204_); (case hB => exact z75_); (case he => exact GW151.out); intro w7 hbox hg hb; replace BK151 := Aside0.mk (hbox); replace HB := Aside0.mk (hb); clear hbox hb hg))
      go_ret2
      exact ⟨z178_, z89_⟩
end Go.Proofs.Ytblmcdpfhdamjaa.PPaintWindow
