import Derived.Test.YtblmcdpfhdamjaaPPaintSeenx
/-! Our own text: what the reference reads of a text as runes is what the program's sizes say. -/
namespace Go.Proofs.Ytblmcdpfhdamjaa.PPaintSeen
open Go.RowKit Go.Proofs.YtblmcdpfhdamjaaW.PrintWords

theorem w64 {x : Int} (h0 : -9223372036854775808 ≤ x) (h1 : x ≤ 9223372036854775807) : wrap64 x = x := by rw [wrap64_def]; omega
theorem tmod_pos {a b : Int} (h : 0 ≤ a) : Int.tmod a b = a % b := Int.tmod_eq_emod_of_nonneg h
theorem tdiv_pos {a b : Int} (h : 0 ≤ a) : Int.tdiv a b = a / b := Int.tdiv_eq_ediv_of_nonneg h

/-! ### value -/
theorem value_step {s : ByteArray} {i n acc j : Int} {r : Int} (hs : (s.size : Int) ≤ 4611686018427387904) (hi : 0 ≤ i) (hj : 0 ≤ j) (hj4 : j ≤ 8) (hn : j < n) (hl : i + j < s.size) (ha : 0 ≤ acc) (hb : acc ≤ 1000000000)
    (h : Ev (fun k => regletref02_value.l0 k s i n (acc * 64 + bt s (i + j) % 64) (j + 1)) r) : Ev (fun k => regletref02_value.l0 k s i n acc j) r := by
  refine Ev.step (fun k => ?_) h
  have hb := bt_range s (i + j)
  simp only [regletref02_value.l0]
  rw [if_pos hn, w64 (by omega) (by omega), if_pos (by omega), if_pos hl, w64 (x := bt s (i + j)) (by omega) (by omega), tmod_pos (by omega), w64 (x := acc * 64) (by omega) (by omega), w64 (x := acc * 64 + _) (by omega) (by omega), w64 (by omega) (by omega)]
theorem value_end {s : ByteArray} {i n acc j : Int} (hn : ¬ j < n) : Ev (fun k => regletref02_value.l0 k s i n acc j) acc := by
  refine Ev.step (f := fun _ => some acc) (fun k => ?_) (Ev.now _)
  simp only [regletref02_value.l0]
  rw [if_neg hn]
theorem value_ev {s : ByteArray} {i n : Int} (hs : (s.size : Int) ≤ 4611686018427387904) (hi : 0 ≤ i) (hn : n = 1 ∨ n = 2 ∨ n = 3 ∨ n = 4) (hl : i + n ≤ s.size) :
    Ev (fun k => regletref02_value.f k s i n) (vOf s i n) := by
  have hb := bt_range s i
  have hb1 := bt_range s (i + 1)
  have hb2 := bt_range s (i + 2)
  have hb3 := bt_range s (i + 3)
  rcases hn with rfl | rfl | rfl | rfl
  · refine Ev.congr (f := fun _ => some (bt s i)) (fun k => ?_) (Ev.now _)
    unfold regletref02_value.f
    rw [if_pos hi, if_pos (by omega), if_pos rfl, w64 (by omega) (by omega)]
  · refine Ev.congr (f := fun k => regletref02_value.l0 k s i 2 (bt s i % 32) 1) (fun k => ?_) ?_
    · unfold regletref02_value.f
      rw [if_pos hi, if_pos (by omega), if_neg (by decide), show wrap64 (7 - 2) = 5 from by decide +kernel, if_pos (by decide), show shl .i64 1 5 = 32 from by decide +kernel, if_neg (by decide), w64 (by omega) (by omega), tmod_pos (by omega)]
    refine value_step hs hi (by omega) (by omega) (by omega) (by omega) (by omega) (by omega) ?_
    exact value_end (by omega)
  · refine Ev.congr (f := fun k => regletref02_value.l0 k s i 3 (bt s i % 16) 1) (fun k => ?_) ?_
    · unfold regletref02_value.f
      rw [if_pos hi, if_pos (by omega), if_neg (by decide), show wrap64 (7 - 3) = 4 from by decide +kernel, if_pos (by decide), show shl .i64 1 4 = 16 from by decide +kernel, if_neg (by decide), w64 (by omega) (by omega), tmod_pos (by omega)]
    refine value_step hs hi (by omega) (by omega) (by omega) (by omega) (by omega) (by omega) ?_
    refine value_step hs hi (by omega) (by omega) (by omega) (by omega) (by omega) (by omega) ?_
    exact value_end (by omega)
  · refine Ev.congr (f := fun k => regletref02_value.l0 k s i 4 (bt s i % 8) 1) (fun k => ?_) ?_
    · unfold regletref02_value.f
      rw [if_pos hi, if_pos (by omega), if_neg (by decide), show wrap64 (7 - 4) = 3 from by decide +kernel, if_pos (by decide), show shl .i64 1 3 = 8 from by decide +kernel, if_neg (by decide), w64 (by omega) (by omega), tmod_pos (by omega)]
    refine value_step hs hi (by omega) (by omega) (by omega) (by omega) (by omega) (by omega) ?_
    refine value_step hs hi (by omega) (by omega) (by omega) (by omega) (by omega) (by omega) ?_
    refine value_step hs hi (by omega) (by omega) (by omega) (by omega) (by omega) (by omega) ?_
    exact value_end (by omega)
/-! ### Bytes -/
def isR (r : Int) : Bool := decide (0 ≤ r ∧ r ≤ 1114111 ∧ (r < 55296 ∨ r > 57343))
def enc_ (r : Int) : List Int :=
  if isR r = true then (if r < 128 then [r] else if r < 2048 then [192 + r / 64, 128 + r % 64] else if r < 65536 then [224 + r / 4096, 128 + r / 64 % 64, 128 + r % 64] else [240 + r / 262144, 128 + r / 4096 % 64, 128 + r / 64 % 64, 128 + r % 64]) else []
theorem isRune_f (r : Int) : regletref02_IsRune.f r = some (isR r) := by
  unfold regletref02_IsRune.f isR
  by_cases h1 : r ≥ 0
  · rw [if_pos h1]
    by_cases h2 : r ≤ 1114111
    · rw [if_pos h2]
      by_cases h3 : r < 55296
      · rw [if_pos h3]; congr 1; symm; exact decide_eq_true ⟨h1, h2, .inl h3⟩
      · rw [if_neg h3]; congr 1
        by_cases h4 : r > 57343
        · rw [decide_eq_true h4]; symm; exact decide_eq_true ⟨h1, h2, .inr h4⟩
        · rw [decide_eq_false h4]; symm; exact decide_eq_false (by omega)
    · rw [if_neg h2]; congr 1; symm; exact decide_eq_false (by omega)
  · rw [if_neg h1]; congr 1; symm; exact decide_eq_false (by omega)
theorem bytes_f {r : Int} (h0 : 0 ≤ r) (h1 : r ≤ 2097151) : regletref02_Bytes.f r = some (enc_ r) := by
  have d1 : 0 ≤ r / 64 := by omega
  have d2 : 0 ≤ r / 4096 := by omega
  have e0 : wrap64 (r / 64) = r / 64 := w64 (by omega) (by omega)
  have e1 : wrap64 (r / 4096) = r / 4096 := w64 (by omega) (by omega)
  have e2 : wrap64 (r / 262144) = r / 262144 := w64 (by omega) (by omega)
  have e3 : wrap64 (192 + r / 64) = 192 + r / 64 := w64 (by omega) (by omega)
  have e4 : wrap64 (224 + r / 4096) = 224 + r / 4096 := w64 (by omega) (by omega)
  have e5 : wrap64 (240 + r / 262144) = 240 + r / 262144 := w64 (by omega) (by omega)
  have e6 : wrap64 (128 + r % 64) = 128 + r % 64 := w64 (by omega) (by omega)
  have e7 : wrap64 (128 + r / 64 % 64) = 128 + r / 64 % 64 := w64 (by omega) (by omega)
  have e8 : wrap64 (128 + r / 4096 % 64) = 128 + r / 4096 % 64 := w64 (by omega) (by omega)
  unfold regletref02_Bytes.f enc_
  rw [isRune_f]
  simp only [Option.bind_some, tdiv_pos h0, tmod_pos h0, e0, e1, e2, e3, e4, e5, e6, tmod_pos d1, tmod_pos d2, e7, e8]
  by_cases h : isR r = true
  · rw [if_pos h, if_pos h]
    by_cases a : r < 128
    · rw [if_pos a, if_pos a]
    rw [if_neg a, if_neg a]
    by_cases b : r < 2048
    · rw [if_pos b, if_pos b]
    rw [if_neg b, if_neg b]
    by_cases c : r < 65536
    · rw [if_pos c, if_pos c]
    · rw [if_neg c, if_neg c]
  · rw [if_neg h, if_neg h]

/-! ### begins -/
def beg_ (s : ByteArray) (i : Int) : List Int → Bool
  | [] => true
  | b :: t => decide (bt s i = b) && beg_ s (i + 1) t
theorem begins_l0 {s : ByteArray} {i : Int} {l : List Int} (hs : (s.size : Int) ≤ 4611686018427387904) (hi : 0 ≤ i) (hl : i + l.length ≤ s.size) :
    ∀ (t : List Int) (j : Nat), j + t.length = l.length → l.drop j = t → Ev (fun k => regletref02_begins.l0 k s i l j) (beg_ s (i + j) t)
  | [], j, hj, _ => by
    refine Ev.step (f := fun _ => some true) (fun k => ?_) (Ev.now _)
    simp only [regletref02_begins.l0]
    rw [if_neg (by simp at hj; omega)]
  | b :: t, j, hj, hd => by
    have hb := bt_range s (i + j)
    simp only [List.length_cons] at hj
    have hrd : rd l (j : Int) = b := by
      unfold rd
      rw [Int.toNat_natCast, List.getD_eq_getElem?_getD, ← List.head?_drop, hd]; rfl
    have hd2 : l.drop (j + 1) = t := by rw [← List.drop_drop, hd]; rfl
    have ih := begins_l0 hs hi hl t (j + 1) (by omega) hd2
    by_cases e : bt s (i + j) = b
    · refine Ev.step (f := fun k => regletref02_begins.l0 k s i l ((j + 1 : Nat) : Int)) (fun k => ?_) ?_
      · simp only [regletref02_begins.l0]
        rw [if_pos (by omega), w64 (x := i + j) (by omega) (by omega), if_pos (by omega), if_pos (by omega), if_pos (by omega), w64 (x := bt s (i + j)) (by omega) (by omega), if_pos (by rw [hrd]; exact e), w64 (by omega) (by omega)]
        rfl
      · simp only [beg_, decide_eq_true e, Bool.true_and]
        rw [show i + (j : Int) + 1 = i + ((j + 1 : Nat) : Int) by omega]
        exact ih
    · refine Ev.step (f := fun _ => some false) (fun k => ?_) ?_
      · simp only [regletref02_begins.l0]
        rw [if_pos (by omega), w64 (x := i + j) (by omega) (by omega), if_pos (by omega), if_pos (by omega), if_pos (by omega), w64 (x := bt s (i + j)) (by omega) (by omega), if_neg (by rw [hrd]; exact e)]
      · simp only [beg_, decide_eq_false e, Bool.false_and]
        exact Ev.now _
theorem begins_ev {s : ByteArray} {i : Int} {l : List Int} (hs : (s.size : Int) ≤ 4611686018427387904) (hi : 0 ≤ i) (hl : i + l.length ≤ s.size) (h0 : 0 < l.length) :
    Ev (fun k => regletref02_begins.f k s i l) (beg_ s i l) := by
  refine Ev.congr (f := fun k => regletref02_begins.j0 k s i l false) (fun k => ?_) ?_
  · unfold regletref02_begins.f
    rw [if_neg (by omega), w64 (by omega) (by omega), decide_eq_false (by omega)]
  refine Ev.step (f := fun k => regletref02_begins.l0 k s i l ((0 : Nat) : Int)) (fun k => ?_) ?_
  · simp only [regletref02_begins.j0]
    rw [if_neg (by decide)]
    rfl
  have := begins_l0 hs hi hl l 0 (by omega) rfl
  simpa using this

/-! ### Read -/
def mat_ (s : ByteArray) (i n : Int) : Bool := decide (((enc_ (vOf s i n)).length : Int) = n) && beg_ s i (enc_ (vOf s i n))
theorem read_out {s : ByteArray} {i n : Int} (h : 4 < n ∨ (s.size : Int) < i + n) (hs : (s.size : Int) ≤ 4611686018427387904) (hi : 0 ≤ i) (hi2 : i ≤ s.size) (hn0 : 0 ≤ n) (hn : n ≤ 5) : Ev (fun k => regletref02_Read.l0 k s i n) (-1, 0) := by
  refine Ev.step (f := fun k => regletref02_Read.j1 k s i n false) (fun k => ?_) ?_
  · simp only [regletref02_Read.l0]
    by_cases h4 : n ≤ 4
    · rw [if_pos h4, w64 (by omega) (by omega), decide_eq_false (by omega)]
    · rw [if_neg h4]
  refine Ev.step (f := fun _ => some (-1, 0)) (fun k => ?_) (Ev.now _)
  simp only [regletref02_Read.j1]
  rw [if_neg (by decide)]
theorem read_try {s : ByteArray} {i n : Int} {r : Int × Int} (hs : (s.size : Int) ≤ 4611686018427387904) (hi : 0 ≤ i) (hn : n = 1 ∨ n = 2 ∨ n = 3 ∨ n = 4) (hl : i + n ≤ s.size)
    (h1 : mat_ s i n = true → r = (vOf s i n, n)) (h2 : mat_ s i n = false → Ev (fun k => regletref02_Read.l0 k s i (n + 1)) r) : Ev (fun k => regletref02_Read.l0 k s i n) r := by
  have hv := vOf_range s i n
  refine Ev.step (f := fun k => regletref02_Read.j1 k s i n true) (fun k => ?_) ?_
  · simp only [regletref02_Read.l0]
    rw [if_pos (by omega), w64 (by omega) (by omega), decide_eq_true hl]
  refine Ev.step (fun k => by simp only [regletref02_Read.j1]; rw [if_pos trivial]) ?_
  refine Ev.bind (value_ev hs hi hn hl) ?_
  rw [bytes_f hv.1 hv.2]
  simp only [Option.bind_some]
  by_cases hlen : ((enc_ (vOf s i n)).length : Int) = n
  · refine Ev.congr (fun k => by rw [if_pos hlen, w64 (x := n + 1) (by omega) (by omega)]) ?_
    refine Ev.bind (begins_ev hs hi (by omega) (by omega)) ?_
    cases hb : beg_ s i (enc_ (vOf s i n)) with
    | true =>
      rw [h1 (by unfold mat_; rw [decide_eq_true hlen, hb]; rfl)]
      exact Ev.congr (fun k => by rw [if_pos rfl]) (Ev.now _)
    | false => exact Ev.congr (fun k => by rw [if_neg (by decide)]) (h2 (by unfold mat_; rw [hb]; simp))
  · exact Ev.congr (fun k => by rw [if_neg hlen, w64 (x := n + 1) (by omega) (by omega)]) (h2 (by unfold mat_; rw [decide_eq_false hlen]; rfl))

/-! ### what matches -/
theorem isR_yes {v : Int} (h0 : 0 ≤ v) (h1 : v ≤ 1114111) (h2 : v < 55296 ∨ v > 57343) : isR v = true := decide_eq_true ⟨h0, h1, h2⟩
theorem isR_no {v : Int} (h : ¬ (0 ≤ v ∧ v ≤ 1114111 ∧ (v < 55296 ∨ v > 57343))) : ¬ (isR v = true) := by unfold isR; rw [decide_eq_false h]; decide
theorem enc1 {v : Int} (h0 : 0 ≤ v) (h1 : v < 128) : enc_ v = [v] := by unfold enc_; rw [if_pos (isR_yes h0 (by omega) (by omega)), if_pos h1]
theorem enc2 {v : Int} (h0 : 128 ≤ v) (h1 : v < 2048) : enc_ v = [192 + v / 64, 128 + v % 64] := by unfold enc_; rw [if_pos (isR_yes (by omega) (by omega) (by omega)), if_neg (by omega), if_pos h1]
theorem enc3 {v : Int} (h0 : 2048 ≤ v) (h1 : v < 65536) (h2 : v < 55296 ∨ v > 57343) : enc_ v = [224 + v / 4096, 128 + v / 64 % 64, 128 + v % 64] := by unfold enc_; rw [if_pos (isR_yes (by omega) (by omega) h2), if_neg (by omega), if_neg (by omega), if_pos h1]
theorem enc4 {v : Int} (h0 : 65536 ≤ v) (h1 : v ≤ 1114111) : enc_ v = [240 + v / 262144, 128 + v / 4096 % 64, 128 + v / 64 % 64, 128 + v % 64] := by unfold enc_; rw [if_pos (isR_yes (by omega) h1 (by omega)), if_neg (by omega), if_neg (by omega), if_neg (by omega)]
theorem enc0 {v : Int} (h : ¬ (0 ≤ v ∧ v ≤ 1114111 ∧ (v < 55296 ∨ v > 57343))) : enc_ v = [] := by unfold enc_; rw [if_neg (isR_no h)]
theorem mat1 (s : ByteArray) (i : Int) : mat_ s i 1 = true ↔ bt s i < 128 := by
  have hb := bt_range s i
  have hv : vOf s i 1 = bt s i := by unfold vOf; rw [if_pos rfl]
  unfold mat_
  rw [hv]
  by_cases h : bt s i < 128
  · rw [enc1 hb.1 h]; simp [beg_, h]
  · rw [enc2 (by omega) (by omega)]; simp; omega
theorem mat2 (s : ByteArray) (i : Int) : mat_ s i 2 = true ↔ 194 ≤ bt s i ∧ bt s i < 224 ∧ 128 ≤ bt s (i + 1) ∧ bt s (i + 1) ≤ 191 := by
  have hb := bt_range s i
  have hb1 := bt_range s (i + 1)
  have hv : vOf s i 2 = bt s i % 32 * 64 + bt s (i + 1) % 64 := by unfold vOf; rw [if_neg (by decide), if_pos rfl]
  unfold mat_
  rw [hv]
  by_cases h : bt s i % 32 * 64 + bt s (i + 1) % 64 < 128
  · rw [enc1 (by omega) h]; simp; omega
  · rw [enc2 (by omega) (by omega)]
    simp only [beg_, List.length_cons, List.length_nil, Bool.and_eq_true, decide_eq_true_eq, and_true]
    omega
theorem mat3 (s : ByteArray) (i : Int) : mat_ s i 3 = true ↔ (224 ≤ bt s i ∧ bt s i < 240 ∧ (bt s i = 224 → 160 ≤ bt s (i + 1)) ∧ (bt s i = 237 → bt s (i + 1) ≤ 159) ∧ 128 ≤ bt s (i + 1) ∧ bt s (i + 1) ≤ 191 ∧ 128 ≤ bt s (i + 2) ∧ bt s (i + 2) ≤ 191) := by
  have hb := bt_range s i
  have hb1 := bt_range s (i + 1)
  have hb2 := bt_range s (i + 2)
  have e2 : i + 1 + 1 = i + 2 := by omega
  have hv : vOf s i 3 = (bt s i % 16 * 64 + bt s (i + 1) % 64) * 64 + bt s (i + 2) % 64 := by unfold vOf; rw [if_neg (by decide), if_neg (by decide), if_pos rfl]
  unfold mat_
  rw [hv]
  by_cases h : (bt s i % 16 * 64 + bt s (i + 1) % 64) * 64 + bt s (i + 2) % 64 < 128
  · rw [enc1 (by omega) h]; simp; omega
  by_cases h2 : (bt s i % 16 * 64 + bt s (i + 1) % 64) * 64 + bt s (i + 2) % 64 < 2048
  · rw [enc2 (by omega) h2]; simp; omega
  by_cases h3 : (bt s i % 16 * 64 + bt s (i + 1) % 64) * 64 + bt s (i + 2) % 64 < 55296 ∨ (bt s i % 16 * 64 + bt s (i + 1) % 64) * 64 + bt s (i + 2) % 64 > 57343
  · rw [enc3 (by omega) (by omega) h3]
    simp only [beg_, List.length_cons, List.length_nil, Bool.and_eq_true, decide_eq_true_eq, and_true, e2]
    omega
  · rw [enc0 (by omega)]; simp; omega
theorem mat4 (s : ByteArray) (i : Int) : mat_ s i 4 = true ↔ (240 ≤ bt s i ∧ bt s i ≤ 244 ∧ (bt s i = 240 → 144 ≤ bt s (i + 1)) ∧ (bt s i = 244 → bt s (i + 1) ≤ 143) ∧ 128 ≤ bt s (i + 1) ∧ bt s (i + 1) ≤ 191 ∧ 128 ≤ bt s (i + 2) ∧ bt s (i + 2) ≤ 191 ∧ 128 ≤ bt s (i + 3) ∧ bt s (i + 3) ≤ 191) := by
  have hb := bt_range s i
  have hb1 := bt_range s (i + 1)
  have hb2 := bt_range s (i + 2)
  have hb3 := bt_range s (i + 3)
  have e2 : i + 1 + 1 = i + 2 := by omega
  have e3 : i + 2 + 1 = i + 3 := by omega
  have hv : vOf s i 4 = ((bt s i % 8 * 64 + bt s (i + 1) % 64) * 64 + bt s (i + 2) % 64) * 64 + bt s (i + 3) % 64 := by unfold vOf; rw [if_neg (by decide), if_neg (by decide), if_neg (by decide)]
  unfold mat_
  rw [hv]
  generalize hvv : ((bt s i % 8 * 64 + bt s (i + 1) % 64) * 64 + bt s (i + 2) % 64) * 64 + bt s (i + 3) % 64 = v
  by_cases h : v < 128
  · rw [enc1 (by omega) h]; simp; omega
  by_cases h2 : v < 2048
  · rw [enc2 (by omega) h2]; simp; omega
  by_cases h5 : v < 65536
  · by_cases h3 : v < 55296 ∨ v > 57343
    · rw [enc3 (by omega) h5 h3]; simp; omega
    · rw [enc0 (by omega)]; simp; omega
  by_cases h6 : v ≤ 1114111
  · rw [enc4 (by omega) h6]
    simp only [beg_, List.length_cons, List.length_nil, Bool.and_eq_true, decide_eq_true_eq, and_true, e2, e3]
    omega
  · rw [enc0 (by omega)]; simp; omega

/-! ### sizes -/
theorem rsize_spec (s : ByteArray) (i : Int) (h0 : 0 ≤ i) (h1 : i < s.size) :
    rsize_ s i = if bt s i < 128 then 1 else if i + 2 ≤ s.size ∧ mat_ s i 2 = true then 2 else if i + 3 ≤ s.size ∧ mat_ s i 3 = true then 3 else if i + 4 ≤ s.size ∧ mat_ s i 4 = true then 4 else 0 := by
  have hb := bt_range s i
  have hb1 := bt_range s (i + 1)
  have hb2 := bt_range s (i + 2)
  have hb3 := bt_range s (i + 3)
  have e2 : i + 1 + 1 = i + 2 := by omega
  have e3 : i + 2 + 1 = i + 3 := by omega
  have e4 : i + 3 + 1 - i = 4 := by omega
  have m2 := mat2 s i
  have m3 := mat3 s i
  have m4 := mat4 s i
  generalize mat_ s i 2 = a2 at *
  generalize mat_ s i 3 = a3 at *
  generalize mat_ s i 4 = a4 at *
  have z0 : ∀ n, more_ s i 0 n 128 191 = n - i := fun _ => rfl
  unfold rsize_ lead_
  rw [if_neg (by omega), if_neg (by omega)]
  simp only [more_eq, z0, e2, e3]
  generalize bt s i = c at *
  generalize bt s (i + 1) = d at *
  generalize bt s (i + 2) = e at *
  generalize bt s (i + 3) = f at *
  by_cases b2 : i + 2 ≤ s.size ∧ a2 = true
  · have := m2.1 b2.2
    rw [if_neg (by omega), if_neg (by omega), if_neg (by omega), if_pos (by omega), if_neg (by omega), if_neg (by omega), if_pos b2]
    omega
  by_cases b3 : i + 3 ≤ s.size ∧ a3 = true
  · have := m3.1 b3.2
    rw [if_neg (by omega), if_neg (by omega), if_neg (by omega), if_neg (by omega), if_pos (by omega), if_neg (by omega : ¬ c < 128), if_neg b2, if_pos b3]
    by_cases c1 : c = 224
    · rw [if_pos c1, if_neg (by omega), if_neg (by omega)]; omega
    rw [if_neg c1]
    by_cases c2 : c = 237
    · rw [if_pos c2, if_neg (by omega), if_neg (by omega)]; omega
    rw [if_neg c2, if_neg (by omega), if_neg (by omega)]; omega
  by_cases b4 : i + 4 ≤ s.size ∧ a4 = true
  · have := m4.1 b4.2
    rw [if_neg (by omega), if_neg (by omega), if_neg (by omega), if_neg (by omega), if_neg (by omega), if_neg (by omega : ¬ c < 128), if_neg b2, if_neg b3, if_pos b4]
    by_cases c1 : c = 240
    · rw [if_pos c1, if_neg (by omega), if_neg (by omega), if_neg (by omega)]; omega
    rw [if_neg c1]
    by_cases c2 : c = 244
    · rw [if_pos c2, if_neg (by omega), if_neg (by omega), if_neg (by omega)]; omega
    rw [if_neg c2, if_neg (by omega), if_neg (by omega), if_neg (by omega)]; omega
  rw [if_neg b2, if_neg b3, if_neg b4]
  have n2 : ¬ (i + 2 ≤ s.size ∧ 194 ≤ c ∧ c < 224 ∧ 128 ≤ d ∧ d ≤ 191) := fun h => b2 ⟨h.1, m2.2 h.2⟩
  have n3 : ¬ (i + 3 ≤ s.size ∧ 224 ≤ c ∧ c < 240 ∧ (c = 224 → 160 ≤ d) ∧ (c = 237 → d ≤ 159) ∧ 128 ≤ d ∧ d ≤ 191 ∧ 128 ≤ e ∧ e ≤ 191) := fun h => b3 ⟨h.1, m3.2 h.2⟩
  have n4 : ¬ (i + 4 ≤ s.size ∧ 240 ≤ c ∧ c ≤ 244 ∧ (c = 240 → 144 ≤ d) ∧ (c = 244 → d ≤ 143) ∧ 128 ≤ d ∧ d ≤ 191 ∧ 128 ≤ e ∧ e ≤ 191 ∧ 128 ≤ f ∧ f ≤ 191) := fun h => b4 ⟨h.1, m4.2 h.2⟩
  clear m2 m3 m4 b2 b3 b4
  by_cases c1 : c < 128
  · rw [if_pos c1, if_pos c1]
  rw [if_neg c1, if_neg c1]
  by_cases c2 : c < 194
  · rw [if_pos c2]
  rw [if_neg c2]
  by_cases c3 : 244 < c
  · rw [if_pos c3]
  rw [if_neg c3]
  by_cases c4 : c < 224
  · rw [if_pos c4, if_pos (by omega)]
  rw [if_neg c4]
  by_cases c5 : c < 240
  · rw [if_pos c5]
    by_cases k1 : c = 224
    · rw [if_pos k1]
      by_cases q : (s.size : Int) ≤ i + 1 ∨ d < 160 ∨ 191 < d
      · rw [if_pos q]
      · rw [if_neg q, if_pos (by omega)]
    rw [if_neg k1]
    by_cases k2 : c = 237
    · rw [if_pos k2]
      by_cases q : (s.size : Int) ≤ i + 1 ∨ d < 128 ∨ 159 < d
      · rw [if_pos q]
      · rw [if_neg q, if_pos (by omega)]
    rw [if_neg k2]
    by_cases q : (s.size : Int) ≤ i + 1 ∨ d < 128 ∨ 191 < d
    · rw [if_pos q]
    · rw [if_neg q, if_pos (by omega)]
  rw [if_neg c5]
  by_cases k1 : c = 240
  · rw [if_pos k1]
    by_cases q : (s.size : Int) ≤ i + 1 ∨ d < 144 ∨ 191 < d
    · rw [if_pos q]
    rw [if_neg q]
    by_cases q2 : (s.size : Int) ≤ i + 2 ∨ e < 128 ∨ 191 < e
    · rw [if_pos q2]
    · rw [if_neg q2, if_pos (by omega)]
  rw [if_neg k1]
  by_cases k2 : c = 244
  · rw [if_pos k2]
    by_cases q : (s.size : Int) ≤ i + 1 ∨ d < 128 ∨ 143 < d
    · rw [if_pos q]
    rw [if_neg q]
    by_cases q2 : (s.size : Int) ≤ i + 2 ∨ e < 128 ∨ 191 < e
    · rw [if_pos q2]
    · rw [if_neg q2, if_pos (by omega)]
  rw [if_neg k2]
  by_cases q : (s.size : Int) ≤ i + 1 ∨ d < 128 ∨ 191 < d
  · rw [if_pos q]
  rw [if_neg q]
  by_cases q2 : (s.size : Int) ≤ i + 2 ∨ e < 128 ∨ 191 < e
  · rw [if_pos q2]
  · rw [if_neg q2, if_pos (by omega)]

/-- What the reference reads at a place. -/
theorem read_ev {s : ByteArray} {i : Int} (hs : (s.size : Int) ≤ 4611686018427387904) (h0 : 0 ≤ i) (h1 : i < s.size) :
    Ev (fun k => regletref02_Read.f k s i) (if rsize_ s i = 0 then (-1, 0) else (vOf s i (rsize_ s i), rsize_ s i)) := by
  have hr := rsize_spec s i h0 h1
  have hm1 := mat1 s i
  unfold regletref02_Read.f
  refine read_try hs h0 (by omega) (by omega) ?_ ?_
  · intro h
    rw [if_pos (hm1.1 h)] at hr
    rw [hr, if_neg (by decide)]
  intro h
  have hc : ¬ bt s i < 128 := fun hc => by rw [hm1.2 hc] at h; cases h
  rw [if_neg hc] at hr
  by_cases l2 : i + 2 ≤ s.size
  case neg =>
    rw [if_neg (by omega), if_neg (by omega), if_neg (by omega)] at hr
    rw [hr, if_pos rfl]
    exact read_out (by omega) hs h0 (by omega) (by omega) (by omega)
  refine read_try hs h0 (by omega) (by omega) ?_ ?_
  · intro h
    rw [if_pos ⟨l2, h⟩] at hr
    rw [hr, if_neg (by decide)]; rfl
  intro h
  rw [if_neg (fun x => by have h3 := x.2; rw [show (1 : Int) + 1 = 2 from rfl] at h; rw [h] at h3; cases h3)] at hr
  by_cases l3 : i + 3 ≤ s.size
  case neg =>
    rw [if_neg (by omega), if_neg (by omega)] at hr
    rw [hr, if_pos rfl]
    exact read_out (by omega) hs h0 (by omega) (by omega) (by omega)
  refine read_try hs h0 (by omega) (by omega) ?_ ?_
  · intro h
    rw [if_pos ⟨l3, h⟩] at hr
    rw [hr, if_neg (by decide)]; rfl
  intro h
  rw [if_neg (fun x => by have h3 := x.2; rw [show (1 : Int) + 1 + 1 = 3 from rfl] at h; rw [h] at h3; cases h3)] at hr
  by_cases l4 : i + 4 ≤ s.size
  case neg =>
    rw [if_neg (by omega)] at hr
    rw [hr, if_pos rfl]
    exact read_out (by omega) hs h0 (by omega) (by omega) (by omega)
  refine read_try hs h0 (by omega) (by omega) ?_ ?_
  · intro h
    rw [if_pos ⟨l4, h⟩] at hr
    rw [hr, if_neg (by decide)]; rfl
  intro h
  rw [if_neg (fun x => by have h3 := x.2; rw [show (1 : Int) + 1 + 1 + 1 = 4 from rfl] at h; rw [h] at h3; cases h3)] at hr
  rw [hr, if_pos rfl]
  exact read_out (by omega) hs h0 (by omega) (by omega) (by omega)
end Go.Proofs.Ytblmcdpfhdamjaa.PPaintSeen
