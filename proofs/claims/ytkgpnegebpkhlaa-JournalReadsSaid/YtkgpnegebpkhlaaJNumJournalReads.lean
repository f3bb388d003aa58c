import Derived.Test.YtkgpnegebpkhlaaJRecJournalReads
/-! Our own text: the numbers that bytes begin with. -/
namespace Go.Proofs.Ytkgpnegebpkhlaa.PJournalReads
set_option linter.unusedVariables false
open Go.RowKit Go.Proofs.YtkgpnegebpkhlaaW.PrintWords

def byt_ (l : List Int) : Prop := ∀ x ∈ l, 0 ≤ x ∧ x < 256
/-- The digits that bytes begin with. -/
def vs_ : Nat → List Int → Option (List Int)
  | 0, _ => none
  | _ + 1, [] => none
  | m + 1, c :: t => if c < 128 then some [c] else (vs_ m t).map (c % 128 :: ·)
def uu_ : List Int → Int
  | [] => 0
  | c :: t => c + 128 * uu_ t
def nz_ : List Int → Bool
  | [] => false
  | [c] => c != 0
  | _ :: e :: t => nz_ (e :: t)
def canon_ : List Int → Bool
  | [_] => true
  | l => nz_ l
theorem dropJ {l t : List Int} {i : Nat} {n : Int} (h : l.drop i = n :: t) : i < l.length ∧ rd l (i : Int) = n ∧ l.drop (i + 1) = t := by
  have h1 : i < l.length := by
    rcases Nat.lt_or_ge i l.length with h1 | h1
    · exact h1
    · rw [List.drop_eq_nil_of_le h1] at h; cases h
  rw [List.drop_eq_getElem_cons h1] at h
  injection h with h2 h3
  refine ⟨h1, ?_, h3⟩
  unfold rd
  rw [Int.toNat_natCast, List.getD_eq_getElem?_getD, List.getElem?_eq_getElem h1, h2]; rfl
theorem dropK {α : Type} {l : List α} {i : Nat} (h : l.drop i = []) : l.length ≤ i := by
  have := congrArg List.length h
  rw [List.length_drop, List.length_nil] at this
  omega
theorem upJ {i : Nat} (h : i < 9223372036854775807) : wrap64 ((i : Int) + 1) = ((i + 1 : Nat) : Int) := by rw [w64 (by omega) (by omega)]; omega

/-! ### the reference's value -/
theorem value_l0 {l : List Int} (hb : byt_ l) (hl : l.length ≤ 1000000) : ∀ (m i : Nat) (t a : List Int), i + m = 10 → a.length = i → l.drop i = t →
    Ev (fun k => regletref23_value.l0 k l a i) (match vs_ m t with | some d => (a ++ d, ((i + d.length : Nat) : Int)) | none => ([], 0))
  | 0, i, t, a, hi, ha, h => by
    simp only [vs_]
    refine Ev.step (f := fun k => regletref23_value.j1 k l a i false) (fun k => ?_) (Ev.step (fun k => by rw [regletref23_value.j1, if_neg (by decide)]) (Ev.now _))
    rw [regletref23_value.l0, show decide ((i : Int) < 10) = false from decide_eq_false (by omega)]
    split <;> rfl
  | m + 1, i, [], a, hi, ha, h => by
    simp only [vs_]
    have := dropK h
    refine Ev.step (f := fun k => regletref23_value.j1 k l a i false) (fun k => ?_) (Ev.step (fun k => by rw [regletref23_value.j1, if_neg (by decide)]) (Ev.now _))
    rw [regletref23_value.l0, if_neg (by omega)]
  | m + 1, i, c :: t, a, hi, ha, h => by
    obtain ⟨h1, h2, h3⟩ := dropJ h
    have hc := hb c (List.mem_of_mem_drop (i := i) (by rw [h]; simp))
    refine Ev.step (f := fun k => regletref23_value.j1 k l a i true) (fun k => ?_) ?_
    · rw [regletref23_value.l0, if_pos (by omega), show decide ((i : Int) < 10) = true from decide_eq_true (by omega)]
    have e : Int.tmod (wrap64 c) 128 = c % 128 := by rw [w64 (by omega) (by omega), tmod_pos (by omega)]
    simp only [vs_]
    by_cases h128 : c < 128
    · rw [if_pos h128]
      refine Ev.step (f := fun _ => some (a ++ [c], ((i + 1 : Nat) : Int))) (fun k => ?_) (Ev.now _)
      rw [regletref23_value.j1, if_pos rfl, if_pos (by omega), if_pos (by omega), if_pos (by omega), h2, e, Option.bind_some, if_pos h128, upJ (by omega), show c % 128 = c by omega]
    · rw [if_neg h128]
      have ih := value_l0 hb hl m (i + 1) t (a ++ [c % 128]) (by omega) (by simp [ha]) h3
      refine Ev.step (f := fun k => regletref23_value.l0 k l (a ++ [c % 128]) ((i + 1 : Nat) : Int)) (fun k => ?_) ?_
      · rw [regletref23_value.j1, if_pos rfl, if_pos (by omega), if_pos (by omega), if_pos (by omega), h2, e, Option.bind_some, if_neg h128, upJ (by omega)]
      cases hv : vs_ m t with
      | none => rw [hv] at ih; exact ih
      | some d =>
        rw [hv] at ih
        simp only [List.append_assoc, List.singleton_append] at ih
        simp only [Option.map_some]
        rw [List.length_cons, show i + (d.length + 1) = i + 1 + d.length by omega]
        exact ih
theorem value_v {l : List Int} (hb : byt_ l) (hl : l.length ≤ 1000000) :
    Ev (fun k => regletref23_value.f k l) (match vs_ 10 l with | some d => (d, (d.length : Int)) | none => ([], 0)) := by
  have := value_l0 hb hl 10 0 l [] (by omega) rfl rfl
  unfold regletref23_value.f
  cases hv : vs_ 10 l with
  | none => rw [hv] at this; exact this
  | some d =>
    rw [hv] at this
    simp only [List.nil_append, Nat.zero_add] at this
    exact this

/-! ### what digits are -/
theorem vs_spec : ∀ (m : Nat) (t d : List Int), byt_ t → vs_ m t = some d → 1 ≤ d.length ∧ d.length ≤ m ∧ d.length ≤ t.length ∧ dok_ d ∧ cont_ d = t.take d.length
  | 0, _, _, _, h => by cases h
  | _ + 1, [], _, _, h => by cases h
  | m + 1, c :: t, d, hb, h => by
    have hc := hb c List.mem_cons_self
    simp only [vs_] at h
    by_cases h128 : c < 128
    · rw [if_pos h128] at h
      injection h with h
      subst h
      refine ⟨by simp, by simp, by simp, ?_, by simp [cont_]⟩
      intro x hx
      rw [List.mem_singleton] at hx
      omega
    · rw [if_neg h128] at h
      cases hv : vs_ m t with
      | none => rw [hv] at h; cases h
      | some e =>
        rw [hv] at h
        simp only [Option.map_some] at h
        injection h with h
        subst h
        obtain ⟨a, b, f, g, i⟩ := vs_spec m t e (fun x hx => hb x (List.mem_cons_of_mem _ hx)) hv
        refine ⟨by simp, by simp; omega, by simp; omega, ?_, ?_⟩
        · intro x hx
          rcases List.mem_cons.1 hx with h | h
          · omega
          · exact g x h
        · match e, a with
          | y :: z, _ =>
            simp only [cont_, List.length_cons, List.take_succ_cons]
            rw [show c % 128 + 128 = c by omega, i]
            rfl
theorem uu_pos : ∀ {d : List Int}, dok_ d → 0 ≤ uu_ d
  | [], _ => by simp [uu_]
  | c :: t, h => by
    have h1 := h c List.mem_cons_self
    have h2 := uu_pos (d := t) (fun x hx => h x (List.mem_cons_of_mem _ hx))
    simp only [uu_]; omega
theorem uu_lt : ∀ {d : List Int}, dok_ d → uu_ d < 128 ^ d.length
  | [], _ => by simp [uu_]
  | c :: t, h => by
    have h1 := h c List.mem_cons_self
    have h2 := uu_lt (d := t) (fun x hx => h x (List.mem_cons_of_mem _ hx))
    simp only [uu_, List.length_cons, Int.pow_succ]; omega
theorem nz_pos : ∀ {d : List Int}, dok_ d → nz_ d = true → 0 < uu_ d
  | [], _, h => by cases h
  | [c], hd, h => by
    have := hd c List.mem_cons_self
    simp only [nz_, bne_iff_ne] at h
    simp only [uu_]; omega
  | c :: e :: t, hd, h => by
    have h1 := hd c List.mem_cons_self
    have h2 := nz_pos (d := e :: t) (fun x hx => hd x (List.mem_cons_of_mem _ hx)) (by simpa only [nz_] using h)
    simp only [uu_] at h2 ⊢; omega
/-- Digits as short as may be are the number's own; others are more. -/
theorem leb_uu : ∀ (d : List Int) (f : Nat), dok_ d → 1 ≤ d.length → d.length ≤ f + 1 →
    (canon_ d = true → leb_ f (uu_ d) = cont_ d) ∧ (canon_ d = false → (leb_ f (uu_ d)).length < d.length)
  | [], _, _, h, _ => by simp at h
  | [c], f, hd, _, _ => by
    have := hd c List.mem_cons_self
    refine ⟨fun _ => ?_, fun h => by cases h⟩
    have e : uu_ [c] = c := by simp [uu_]
    rw [e]
    cases f with
    | zero => rfl
    | succ f => simp only [leb_, cont_]; rw [if_neg (by omega)]
  | c :: e :: t, 0, _, _, h => by simp at h
  | c :: e :: t, f + 1, hd, _, hl => by
    have h1 := hd c List.mem_cons_self
    have hd2 : dok_ (e :: t) := fun x hx => hd x (List.mem_cons_of_mem _ hx)
    have h0 := uu_pos hd2
    obtain ⟨p, q⟩ := leb_uu (e :: t) f hd2 (by simp) (by simpa using hl)
    have eu : uu_ (c :: e :: t) = c + 128 * uu_ (e :: t) := rfl
    have z1 : nz_ (e :: t) = true → canon_ (e :: t) = true := fun h => by
      cases t with
      | nil => rfl
      | cons x t => exact h
    have z2 : nz_ (e :: t) = false → canon_ (e :: t) = true → uu_ (e :: t) = 0 := fun h g => by
      cases t with
      | nil =>
        simp only [nz_, bne_eq_false_iff_eq] at h
        simp only [uu_, h]; rfl
      | cons x t => rw [show canon_ (e :: x :: t) = nz_ (e :: x :: t) from rfl, h] at g; cases g
    have z3 := nz_pos hd2
    rw [eu]
    generalize uu_ (e :: t) = u at h0 p q z2 z3 ⊢
    have en : canon_ (c :: e :: t) = nz_ (e :: t) := rfl
    rw [en]
    simp only [leb_]
    rw [show (c + 128 * u) % 128 = c by omega, show (c + 128 * u) / 128 = u by omega]
    refine ⟨fun h => ?_, fun h => ?_⟩
    · have := z3 h
      rw [if_pos (by omega), p (z1 h)]
      rfl
    · by_cases hu : u = 0
      · rw [if_neg (by omega)]; simp
      · rw [if_pos (by omega)]
        have : canon_ (e :: t) = false := by
          cases hc : canon_ (e :: t) with
          | false => rfl
          | true => exact absurd (z2 h hc) hu
        have := q this
        simp only [List.length_cons] at this ⊢; omega

/-! ### the program's number -/
theorem or_add {x y i : Nat} (h : x < 2 ^ i) : x ||| y * 2 ^ i = x + y * 2 ^ i := by
  rw [Nat.or_comm, Nat.mul_comm, ← Nat.two_pow_add_eq_or_of_lt h, Nat.add_comm]
theorem bits_or {u : Int} {c : Int} {i : Nat} (h0 : 0 ≤ u) (hu : u < 128 ^ i) (hc : 0 ≤ c) (hb : c * 128 ^ i + u < 18446744073709551616) : Go.bits .or .u64 u (c * 128 ^ i) = u + c * 128 ^ i := by
  obtain ⟨a, rfl⟩ := Int.eq_ofNat_of_zero_le h0
  obtain ⟨b, rfl⟩ := Int.eq_ofNat_of_zero_le hc
  have e : ((b : Int) * 128 ^ i) = ((b * 2 ^ (7 * i) : Nat) : Int) := by rw [Nat.pow_mul]; simp
  have e2 : (a : Nat) < 2 ^ (7 * i) := by rw [Nat.pow_mul]; exact_mod_cast hu
  rw [e] at hb ⊢
  show IntKind.u64.wrap ((BitVec.ofInt 64 (a : Int) ||| BitVec.ofInt 64 ((b * 2 ^ (7 * i) : Nat) : Int)).toNat : Int) = _
  rw [BitVec.ofInt_natCast, BitVec.ofInt_natCast, BitVec.toNat_or, BitVec.toNat_ofNat, BitVec.toNat_ofNat, Nat.mod_eq_of_lt (by omega), Nat.mod_eq_of_lt (by omega), or_add e2, IntKind.wrap_u64]
  omega
theorem and127 : ∀ b : Fin 256, Go.bits .and .u8 (b.val : Int) 127 = (b.val : Int) % 128 := by decide +kernel
theorem and127' {u : Int} (h0 : 0 ≤ u) (h1 : u < 256) : Go.bits .and .u8 u 127 = u % 128 := by
  have h := and127 ⟨u.toNat, by omega⟩
  simp only [Int.toNat_of_nonneg h0] at h
  exact h
theorem and1' {u : Int} (h0 : 0 ≤ u) (h1 : u < 18446744073709551616) : Go.bits .and .u64 u 1 = u % 2 := by
  obtain ⟨a, rfl⟩ := Int.eq_ofNat_of_zero_le h0
  show IntKind.u64.wrap ((BitVec.ofInt 64 (a : Int) &&& BitVec.ofInt 64 ((1 : Nat) : Int)).toNat : Int) = _
  rw [BitVec.ofInt_natCast, BitVec.ofInt_natCast, BitVec.toNat_and, BitVec.toNat_ofNat, BitVec.toNat_ofNat, Nat.mod_eq_of_lt (by omega), Nat.mod_eq_of_lt (by omega), Nat.and_one_is_mod, IntKind.wrap_u64]
  omega
def unz_ (u : Int) : Int := if u % 2 = 1 then -(u / 2) - 1 else u / 2
theorem zig_unz {u : Int} (h0 : 0 ≤ u) : zig_ (unz_ u) = u := by unfold zig_ unz_; split <;> split <;> omega
theorem unz_i64 {u : Int} (h0 : 0 ≤ u) (h1 : u < 18446744073709551616) : i64_ (unz_ u) := by unfold i64_ unz_; split <;> omega
theorem xor0i {x : Int} (h0 : 0 ≤ x) (h1 : x < 9223372036854775808) : Go.bits .xor .i64 x 0 = x := by
  obtain ⟨a, rfl⟩ := Int.eq_ofNat_of_zero_le h0
  show IntKind.i64.wrap ((BitVec.ofInt 64 (a : Int) ^^^ BitVec.ofInt 64 ((0 : Nat) : Int)).toNat : Int) = _
  rw [BitVec.ofInt_natCast, BitVec.ofInt_natCast, BitVec.toNat_xor, BitVec.toNat_ofNat, BitVec.toNat_ofNat, Nat.zero_mod, Nat.xor_zero, Nat.mod_eq_of_lt (by omega), IntKind.wrap_i64]
  omega
theorem xor1i {x : Int} (h0 : 0 ≤ x) (h1 : x < 9223372036854775808) : Go.bits .xor .i64 x (-1) = -1 - x := by
  obtain ⟨a, rfl⟩ := Int.eq_ofNat_of_zero_le h0
  show IntKind.i64.wrap ((BitVec.ofInt 64 (a : Int) ^^^ BitVec.ofInt 64 (-1)).toNat : Int) = _
  have e : BitVec.ofInt 64 (-1) = BitVec.allOnes 64 := by decide +kernel
  rw [e, BitVec.xor_allOnes, BitVec.toNat_not, BitVec.ofInt_natCast, BitVec.toNat_ofNat, Nat.mod_eq_of_lt (by omega), IntKind.wrap_i64]
  omega
theorem unfolded_f {u : Int} (h0 : 0 ≤ u) (h1 : u < 18446744073709551616) : journal_unfolded.f u = some (unz_ u) := by
  unfold journal_unfolded.f unz_
  rw [and1' h0 h1, w64 (x := u / 2) (by omega) (by omega), w64 (x := u % 2) (by omega) (by omega)]
  by_cases h : u % 2 = 1
  · rw [if_pos h, h, show wrap64 (-1) = -1 by decide +kernel, xor1i (by omega) (by omega)]
    congr 1; omega
  · rw [if_neg h, show u % 2 = 0 by omega, show wrap64 (-0) = 0 by decide +kernel, xor0i (by omega) (by omega)]
theorem pow9 {i : Nat} (h : i ≤ 9) : (1 : Int) ≤ 128 ^ i ∧ (128 : Int) ^ i ≤ 9223372036854775808 ∧ (i ≤ 8 → (128 : Int) ^ i ≤ 72057594037927936) := by
  have : ∀ j : Fin 10, (1 : Int) ≤ 128 ^ j.val ∧ (128 : Int) ^ j.val ≤ 9223372036854775808 ∧ (j.val ≤ 8 → (128 : Int) ^ j.val ≤ 72057594037927936) := by decide +kernel
  exact this ⟨i, by omega⟩
theorem or_step {u c : Int} {i : Nat} (hi : i ≤ 9) (h0 : 0 ≤ u) (hu : u < 128 ^ i) (c0 : 0 ≤ c) (c1 : c < 128) (h9 : i = 9 → c ≤ 1) :
    Go.bits .or .u64 u (shl .u64 (IntKind.u64.wrap c) (wrap64 (7 * (i : Int)))) = u + c * 128 ^ i ∧ 0 ≤ u + c * 128 ^ i ∧ u + c * 128 ^ i < 128 ^ (i + 1) ∧ u + c * 128 ^ i < 18446744073709551616 := by
  obtain ⟨p1, p2, p3⟩ := pow9 hi
  have e2 : (2 : Int) ^ (7 * i) = 128 ^ i := by rw [Int.pow_mul]; rfl
  have eb : c * 128 ^ i ≤ 127 * 128 ^ i := Int.mul_le_mul_of_nonneg_right (by omega) (by omega)
  have ec : 0 ≤ c * 128 ^ i := Int.mul_nonneg c0 (by omega)
  have ed : i = 9 → c * 128 ^ i ≤ 1 * 128 ^ i := fun h => Int.mul_le_mul_of_nonneg_right (h9 h) (by omega)
  have lt : u + c * 128 ^ i < 18446744073709551616 := by
    by_cases h : i = 9
    · have := ed h; omega
    · have := p3 (by omega); omega
  have es : shl .u64 (IntKind.u64.wrap c) (wrap64 (7 * (i : Int))) = c * 128 ^ i := by
    unfold shl
    rw [w64 (by omega) (by omega), show (7 * (i : Int)).toNat = 7 * i by omega, show IntKind.u64.bits = 64 from rfl, Nat.min_eq_left (by omega), show IntKind.u64.wrap c = c by rw [IntKind.wrap_u64]; omega, e2, IntKind.wrap_u64]
    omega
  rw [es]
  refine ⟨bits_or h0 hu c0 (by omega), by omega, ?_, lt⟩
  rw [Int.pow_succ]; omega
def la_ : List Int → Int
  | [] => 0
  | [c] => c
  | _ :: e :: t => la_ (e :: t)
theorem nz_la : ∀ d : List Int, nz_ d = (la_ d != 0)
  | [] => rfl
  | [_] => rfl
  | _ :: e :: t => nz_la (e :: t)
def badn_ (i : Nat) (d : List Int) : Prop := (i + d.length = 10 ∧ 1 < la_ d) ∨ (1 < i + d.length ∧ la_ d = 0)
theorem badn_cons {i : Nat} {c : Int} {d : List Int} (h : 1 ≤ d.length) : badn_ i (c :: d) ↔ badn_ (i + 1) d := by
  match d, h with
  | e :: t, _ =>
    unfold badn_
    rw [show la_ (c :: e :: t) = la_ (e :: t) from rfl, show i + (c :: e :: t).length = i + 1 + (e :: t).length by simp only [List.length_cons]; omega]
instance (i : Nat) (d : List Int) : Decidable (badn_ i d) := by unfold badn_; infer_instance
def nres_ (i : Nat) (u : Int) : Option (List Int) → Int × Int
  | none => (0, 0)
  | some d => if badn_ i d then (0, 0) else (u + uu_ d * 128 ^ i, ((i + d.length : Nat) : Int))
theorem number_l0 {l : List Int} (hb : byt_ l) (hl : l.length ≤ 1000000) : ∀ (m i : Nat) (t : List Int) (u : Int), i + m = 9 → l.drop i = t → 0 ≤ u → u < 128 ^ i →
    Ev (fun k => journal_number.l0 k u l (l.length : Int) i) (nres_ i u (vs_ (m + 1) t))
  | m, i, [], u, hi, h, h0, hu => by
    have := dropK h
    exact Ev.step (f := fun _ => some (0, 0)) (fun k => by rw [journal_number.l0, if_neg (by omega)]) (Ev.now _)
  | m, i, c :: t, u, hi, h, h0, hu => by
    obtain ⟨h1, h2, h3⟩ := dropJ h
    have hc := hb c (List.mem_of_mem_drop (i := i) (by rw [h]; simp))
    have e128 := and127' hc.1 hc.2
    have go : ∀ y : Bool, y = decide (i = 9 ∧ 1 < c) → Ev (fun k => journal_number.j1 k u i c l (l.length : Int) i y) (nres_ i u (vs_ (m + 1) (c :: t))) → Ev (fun k => journal_number.l0 k u l (l.length : Int) i) (nres_ i u (vs_ (m + 1) (c :: t))) := by
      intro y hy hE
      refine Ev.step (fun k => ?_) hE
      rw [journal_number.l0, if_pos (by omega), if_pos (by omega), if_pos (by omega), h2]
      by_cases h9 : i = 9
      · rw [if_pos (by omega), hy]
        congr 1
        simp [h9]
      · rw [if_neg (by omega), hy]
        congr 1
        simp [h9]
    by_cases hbad : i = 9 ∧ 1 < c
    · refine go true (decide_eq_true hbad).symm ?_
      have e : nres_ i u (vs_ (m + 1) (c :: t)) = (0, 0) := by
        have : m = 0 := by omega
        subst this
        simp only [vs_]
        by_cases h128 : c < 128
        · rw [if_pos h128]
          unfold nres_
          simp only
          rw [if_pos]
          left
          simp only [List.length_singleton, la_]
          omega
        · rw [if_neg h128]; rfl
      rw [e]
      exact Ev.step (fun k => by rw [journal_number.j1, if_pos rfl]) (Ev.now _)
    · refine go false (decide_eq_false hbad).symm ?_
      obtain ⟨o1, o2, o3, o4⟩ := or_step (u := u) (c := c % 128) (i := i) (by omega) h0 hu (by omega) (by omega) (fun h => by omega)
      by_cases h128 : c < 128
      · have e : vs_ (m + 1) (c :: t) = some [c] := by simp only [vs_]; rw [if_pos h128]
        rw [e]
        unfold nres_
        simp only
        rw [show c % 128 = c by omega] at o1 o2 o3 o4
        have hg : Ev (fun k => journal_number.j2 k (u + c * 128 ^ i) i (decide (0 < i ∧ c = 0))) (if badn_ i [c] then (0, 0) else (u + uu_ [c] * 128 ^ i, ((i + [c].length : Nat) : Int))) := by
          by_cases hz : 0 < i ∧ c = 0
          · rw [if_pos (.inr ⟨by simp; omega, by simpa [la_] using hz.2⟩), decide_eq_true hz]
            exact Ev.step (fun k => by rw [journal_number.j2, if_pos rfl]) (Ev.now _)
          · rw [if_neg, decide_eq_false hz]
            · refine Ev.step (f := fun _ => some (u + c * 128 ^ i, wrap64 ((i : Int) + 1))) (fun k => by rw [journal_number.j2, if_neg (by decide)]) ?_
              rw [upJ (by omega), show uu_ [c] = c by simp [uu_]]
              exact Ev.now _
            · unfold badn_
              simp only [List.length_singleton, la_]
              omega
        refine Ev.step (fun k => ?_) hg
        rw [journal_number.j1, if_neg (by decide), if_pos (by rw [w64 (by omega) (by omega)]; omega), if_pos h128, e128, show c % 128 = c by omega, o1]
        by_cases hz : 0 < i
        · rw [if_pos (by omega)]
          congr 1
          by_cases hc0 : c = 0
          · simp [hz, hc0]
          · simp [hc0]
        · rw [if_neg (by omega)]
          congr 1
          simp [hz]
      · have h9 : ¬ i = 9 := by omega
        match m, hi with
        | 0, hi => omega
        | m + 1, hi =>
          have ih := number_l0 hb hl m (i + 1) t (u + c % 128 * 128 ^ i) (by omega) h3 o2 o3
          have e : nres_ i u (vs_ (m + 1 + 1) (c :: t)) = nres_ (i + 1) (u + c % 128 * 128 ^ i) (vs_ (m + 1) t) := by
            simp only [vs_]
            rw [if_neg h128]
            cases hv : vs_ (m + 1) t with
            | none => rfl
            | some d =>
              have hd := (vs_spec (m + 1) t d (fun x hx => hb x (by rw [← h3] at hx; exact List.mem_of_mem_drop hx)) hv).1
              simp only [Option.map_some]
              unfold nres_
              simp only
              by_cases hB : badn_ (i + 1) d
              · rw [if_pos hB, if_pos ((badn_cons hd).2 hB)]
              · rw [if_neg hB, if_neg (fun h => hB ((badn_cons hd).1 h))]
                simp only [uu_, List.length_cons]
                rw [show i + (d.length + 1) = i + 1 + d.length by omega, Int.add_mul, Int.pow_succ, Int.mul_comm 128 (uu_ d), Int.mul_assoc, Int.mul_comm 128 (128 ^ i), Int.add_assoc]
          rw [e]
          refine Ev.step (fun k => ?_) ih
          rw [journal_number.j1, if_neg (by decide), if_pos (by rw [w64 (by omega) (by omega)]; omega), if_neg h128, e128, o1, if_neg (by omega), upJ (by omega)]
theorem number_v {l : List Int} (hb : byt_ l) (hl : l.length ≤ 1000000) : Ev (fun k => journal_number.f k l) (nres_ 0 0 (vs_ 10 l)) := by
  unfold journal_number.f
  exact number_l0 hb hl 9 0 l 0 rfl rfl (by omega) (by simp)
end Go.Proofs.Ytkgpnegebpkhlaa.PJournalReads
