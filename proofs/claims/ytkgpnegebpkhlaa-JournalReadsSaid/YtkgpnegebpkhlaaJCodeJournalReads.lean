import Derived.Test.YtkgpnegebpkhlaaRunesJournalReads
/-! Our own text: records as bytes: the program's and the reference's numbers. -/
namespace Go.Proofs.Ytkgpnegebpkhlaa.PJournalReads
open Go.RowKit Go.Proofs.YtkgpnegebpkhlaaW.PrintWords

/-! ### a number's bytes -/
theorem or128 : ∀ b : Fin 256, Go.bits .or .u8 (b.val : Int) 128 = (b.val : Int) % 128 + 128 := by decide +kernel
theorem or128' {u : Int} : Go.bits .or .u8 (u % 256) 128 = u % 128 + 128 := by
  have h := or128 ⟨(u % 256).toNat, by omega⟩
  simp only [Int.toNat_of_nonneg (show 0 ≤ u % 256 by omega)] at h
  rw [h]; omega
def leb_ : Nat → Int → List Int
  | 0, u => [u]
  | f + 1, u => if u ≥ 128 then (u % 128 + 128) :: leb_ f (u / 128) else [u]
theorem leb_len : ∀ (f : Nat) (u : Int), (leb_ f u).length ≤ f + 1
  | 0, _ => by simp [leb_]
  | f + 1, u => by
    simp only [leb_]
    split
    · have := leb_len f (u / 128)
      simp; omega
    · simp
theorem putNumber_ev : ∀ (f : Nat) (u : Int) (l : List Int), 0 ≤ u → u < 128 ^ (f + 1) → l.length + f ≤ 1000100 → f ≤ 100 → Ev (fun k => journal_putNumber.l0 k l u) (l ++ leb_ f u)
  | f, u, l, h0, h1, hl, hf => by
    by_cases h : u ≥ 128
    · match f, h1, hl, hf with
      | 0, h1, _, _ => omega
      | f + 1, h1, hl, hf =>
        have hd : u / 128 < 128 ^ (f + 1) := by
          rw [Int.pow_succ] at h1
          omega
        have ih := putNumber_ev f (u / 128) (l ++ [u % 128 + 128]) (by omega) hd (by simp; omega) (by omega)
        simp only [leb_]
        rw [if_pos h]
        rw [List.append_assoc] at ih
        refine Ev.step (fun k => ?_) ih
        simp only [journal_putNumber.l0]
        rw [if_pos h, if_pos (by omega), or128']
    · have e : leb_ f u = [u] := by
        cases f with
        | zero => rfl
        | succ f => simp only [leb_]; rw [if_neg h]
      rw [e]
      refine Ev.step (f := fun _ => some (l ++ [u])) (fun k => ?_) (Ev.now _)
      simp only [journal_putNumber.l0]
      rw [if_neg h, if_pos (by omega), show u % 256 = u by omega]

/-! ### the sign at the end -/
def zig_ (n : Int) : Int := if 0 ≤ n then 2 * n else -2 * n - 1
theorem xor_zero (x : Int) (h0 : 0 ≤ x) (h1 : x < 18446744073709551616) : Go.bits .xor .u64 x 0 = x := by
  obtain ⟨a, rfl⟩ := Int.eq_ofNat_of_zero_le h0
  show IntKind.u64.wrap ((BitVec.ofInt 64 (a : Int) ^^^ BitVec.ofInt 64 ((0 : Nat) : Int)).toNat : Int) = _
  rw [BitVec.ofInt_natCast, BitVec.ofInt_natCast, BitVec.toNat_xor, BitVec.toNat_ofNat, BitVec.toNat_ofNat, Nat.zero_mod, Nat.xor_zero, Nat.mod_eq_of_lt (by omega), IntKind.wrap_u64]
  omega
theorem xor_ones (x : Int) (h0 : 0 ≤ x) (h1 : x < 18446744073709551616) : Go.bits .xor .u64 x 18446744073709551615 = 18446744073709551615 - x := by
  obtain ⟨a, rfl⟩ := Int.eq_ofNat_of_zero_le h0
  show IntKind.u64.wrap ((BitVec.ofInt 64 (a : Int) ^^^ BitVec.ofInt 64 18446744073709551615).toNat : Int) = _
  have e : BitVec.ofInt 64 18446744073709551615 = BitVec.allOnes 64 := by decide +kernel
  rw [e, BitVec.xor_allOnes, BitVec.toNat_not, BitVec.ofInt_natCast, BitVec.toNat_ofNat, Nat.mod_eq_of_lt (by omega), IntKind.wrap_u64]
  omega
theorem folded_f {n : Int} (h0 : -9223372036854775808 ≤ n) (h1 : n ≤ 9223372036854775807) : journal_folded.f n = some (zig_ n) := by
  unfold journal_folded.f zig_
  rw [IntKind.wrap_u64, IntKind.wrap_u64, IntKind.wrap_u64]
  by_cases h : 0 ≤ n
  · rw [if_pos h, show n / 9223372036854775808 % 18446744073709551616 = 0 by omega, xor_zero _ (by omega) (by omega)]
    congr 1; omega
  · rw [if_neg h, show n / 9223372036854775808 % 18446744073709551616 = 18446744073709551615 by omega, xor_ones _ (by omega) (by omega)]
    congr 1; omega
theorem zig_range {n : Int} (h0 : -9223372036854775808 ≤ n) (h1 : n ≤ 9223372036854775807) : 0 ≤ zig_ n ∧ zig_ n < 18446744073709551616 := by
  unfold zig_; split <;> omega

/-! ### the reference's digits -/
def digs_ : Nat → Int → List Int
  | 0, _ => []
  | f + 1, u => if u > 0 then u % 128 :: digs_ f (u / 128) else []
def cont_ : List Int → List Int
  | [] => []
  | [d] => [d]
  | d :: e :: t => (d + 128) :: cont_ (e :: t)
theorem cont_digs : ∀ (f : Nat) (u : Int), 0 ≤ u → u < 128 ^ (f + 1) → cont_ (u % 128 :: digs_ f (u / 128)) = leb_ f u
  | 0, u, h0, h1 => by
    simp only [digs_, cont_, leb_]
    rw [show u % 128 = u by omega]
  | f + 1, u, h0, h1 => by
    simp only [digs_, leb_]
    have hd : u / 128 < 128 ^ (f + 1) := by
      rw [Int.pow_succ] at h1
      omega
    by_cases h : u ≥ 128
    · rw [if_pos h, if_pos (by omega)]
      simp only [cont_]
      rw [cont_digs f (u / 128) (by omega) hd]
    · rw [if_neg h, if_neg (by omega)]
      simp only [cont_]
      rw [show u % 128 = u by omega]
theorem digits_l0 : ∀ (f : Nat) (u : Int) (l : List Int), 0 ≤ u → u < 128 ^ f → u ≤ 9223372036854775807 → l.length + f ≤ 1000100 → f ≤ 100 → Ev (fun k => regletref23_digits.l0 k u l) (l ++ digs_ f u)
  | 0, u, l, h0, h1, hm, hl, hf => by
    refine Ev.step (f := fun _ => some l) (fun k => ?_) (by simp only [digs_, List.append_nil]; exact Ev.now _)
    simp only [regletref23_digits.l0]
    rw [if_neg (by omega)]
  | f + 1, u, l, h0, h1, hm, hl, hf => by
    simp only [digs_]
    by_cases h : u > 0
    · rw [if_pos h]
      have hd : u / 128 < 128 ^ f := by
        rw [Int.pow_succ] at h1
        omega
      have ih := digits_l0 f (u / 128) (l ++ [u % 128]) (by omega) hd (by omega) (by simp; omega) (by omega)
      rw [List.append_assoc] at ih
      refine Ev.step (fun k => ?_) ih
      simp only [regletref23_digits.l0]
      rw [if_pos h, if_pos (by omega), tdiv_pos h0, tmod_pos h0, w64 (by omega) (by omega)]
    · rw [if_neg h, List.append_nil]
      refine Ev.step (f := fun _ => some l) (fun k => ?_) (Ev.now _)
      simp only [regletref23_digits.l0]
      rw [if_neg h]
theorem digits_ev {n : Int} (odd : Bool) (h0 : 0 ≤ n) (h1 : n ≤ 9223372036854775807) : Ev (fun k => regletref23_digits.f k n odd) ((n % 64 * 2 + (if odd = true then 1 else 0)) :: digs_ 10 (n / 64)) := by
  have key : ∀ c : Int, Ev (fun k => regletref23_digits.j0 k n [] c) (c :: digs_ 10 (n / 64)) := fun c => by
    have ih := digits_l0 10 (n / 64) [c] (by omega) (by omega) (by omega) (by simp) (by omega)
    refine Ev.step (fun k => ?_) ih
    simp only [regletref23_digits.j0]
    rw [if_pos (by simp), tdiv_pos h0, w64 (by omega) (by omega)]
    rfl
  unfold regletref23_digits.f
  cases odd with
  | true =>
    rw [if_pos rfl]
    have := key (n % 64 * 2 + 1)
    refine Ev.congr (fun k => ?_) this
    rw [if_pos rfl, tmod_pos h0, w64 (x := n % 64 * 2) (by omega) (by omega), w64 (by omega) (by omega)]
  | false =>
    rw [if_neg (by decide), Int.add_zero]
    refine Ev.congr (fun k => ?_) (key (n % 64 * 2))
    rw [if_neg (by decide), tmod_pos h0, w64 (by omega) (by omega)]
theorem fold_ev {n : Int} (h0 : -9223372036854775808 ≤ n) (h1 : n ≤ 9223372036854775807) : Ev (fun k => regletref23_fold.f k n) (zig_ n % 128 :: digs_ 10 (zig_ n / 128)) := by
  unfold regletref23_fold.f zig_
  by_cases h : n < 0
  · have h2 := digits_ev true (n := -(n + 1)) (by omega) (by omega)
    rw [if_neg (by omega)]
    rw [if_pos rfl] at h2
    refine Ev.congr (f := fun k => (regletref23_digits.f k (-(n + 1)) true).bind fun t => some t) (fun k => by rw [if_pos h, w64 (x := n + 1) (by omega) (by omega), w64 (by omega) (by omega)]) ?_
    refine Ev.bind h2 ?_
    rw [show (-2 * n - 1) % 128 = -(n + 1) % 64 * 2 + 1 by omega, show (-2 * n - 1) / 128 = -(n + 1) / 64 by omega]
    exact Ev.now _
  · have h2 := digits_ev false (n := n) (by omega) (by omega)
    rw [if_pos (by omega)]
    rw [if_neg (by decide), Int.add_zero] at h2
    refine Ev.congr (f := fun k => (regletref23_digits.f k n false).bind fun t => some t) (fun k => by rw [if_neg h]) ?_
    refine Ev.bind h2 ?_
    rw [show 2 * n % 128 = n % 64 * 2 by omega, show 2 * n / 128 = n / 64 by omega]
    exact Ev.now _
theorem plain_l0 : ∀ (f : Nat) (u : Int) (l : List Int), 0 ≤ u → u < 128 ^ f → u ≤ 9223372036854775807 → l.length + f ≤ 1000100 → f ≤ 100 → Ev (fun k => regletref23_plain.l0 k u l) (l ++ digs_ f u)
  | 0, u, l, h0, h1, hm, hl, hf => by
    refine Ev.step (f := fun _ => some l) (fun k => ?_) (by simp only [digs_, List.append_nil]; exact Ev.now _)
    simp only [regletref23_plain.l0]
    rw [if_neg (by omega)]
  | f + 1, u, l, h0, h1, hm, hl, hf => by
    simp only [digs_]
    by_cases h : u > 0
    · rw [if_pos h]
      have hd : u / 128 < 128 ^ f := by
        rw [Int.pow_succ] at h1
        omega
      have ih := plain_l0 f (u / 128) (l ++ [u % 128]) (by omega) hd (by omega) (by simp; omega) (by omega)
      rw [List.append_assoc] at ih
      refine Ev.step (fun k => ?_) ih
      simp only [regletref23_plain.l0]
      rw [if_pos h, if_pos (by omega), tdiv_pos h0, tmod_pos h0, w64 (by omega) (by omega)]
    · rw [if_neg h, List.append_nil]
      refine Ev.step (f := fun _ => some l) (fun k => ?_) (Ev.now _)
      simp only [regletref23_plain.l0]
      rw [if_neg h]
theorem plain_ev {u : Int} (h0 : 0 ≤ u) (h1 : u ≤ 1000000) : Ev (fun k => regletref23_plain.f k u) (u % 128 :: digs_ 10 (u / 128)) := by
  have ih := plain_l0 10 (u / 128) [u % 128] (by omega) (by omega) (by omega) (by simp) (by omega)
  unfold regletref23_plain.f
  refine Ev.congr (fun k => ?_) ih
  rw [tdiv_pos h0, tmod_pos h0, w64 (by omega) (by omega)]
def dok_ (l : List Int) : Prop := ∀ d ∈ l, 0 ≤ d ∧ d < 128
theorem dok_digs : ∀ (f : Nat) (u : Int), dok_ (digs_ f u)
  | 0, _ => fun d hd => by simp [digs_] at hd
  | f + 1, u => fun d hd => by
    simp only [digs_] at hd
    split at hd
    · rcases List.mem_cons.1 hd with rfl | hd
      · omega
      · exact dok_digs f _ d hd
    · simp at hd
theorem digs_len : ∀ (f : Nat) (u : Int), (digs_ f u).length ≤ f
  | 0, _ => by simp [digs_]
  | f + 1, u => by
    simp only [digs_]
    split
    · have := digs_len f (u / 128)
      simp; omega
    · simp
theorem put_l0 {l : List Int} (hok : dok_ l) (hn : l.length ≤ 100) : ∀ (t : List Int) (j : Nat) (b : List Int), j + t.length = l.length → l.drop j = t → b.length + t.length ≤ 2000000 → Ev (fun k => regletref23_put.l0 k b l j) (b ++ cont_ t)
  | [], j, b, hj, _, _ => by
    simp only [cont_, List.append_nil]
    refine Ev.step (f := fun _ => some b) (fun k => ?_) (Ev.now _)
    simp only [regletref23_put.l0]
    rw [if_neg (by simp at hj; omega)]
  | d :: t, j, b, hj, hd, hb => by
    simp only [List.length_cons] at hj hb
    have hrd : rd l (j : Int) = d := by
      unfold rd
      rw [Int.toNat_natCast, List.getD_eq_getElem?_getD, ← List.head?_drop, hd]; rfl
    have hmem : d ∈ l := List.mem_of_mem_drop (i := j) (by rw [hd]; simp)
    obtain ⟨d0, d1⟩ := hok d hmem
    have hd2 : l.drop (j + 1) = t := by rw [← List.drop_drop, hd]; rfl
    have ew : wrap64 ((j : Int) + 1) = ((j + 1 : Nat) : Int) := by rw [w64 (by omega) (by omega)]; omega
    cases t with
    | nil =>
      have ih := put_l0 hok hn [] (j + 1) (b ++ [d]) (by simpa using hj) hd2 (by simp; omega)
      simp only [cont_, List.append_nil] at ih ⊢
      refine Ev.step (fun k => ?_) ih
      simp only [regletref23_put.l0]
      simp only [List.length_nil] at hj
      rw [if_pos (by omega), if_pos (by omega), w64 (x := (l.length : Int) - 1) (by omega) (by omega), if_neg (by omega), if_pos (by omega), hrd, ew, show d % 256 = d by omega]
    | cons e t =>
      have ih := put_l0 hok hn (e :: t) (j + 1) (b ++ [d + 128]) (by simp at hj ⊢; omega) hd2 (by simp at hb ⊢; omega)
      simp only [cont_]
      rw [List.append_assoc] at ih
      refine Ev.step (fun k => ?_) ih
      simp only [regletref23_put.l0]
      simp only [List.length_cons] at hj hb
      rw [if_pos (by omega), if_pos (by omega), w64 (x := (l.length : Int) - 1) (by omega) (by omega), if_pos (by omega), if_pos (by omega), hrd, ew, w64 (x := d + 128) (by omega) (by omega), show (d + 128) % 256 = d + 128 by omega]
theorem put_ev {l b : List Int} (hok : dok_ l) (hn : l.length ≤ 100) (hb : b.length ≤ 1000000) : Ev (fun k => regletref23_put.f k b l) (b ++ cont_ l) := by
  unfold regletref23_put.f
  exact put_l0 hok hn l 0 b (by omega) rfl (by omega)
/-- A folded number, written. -/
theorem put_zig {n : Int} {b : List Int} (h0 : -9223372036854775808 ≤ n) (h1 : n ≤ 9223372036854775807) (hb : b.length ≤ 1000000) : Ev (fun k => regletref23_put.f k b (zig_ n % 128 :: digs_ 10 (zig_ n / 128))) (b ++ leb_ 10 (zig_ n)) := by
  have hz := zig_range h0 h1
  rw [← cont_digs 10 (zig_ n) hz.1 (by omega)]
  refine put_ev ?_ (by have := digs_len 10 (zig_ n / 128); simp; omega) hb
  intro d hd
  rcases List.mem_cons.1 hd with rfl | hd
  · omega
  · exact dok_digs _ _ d hd
theorem put_plain {u : Int} {b : List Int} (h0 : 0 ≤ u) (h1 : u ≤ 1000000) (hb : b.length ≤ 1000000) : Ev (fun k => regletref23_put.f k b (u % 128 :: digs_ 10 (u / 128))) (b ++ leb_ 10 u) := by
  rw [← cont_digs 10 u h0 (by omega)]
  refine put_ev ?_ (by have := digs_len 10 (u / 128); simp; omega) hb
  intro d hd
  rcases List.mem_cons.1 hd with rfl | hd
  · omega
  · exact dok_digs _ _ d hd
end Go.Proofs.Ytkgpnegebpkhlaa.PJournalReads
