import Derived.Test.YtkgpnegebpkhlaaPJournalBackx
/-! Our own text: the program's records as bytes, and back (picked by wip/pick.py from the texts Utf8, JCode, JRec, JNum, JOne, JTwo, JParse, without what the reference does). -/
namespace Go.Proofs.Ytkgpnegebpkhlaa.PJournalBack
set_option linter.unusedVariables false
open Go.RowKit Go.Proofs.YtkgpnegebpkhlaaW.PrintWords
def rgt_ (t : ByteArray) : Bool := decide (bad_ t (t.size + 1) 0 < 0)
theorem check_f {s : ByteArray} (hs : (s.size : Int) ≤ 1000000) : runes_Check.f s = some (if rgt_ s = true then 0 else 20) := by
  unfold runes_Check.f runes_Bad.f rgt_
  rw [if_pos (by omega), Option.bind_some]
  by_cases h : bad_ s (s.size + 1) 0 < 0
  · rw [if_neg (by omega), if_pos (decide_eq_true h)]
  · rw [if_pos (by omega), if_neg (by rw [decide_eq_false h]; decide)]
theorem w64 {x : Int} (h0 : -9223372036854775808 ≤ x) (h1 : x ≤ 9223372036854775807) : wrap64 x = x := by unfold wrap64; omega
theorem tmod_pos {a b : Int} (h : 0 ≤ a) : Int.tmod a b = a % b := Int.tmod_eq_emod_of_nonneg h
theorem tdiv_pos {a b : Int} (h : 0 ≤ a) : Int.tdiv a b = a / b := Int.tdiv_eq_ediv_of_nonneg h
theorem or128 : ∀ b : Fin 256, Go.bits .or .u8 (b.val : Int) 128 = (b.val : Int) % 128 + 128 := by decide +kernel
theorem or128' {u : Int} : Go.bits .or .u8 (u % 256) 128 = u % 128 + 128 := by
  have h := or128 ⟨(u % 256).toNat, by omega⟩
  simp only [Int.toNat_of_nonneg (show 0 ≤ u % 256 by omega)] at h
  rw [h]; omega
def leb_ : Nat → Int → List Int
  | 0, u => [u]
  | f + 1, u => if u ≥ 128 then (u % 128 + 128) :: leb_ f (u / 128) else [u]
theorem leb_len : ∀ (f : Nat) (u : Int), (leb_ f u).length ≤ f + 1
  | 0, _ => by simp [leb_]
  | f + 1, u => by
    simp only [leb_]
    split
    · have := leb_len f (u / 128)
      simp; omega
    · simp
theorem putNumber_ev : ∀ (f : Nat) (u : Int) (l : List Int), 0 ≤ u → u < 128 ^ (f + 1) → l.length + f ≤ 1000100 → f ≤ 100 → Ev (fun k => journal_putNumber.l0 k l u) (l ++ leb_ f u)
  | f, u, l, h0, h1, hl, hf => by
    by_cases h : u ≥ 128
    · match f, h1, hl, hf with
      | 0, h1, _, _ => omega
      | f + 1, h1, hl, hf =>
        have hd : u / 128 < 128 ^ (f + 1) := by
          rw [Int.pow_succ] at h1
          omega
        have ih := putNumber_ev f (u / 128) (l ++ [u % 128 + 128]) (by omega) hd (by simp; omega) (by omega)
        simp only [leb_]
        rw [if_pos h]
        rw [List.append_assoc] at ih
        refine Ev.step (fun k => ?_) ih
        simp only [journal_putNumber.l0]
        rw [if_pos h, if_pos (by omega), or128']
    · have e : leb_ f u = [u] := by
        cases f with
        | zero => rfl
        | succ f => simp only [leb_]; rw [if_neg h]
      rw [e]
      refine Ev.step (f := fun _ => some (l ++ [u])) (fun k => ?_) (Ev.now _)
      simp only [journal_putNumber.l0]
      rw [if_neg h, if_pos (by omega), show u % 256 = u by omega]
def zig_ (n : Int) : Int := if 0 ≤ n then 2 * n else -2 * n - 1
theorem xor_zero (x : Int) (h0 : 0 ≤ x) (h1 : x < 18446744073709551616) : Go.bits .xor .u64 x 0 = x := by
  obtain ⟨a, rfl⟩ := Int.eq_ofNat_of_zero_le h0
  show IntKind.u64.wrap ((BitVec.ofInt 64 (a : Int) ^^^ BitVec.ofInt 64 ((0 : Nat) : Int)).toNat : Int) = _
  rw [BitVec.ofInt_natCast, BitVec.ofInt_natCast, BitVec.toNat_xor, BitVec.toNat_ofNat, BitVec.toNat_ofNat, Nat.zero_mod, Nat.xor_zero, Nat.mod_eq_of_lt (by omega), IntKind.wrap_u64]
  omega
theorem xor_ones (x : Int) (h0 : 0 ≤ x) (h1 : x < 18446744073709551616) : Go.bits .xor .u64 x 18446744073709551615 = 18446744073709551615 - x := by
  obtain ⟨a, rfl⟩ := Int.eq_ofNat_of_zero_le h0
  show IntKind.u64.wrap ((BitVec.ofInt 64 (a : Int) ^^^ BitVec.ofInt 64 18446744073709551615).toNat : Int) = _
  have e : BitVec.ofInt 64 18446744073709551615 = BitVec.allOnes 64 := by decide +kernel
  rw [e, BitVec.xor_allOnes, BitVec.toNat_not, BitVec.ofInt_natCast, BitVec.toNat_ofNat, Nat.mod_eq_of_lt (by omega), IntKind.wrap_u64]
  omega
theorem folded_f {n : Int} (h0 : -9223372036854775808 ≤ n) (h1 : n ≤ 9223372036854775807) : journal_folded.f n = some (zig_ n) := by
  unfold journal_folded.f zig_
  rw [IntKind.wrap_u64, IntKind.wrap_u64, IntKind.wrap_u64]
  by_cases h : 0 ≤ n
  · rw [if_pos h, show n / 9223372036854775808 % 18446744073709551616 = 0 by omega, xor_zero _ (by omega) (by omega)]
    congr 1; omega
  · rw [if_neg h, show n / 9223372036854775808 % 18446744073709551616 = 18446744073709551615 by omega, xor_ones _ (by omega) (by omega)]
    congr 1; omega
theorem zig_range {n : Int} (h0 : -9223372036854775808 ≤ n) (h1 : n ≤ 9223372036854775807) : 0 ≤ zig_ n ∧ zig_ n < 18446744073709551616 := by
  unfold zig_; split <;> omega
def cont_ : List Int → List Int
  | [] => []
  | [d] => [d]
  | d :: e :: t => (d + 128) :: cont_ (e :: t)
def dok_ (l : List Int) : Prop := ∀ d ∈ l, 0 ≤ d ∧ d < 128
def many_ (k : Int) : Int := if k = 2 then 2 else if k = 3 then 3 else if k = 1 ∨ k = 4 ∨ k = 5 then 1 else 0
theorem many_range (k : Int) : 0 ≤ many_ k ∧ many_ k ≤ 3 := by unfold many_; (repeat' split) <;> omega
theorem numbers_ev (a : Int) : Ev (fun k => journal_numbers.f k a) (many_ a) := by
  unfold journal_numbers.f
  by_cases h1 : a = 1
  · subst h1
    rw [show many_ 1 = 1 by decide]
    exact Ev.congr (fun k => by rw [if_pos rfl]) (Ev.step (fun k => by simp only [journal_numbers.j0]; rw [if_pos (by decide)]) (Ev.now _))
  by_cases h4 : a = 4
  · subst h4
    rw [show many_ 4 = 1 by decide]
    exact Ev.congr (fun k => by rw [if_neg (by decide), if_pos rfl]) (Ev.step (fun k => by simp only [journal_numbers.j0]; rw [if_pos (by decide)]) (Ev.now _))
  by_cases h5 : a = 5
  · subst h5
    rw [show many_ 5 = 1 by decide]
    exact Ev.congr (fun k => by rw [if_neg (by decide), if_neg (by decide)]) (Ev.step (fun k => by simp only [journal_numbers.j0]; rw [if_pos (by decide)]) (Ev.now _))
  have e5 : (a == 5) = false := beq_eq_false_iff_ne.mpr h5
  refine Ev.congr (f := fun k => journal_numbers.j0 k a false) (fun k => by rw [if_neg h1, if_neg h4, e5]) ?_
  by_cases h2 : a = 2
  · subst h2
    rw [show many_ 2 = 2 by decide]
    exact Ev.step (fun k => by simp only [journal_numbers.j0]; rw [if_neg (by decide), if_pos trivial]) (Ev.now _)
  by_cases h3 : a = 3
  · subst h3
    rw [show many_ 3 = 3 by decide]
    exact Ev.step (fun k => by simp only [journal_numbers.j0]; rw [if_neg (by decide), if_neg (by decide), if_pos trivial]) (Ev.now _)
  rw [show many_ a = 0 by unfold many_; rw [if_neg h2, if_neg h3, if_neg (by omega)]]
  exact Ev.step (fun k => by simp only [journal_numbers.j0]; rw [if_neg (by decide), if_neg h2, if_neg h3]) (Ev.now _)
def rcode_ (a b c d : Int) (t : ByteArray) : Int :=
  if many_ a = 0 ∨ (many_ a < 2 ∧ ¬ c = 0) ∨ (many_ a < 3 ∧ ¬ d = 0) ∨ (¬ a = 1 ∧ ¬ t.toList = []) ∨ (t.size : Int) > 65536 then 230 else if rgt_ t = true then 0 else 20
theorem jright_j0 {bad : Bool} {a b c d : Int} {t : ByteArray} (hs : (t.size : Int) ≤ 1000000) :
    Ev (fun k => journal_Right.j0 k bad a b c d t) (if bad = true ∨ (¬ a = 1 ∧ ¬ t.toList = []) ∨ (t.size : Int) > 65536 then 230 else if rgt_ t = true then 0 else 20) := by
  cases bad with
  | true =>
    rw [if_pos (.inl rfl)]
    exact Ev.step (fun k => by simp only [journal_Right.j0]; rw [if_pos trivial]) (Ev.now _)
  | false =>
    refine Ev.step (fun k => by simp only [journal_Right.j0]; rw [if_neg (by decide)]) ?_
    by_cases h1 : a = 1
    · simp only [if_pos h1]
      by_cases h2 : (t.size : Int) > 65536
      · simp only [if_pos h2]
        rw [if_pos (.inr (.inr h2))]
        exact Ev.now _
      · simp only [if_neg h2]
        rw [if_neg (by rintro (h | h | h) <;> first | exact h2 h | exact h.1 h1 | cases h), check_f hs]
        exact Ev.now _
    · simp only [if_neg h1]
      by_cases h3 : t.toList = []
      · simp only [if_pos h3]
        by_cases h2 : (t.size : Int) > 65536
        · simp only [if_pos h2]
          rw [if_pos (.inr (.inr h2))]
          exact Ev.now _
        · simp only [if_neg h2]
          rw [if_neg (by rintro (h | h | h) <;> first | exact h2 h | exact h.2 h3 | cases h), check_f hs]
          exact Ev.now _
      · simp only [if_neg h3]
        rw [if_pos (.inr (.inl ⟨h1, h3⟩))]
        exact Ev.now _
theorem jright_ev {a b c d : Int} {t : ByteArray} (hs : (t.size : Int) ≤ 1000000) : Ev (fun k => journal_Right.f k a b c d t) (rcode_ a b c d t) := by
  unfold journal_Right.f
  refine Ev.bind (numbers_ev a) ?_
  have hm := many_range a
  have key : ∀ (bad : Bool), (bad = true ↔ many_ a = 0 ∨ (many_ a < 2 ∧ ¬ c = 0) ∨ (many_ a < 3 ∧ ¬ d = 0)) → Ev (fun k => journal_Right.j0 k bad a b c d t) (rcode_ a b c d t) := by
    intro bad hb
    have := jright_j0 (bad := bad) (a := a) (b := b) (c := c) (d := d) hs
    unfold rcode_
    have e : (bad = true ∨ (¬ a = 1 ∧ ¬ t.toList = []) ∨ (t.size : Int) > 65536) ↔ (many_ a = 0 ∨ (many_ a < 2 ∧ ¬ c = 0) ∨ (many_ a < 3 ∧ ¬ d = 0) ∨ (¬ a = 1 ∧ ¬ t.toList = []) ∨ (t.size : Int) > 65536) := by
      rw [hb]
      constructor
      · rintro ((h | h | h) | h | h)
        · exact .inl h
        · exact .inr (.inl h)
        · exact .inr (.inr (.inl h))
        · exact .inr (.inr (.inr (.inl h)))
        · exact .inr (.inr (.inr (.inr h)))
      · rintro (h | h | h | h | h)
        · exact .inl (.inl h)
        · exact .inl (.inr (.inl h))
        · exact .inl (.inr (.inr h))
        · exact .inr (.inl h)
        · exact .inr (.inr h)
    by_cases hc : bad = true ∨ (¬ a = 1 ∧ ¬ t.toList = []) ∨ (t.size : Int) > 65536
    · rw [if_pos hc] at this; rw [if_pos (e.1 hc)]; exact this
    · rw [if_neg hc] at this; rw [if_neg (fun h => hc (e.2 h))]; exact this
  by_cases h0 : many_ a = 0
  · simp only [if_pos h0]
    exact key true (by simp [h0])
  simp only [if_neg h0]
  by_cases h2 : many_ a < 2
  · simp only [if_pos h2]
    by_cases hc : c = 0
    · simp only [if_pos hc, if_pos (show many_ a < 3 by omega)]
      exact key _ (by simp [h0, hc]; intro _; omega)
    · simp only [if_neg hc]
      exact key true (by simp [h2, hc])
  · simp only [if_neg h2]
    by_cases h3 : many_ a < 3
    · simp only [if_pos h3]
      exact key _ (by simp [h0, h2, h3])
    · simp only [if_neg h3]
      exact key false (by simp [h0, h2, h3])
def nums_ (l : List Int) : List Int := l.flatMap fun n => leb_ 10 (zig_ n)
def tail_ (a : Int) (t : ByteArray) : List Int := if a = 1 then leb_ 10 (t.size : Int) ++ bytesOf t else []
def i64_ (n : Int) : Prop := -9223372036854775808 ≤ n ∧ n ≤ 9223372036854775807
def rbytes_ (a b c d : Int) (t : ByteArray) : List Int := [a % 256] ++ nums_ ([b, c, d].take (many_ a).toNat) ++ tail_ a t
theorem put10 {u : Int} {l : List Int} (h0 : 0 ≤ u) (h1 : u < 18446744073709551616) (hl : l.length ≤ 1000000) : Ev (fun k => journal_putNumber.f k l u) (l ++ leb_ 10 u) := by
  unfold journal_putNumber.f
  exact putNumber_ev 10 u l h0 (by omega) (by omega) (by omega)
theorem append_l0 {a b c d : Int} {t : ByteArray} (hs : (t.size : Int) ≤ 1000000) {l : List Int} (hl : l.length ≤ 3) (hi : ∀ n ∈ l, i64_ n) :
    ∀ (r : List Int) (j : Nat) (x : List Int), j + r.length = l.length → l.drop j = r → x.length + 11 * r.length ≤ 990000 →
      Ev (fun k => journal_Append.l0 k x l (l.length : Int) j a b c d t) (x ++ (nums_ r ++ tail_ a t), 0)
  | [], j, x, hj, _, hx => by
    simp only [List.length_nil] at hj hx
    have hn : nums_ [] = [] := rfl
    rw [hn, List.nil_append]
    refine Ev.step (fun k => by simp only [journal_Append.l0]; rw [if_neg (by omega)]) ?_
    unfold tail_
    by_cases h1 : a = 1
    · simp only [if_pos h1]
      have hw : IntKind.u64.wrap (t.size : Int) = t.size := by rw [IntKind.wrap_u64]; omega
      simp only [hw]
      refine Ev.bind (put10 (by omega) (by omega) (by omega)) ?_
      have hll := leb_len 10 (t.size : Int)
      refine Ev.congr (fun k => by rw [if_pos (by rw [List.length_append]; omega), List.append_assoc]) (Ev.now _)
    · simp only [if_neg h1, List.append_nil]
      exact Ev.now _
  | n :: r, j, x, hj, hd, hx => by
    simp only [List.length_cons] at hj hx
    have hrd : rd l (j : Int) = n := by
      unfold rd
      rw [Int.toNat_natCast, List.getD_eq_getElem?_getD, ← List.head?_drop, hd]; rfl
    have hmem : n ∈ l := List.mem_of_mem_drop (i := j) (by rw [hd]; simp)
    have hn := hi n hmem
    have hz := zig_range hn.1 hn.2
    have hd2 : l.drop (j + 1) = r := by rw [← List.drop_drop, hd]; rfl
    have ew : wrap64 ((j : Int) + 1) = ((j + 1 : Nat) : Int) := by rw [w64 (by omega) (by omega)]; omega
    have hll := leb_len 10 (zig_ n)
    have ih := append_l0 (a := a) (b := b) (c := c) (d := d) hs hl hi r (j + 1) (x ++ leb_ 10 (zig_ n)) (by omega) hd2 (by rw [List.length_append]; omega)
    have e : nums_ (n :: r) = leb_ 10 (zig_ n) ++ nums_ r := rfl
    rw [e, List.append_assoc]
    rw [List.append_assoc] at ih
    refine Ev.step (fun k => by simp only [journal_Append.l0]; rw [if_pos (by omega), if_pos (by omega), if_pos (by omega), hrd, folded_f hn.1 hn.2, ew]) ?_
    simp only [Option.bind_some]
    exact Ev.bind (put10 hz.1 hz.2 (by omega)) ih
theorem append_ev {a b c d : Int} {t : ByteArray} {l : List Int} (hs : (t.size : Int) ≤ 500000) (hl : l.length ≤ 400000) (hb : i64_ b) (hc : i64_ c) (hd : i64_ d) :
    Ev (fun k => journal_Append.f k l a b c d t) (if rcode_ a b c d t = 0 then (l ++ rbytes_ a b c d t, 0) else (l, rcode_ a b c d t)) := by
  unfold journal_Append.f
  simp only [Option.bind_some, List.length_nil, List.nil_append]
  refine Ev.congr (fun k => by rw [if_pos (by omega)]) ?_
  refine Ev.bind (jright_ev (by omega)) ?_
  by_cases h : rcode_ a b c d t = 0
  · simp only [if_pos h]
    refine Ev.congr (fun k => by rw [if_pos (by omega)]) ?_
    refine Ev.bind (numbers_ev a) ?_
    have hm := many_range a
    refine Ev.congr (fun k => by rw [if_pos hm.1, if_pos (by simpa using hm.2)]) ?_
    have hlen : ([b, c, d].take (many_ a).toNat).length = (many_ a).toNat := by rw [List.length_take]; simp; omega
    have := append_l0 (a := a) (b := b) (c := c) (d := d) (t := t) (by omega) (l := [b, c, d].take (many_ a).toNat) (by omega) (fun n hn => by
      have := List.mem_of_mem_take hn
      simp at this
      rcases this with rfl | rfl | rfl
      · exact hb
      · exact hc
      · exact hd) ([b, c, d].take (many_ a).toNat) 0 (l ++ [a % 256]) (by omega) rfl (by rw [List.length_append, hlen]; simp; omega)
    unfold rbytes_
    rw [List.append_assoc] at this
    simp only [List.append_assoc]
    exact this
  · simp only [if_neg h]
    exact Ev.now _
theorem strOfNums_append (x y : List Int) : strOfNums (x ++ y) = strOfNums x ++ strOfNums y := by
  unfold strOfNums
  rw [List.map_append]
  apply ByteArray.ext
  simp
theorem strOfNums_size (x : List Int) : (strOfNums x).size = x.length := by
  unfold strOfNums
  simp [ByteArray.size]
theorem lit64 {n : Int} (h : (Lit.int .i64 n).wf = true) : i64_ n := by
  simp [Lit.wf, IntKind.min, IntKind.max, IntKind.signed, IntKind.bits] at h
  exact ⟨by omega, by omega⟩
def byt_ (l : List Int) : Prop := ∀ x ∈ l, 0 ≤ x ∧ x < 256
def vs_ : Nat → List Int → Option (List Int)
  | 0, _ => none
  | _ + 1, [] => none
  | m + 1, c :: t => if c < 128 then some [c] else (vs_ m t).map (c % 128 :: ·)
def uu_ : List Int → Int
  | [] => 0
  | c :: t => c + 128 * uu_ t
def nz_ : List Int → Bool
  | [] => false
  | [c] => c != 0
  | _ :: e :: t => nz_ (e :: t)
def canon_ : List Int → Bool
  | [_] => true
  | l => nz_ l
theorem dropJ {l t : List Int} {i : Nat} {n : Int} (h : l.drop i = n :: t) : i < l.length ∧ rd l (i : Int) = n ∧ l.drop (i + 1) = t := by
  have h1 : i < l.length := by
    rcases Nat.lt_or_ge i l.length with h1 | h1
    · exact h1
    · rw [List.drop_eq_nil_of_le h1] at h; cases h
  rw [List.drop_eq_getElem_cons h1] at h
  injection h with h2 h3
  refine ⟨h1, ?_, h3⟩
  unfold rd
  rw [Int.toNat_natCast, List.getD_eq_getElem?_getD, List.getElem?_eq_getElem h1, h2]; rfl
theorem dropK {α : Type} {l : List α} {i : Nat} (h : l.drop i = []) : l.length ≤ i := by
  have := congrArg List.length h
  rw [List.length_drop, List.length_nil] at this
  omega
theorem upJ {i : Nat} (h : i < 9223372036854775807) : wrap64 ((i : Int) + 1) = ((i + 1 : Nat) : Int) := by rw [w64 (by omega) (by omega)]; omega
theorem vs_spec : ∀ (m : Nat) (t d : List Int), byt_ t → vs_ m t = some d → 1 ≤ d.length ∧ d.length ≤ m ∧ d.length ≤ t.length ∧ dok_ d ∧ cont_ d = t.take d.length
  | 0, _, _, _, h => by cases h
  | _ + 1, [], _, _, h => by cases h
  | m + 1, c :: t, d, hb, h => by
    have hc := hb c List.mem_cons_self
    simp only [vs_] at h
    by_cases h128 : c < 128
    · rw [if_pos h128] at h
      injection h with h
      subst h
      refine ⟨by simp, by simp, by simp, ?_, by simp [cont_]⟩
      intro x hx
      rw [List.mem_singleton] at hx
      omega
    · rw [if_neg h128] at h
      cases hv : vs_ m t with
      | none => rw [hv] at h; cases h
      | some e =>
        rw [hv] at h
        simp only [Option.map_some] at h
        injection h with h
        subst h
        obtain ⟨a, b, f, g, i⟩ := vs_spec m t e (fun x hx => hb x (List.mem_cons_of_mem _ hx)) hv
        refine ⟨by simp, by simp; omega, by simp; omega, ?_, ?_⟩
        · intro x hx
          rcases List.mem_cons.1 hx with h | h
          · omega
          · exact g x h
        · match e, a with
          | y :: z, _ =>
            simp only [cont_, List.length_cons, List.take_succ_cons]
            rw [show c % 128 + 128 = c by omega, i]
            rfl
theorem uu_pos : ∀ {d : List Int}, dok_ d → 0 ≤ uu_ d
  | [], _ => by simp [uu_]
  | c :: t, h => by
    have h1 := h c List.mem_cons_self
    have h2 := uu_pos (d := t) (fun x hx => h x (List.mem_cons_of_mem _ hx))
    simp only [uu_]; omega
theorem uu_lt : ∀ {d : List Int}, dok_ d → uu_ d < 128 ^ d.length
  | [], _ => by simp [uu_]
  | c :: t, h => by
    have h1 := h c List.mem_cons_self
    have h2 := uu_lt (d := t) (fun x hx => h x (List.mem_cons_of_mem _ hx))
    simp only [uu_, List.length_cons, Int.pow_succ]; omega
theorem or_add {x y i : Nat} (h : x < 2 ^ i) : x ||| y * 2 ^ i = x + y * 2 ^ i := by
  rw [Nat.or_comm, Nat.mul_comm, ← Nat.two_pow_add_eq_or_of_lt h, Nat.add_comm]
theorem bits_or {u : Int} {c : Int} {i : Nat} (h0 : 0 ≤ u) (hu : u < 128 ^ i) (hc : 0 ≤ c) (hb : c * 128 ^ i + u < 18446744073709551616) : Go.bits .or .u64 u (c * 128 ^ i) = u + c * 128 ^ i := by
  obtain ⟨a, rfl⟩ := Int.eq_ofNat_of_zero_le h0
  obtain ⟨b, rfl⟩ := Int.eq_ofNat_of_zero_le hc
  have e : ((b : Int) * 128 ^ i) = ((b * 2 ^ (7 * i) : Nat) : Int) := by rw [Nat.pow_mul]; simp
  have e2 : (a : Nat) < 2 ^ (7 * i) := by rw [Nat.pow_mul]; exact_mod_cast hu
  rw [e] at hb ⊢
  show IntKind.u64.wrap ((BitVec.ofInt 64 (a : Int) ||| BitVec.ofInt 64 ((b * 2 ^ (7 * i) : Nat) : Int)).toNat : Int) = _
  rw [BitVec.ofInt_natCast, BitVec.ofInt_natCast, BitVec.toNat_or, BitVec.toNat_ofNat, BitVec.toNat_ofNat, Nat.mod_eq_of_lt (by omega), Nat.mod_eq_of_lt (by omega), or_add e2, IntKind.wrap_u64]
  omega
theorem and127 : ∀ b : Fin 256, Go.bits .and .u8 (b.val : Int) 127 = (b.val : Int) % 128 := by decide +kernel
theorem and127' {u : Int} (h0 : 0 ≤ u) (h1 : u < 256) : Go.bits .and .u8 u 127 = u % 128 := by
  have h := and127 ⟨u.toNat, by omega⟩
  simp only [Int.toNat_of_nonneg h0] at h
  exact h
theorem and1' {u : Int} (h0 : 0 ≤ u) (h1 : u < 18446744073709551616) : Go.bits .and .u64 u 1 = u % 2 := by
  obtain ⟨a, rfl⟩ := Int.eq_ofNat_of_zero_le h0
  show IntKind.u64.wrap ((BitVec.ofInt 64 (a : Int) &&& BitVec.ofInt 64 ((1 : Nat) : Int)).toNat : Int) = _
  rw [BitVec.ofInt_natCast, BitVec.ofInt_natCast, BitVec.toNat_and, BitVec.toNat_ofNat, BitVec.toNat_ofNat, Nat.mod_eq_of_lt (by omega), Nat.mod_eq_of_lt (by omega), Nat.and_one_is_mod, IntKind.wrap_u64]
  omega
def unz_ (u : Int) : Int := if u % 2 = 1 then -(u / 2) - 1 else u / 2
theorem zig_unz {u : Int} (h0 : 0 ≤ u) : zig_ (unz_ u) = u := by unfold zig_ unz_; split <;> split <;> omega
theorem unz_i64 {u : Int} (h0 : 0 ≤ u) (h1 : u < 18446744073709551616) : i64_ (unz_ u) := by unfold i64_ unz_; split <;> omega
theorem xor0i {x : Int} (h0 : 0 ≤ x) (h1 : x < 9223372036854775808) : Go.bits .xor .i64 x 0 = x := by
  obtain ⟨a, rfl⟩ := Int.eq_ofNat_of_zero_le h0
  show IntKind.i64.wrap ((BitVec.ofInt 64 (a : Int) ^^^ BitVec.ofInt 64 ((0 : Nat) : Int)).toNat : Int) = _
  rw [BitVec.ofInt_natCast, BitVec.ofInt_natCast, BitVec.toNat_xor, BitVec.toNat_ofNat, BitVec.toNat_ofNat, Nat.zero_mod, Nat.xor_zero, Nat.mod_eq_of_lt (by omega), IntKind.wrap_i64]
  omega
theorem xor1i {x : Int} (h0 : 0 ≤ x) (h1 : x < 9223372036854775808) : Go.bits .xor .i64 x (-1) = -1 - x := by
  obtain ⟨a, rfl⟩ := Int.eq_ofNat_of_zero_le h0
  show IntKind.i64.wrap ((BitVec.ofInt 64 (a : Int) ^^^ BitVec.ofInt 64 (-1)).toNat : Int) = _
  have e : BitVec.ofInt 64 (-1) = BitVec.allOnes 64 := by decide +kernel
  rw [e, BitVec.xor_allOnes, BitVec.toNat_not, BitVec.ofInt_natCast, BitVec.toNat_ofNat, Nat.mod_eq_of_lt (by omega), IntKind.wrap_i64]
  omega
theorem unfolded_f {u : Int} (h0 : 0 ≤ u) (h1 : u < 18446744073709551616) : journal_unfolded.f u = some (unz_ u) := by
  unfold journal_unfolded.f unz_
  rw [and1' h0 h1, w64 (x := u / 2) (by omega) (by omega), w64 (x := u % 2) (by omega) (by omega)]
  by_cases h : u % 2 = 1
  · rw [if_pos h, h, show wrap64 (-1) = -1 by decide +kernel, xor1i (by omega) (by omega)]
    congr 1; omega
  · rw [if_neg h, show u % 2 = 0 by omega, show wrap64 (-0) = 0 by decide +kernel, xor0i (by omega) (by omega)]
theorem pow9 {i : Nat} (h : i ≤ 9) : (1 : Int) ≤ 128 ^ i ∧ (128 : Int) ^ i ≤ 9223372036854775808 ∧ (i ≤ 8 → (128 : Int) ^ i ≤ 72057594037927936) := by
  have : ∀ j : Fin 10, (1 : Int) ≤ 128 ^ j.val ∧ (128 : Int) ^ j.val ≤ 9223372036854775808 ∧ (j.val ≤ 8 → (128 : Int) ^ j.val ≤ 72057594037927936) := by decide +kernel
  exact this ⟨i, by omega⟩
theorem or_step {u c : Int} {i : Nat} (hi : i ≤ 9) (h0 : 0 ≤ u) (hu : u < 128 ^ i) (c0 : 0 ≤ c) (c1 : c < 128) (h9 : i = 9 → c ≤ 1) :
    Go.bits .or .u64 u (shl .u64 (IntKind.u64.wrap c) (wrap64 (7 * (i : Int)))) = u + c * 128 ^ i ∧ 0 ≤ u + c * 128 ^ i ∧ u + c * 128 ^ i < 128 ^ (i + 1) ∧ u + c * 128 ^ i < 18446744073709551616 := by
  obtain ⟨p1, p2, p3⟩ := pow9 hi
  have e2 : (2 : Int) ^ (7 * i) = 128 ^ i := by rw [Int.pow_mul]; rfl
  have eb : c * 128 ^ i ≤ 127 * 128 ^ i := Int.mul_le_mul_of_nonneg_right (by omega) (by omega)
  have ec : 0 ≤ c * 128 ^ i := Int.mul_nonneg c0 (by omega)
  have ed : i = 9 → c * 128 ^ i ≤ 1 * 128 ^ i := fun h => Int.mul_le_mul_of_nonneg_right (h9 h) (by omega)
  have lt : u + c * 128 ^ i < 18446744073709551616 := by
    by_cases h : i = 9
    · have := ed h; omega
    · have := p3 (by omega); omega
  have es : shl .u64 (IntKind.u64.wrap c) (wrap64 (7 * (i : Int))) = c * 128 ^ i := by
    unfold shl
    rw [w64 (by omega) (by omega), show (7 * (i : Int)).toNat = 7 * i by omega, show IntKind.u64.bits = 64 from rfl, Nat.min_eq_left (by omega), show IntKind.u64.wrap c = c by rw [IntKind.wrap_u64]; omega, e2, IntKind.wrap_u64]
    omega
  rw [es]
  refine ⟨bits_or h0 hu c0 (by omega), by omega, ?_, lt⟩
  rw [Int.pow_succ]; omega
def la_ : List Int → Int
  | [] => 0
  | [c] => c
  | _ :: e :: t => la_ (e :: t)
theorem nz_la : ∀ d : List Int, nz_ d = (la_ d != 0)
  | [] => rfl
  | [_] => rfl
  | _ :: e :: t => nz_la (e :: t)
def badn_ (i : Nat) (d : List Int) : Prop := (i + d.length = 10 ∧ 1 < la_ d) ∨ (1 < i + d.length ∧ la_ d = 0)
theorem badn_cons {i : Nat} {c : Int} {d : List Int} (h : 1 ≤ d.length) : badn_ i (c :: d) ↔ badn_ (i + 1) d := by
  match d, h with
  | e :: t, _ =>
    unfold badn_
    rw [show la_ (c :: e :: t) = la_ (e :: t) from rfl, show i + (c :: e :: t).length = i + 1 + (e :: t).length by simp only [List.length_cons]; omega]
instance (i : Nat) (d : List Int) : Decidable (badn_ i d) := by unfold badn_; infer_instance
def nres_ (i : Nat) (u : Int) : Option (List Int) → Int × Int
  | none => (0, 0)
  | some d => if badn_ i d then (0, 0) else (u + uu_ d * 128 ^ i, ((i + d.length : Nat) : Int))
theorem number_l0 {l : List Int} (hb : byt_ l) (hl : l.length ≤ 1000000) : ∀ (m i : Nat) (t : List Int) (u : Int), i + m = 9 → l.drop i = t → 0 ≤ u → u < 128 ^ i →
    Ev (fun k => journal_number.l0 k u l (l.length : Int) i) (nres_ i u (vs_ (m + 1) t))
  | m, i, [], u, hi, h, h0, hu => by
    have := dropK h
    exact Ev.step (f := fun _ => some (0, 0)) (fun k => by rw [journal_number.l0, if_neg (by omega)]) (Ev.now _)
  | m, i, c :: t, u, hi, h, h0, hu => by
    obtain ⟨h1, h2, h3⟩ := dropJ h
    have hc := hb c (List.mem_of_mem_drop (i := i) (by rw [h]; simp))
    have e128 := and127' hc.1 hc.2
    have go : ∀ y : Bool, y = decide (i = 9 ∧ 1 < c) → Ev (fun k => journal_number.j1 k u i c l (l.length : Int) i y) (nres_ i u (vs_ (m + 1) (c :: t))) → Ev (fun k => journal_number.l0 k u l (l.length : Int) i) (nres_ i u (vs_ (m + 1) (c :: t))) := by
      intro y hy hE
      refine Ev.step (fun k => ?_) hE
      rw [journal_number.l0, if_pos (by omega), if_pos (by omega), if_pos (by omega), h2]
      by_cases h9 : i = 9
      · rw [if_pos (by omega), hy]
        congr 1
        simp [h9]
      · rw [if_neg (by omega), hy]
        congr 1
        simp [h9]
    by_cases hbad : i = 9 ∧ 1 < c
    · refine go true (decide_eq_true hbad).symm ?_
      have e : nres_ i u (vs_ (m + 1) (c :: t)) = (0, 0) := by
        have : m = 0 := by omega
        subst this
        simp only [vs_]
        by_cases h128 : c < 128
        · rw [if_pos h128]
          unfold nres_
          simp only
          rw [if_pos]
          left
          simp only [List.length_singleton, la_]
          omega
        · rw [if_neg h128]; rfl
      rw [e]
      exact Ev.step (fun k => by rw [journal_number.j1, if_pos rfl]) (Ev.now _)
    · refine go false (decide_eq_false hbad).symm ?_
      obtain ⟨o1, o2, o3, o4⟩ := or_step (u := u) (c := c % 128) (i := i) (by omega) h0 hu (by omega) (by omega) (fun h => by omega)
      by_cases h128 : c < 128
      · have e : vs_ (m + 1) (c :: t) = some [c] := by simp only [vs_]; rw [if_pos h128]
        rw [e]
        unfold nres_
        simp only
        rw [show c % 128 = c by omega] at o1 o2 o3 o4
        have hg : Ev (fun k => journal_number.j2 k (u + c * 128 ^ i) i (decide (0 < i ∧ c = 0))) (if badn_ i [c] then (0, 0) else (u + uu_ [c] * 128 ^ i, ((i + [c].length : Nat) : Int))) := by
          by_cases hz : 0 < i ∧ c = 0
          · rw [if_pos (.inr ⟨by simp; omega, by simpa [la_] using hz.2⟩), decide_eq_true hz]
            exact Ev.step (fun k => by rw [journal_number.j2, if_pos rfl]) (Ev.now _)
          · rw [if_neg, decide_eq_false hz]
            · refine Ev.step (f := fun _ => some (u + c * 128 ^ i, wrap64 ((i : Int) + 1))) (fun k => by rw [journal_number.j2, if_neg (by decide)]) ?_
              rw [upJ (by omega), show uu_ [c] = c by simp [uu_]]
              exact Ev.now _
            · unfold badn_
              simp only [List.length_singleton, la_]
              omega
        refine Ev.step (fun k => ?_) hg
        rw [journal_number.j1, if_neg (by decide), if_pos (by rw [w64 (by omega) (by omega)]; omega), if_pos h128, e128, show c % 128 = c by omega, o1]
        by_cases hz : 0 < i
        · rw [if_pos (by omega)]
          congr 1
          by_cases hc0 : c = 0
          · simp [hz, hc0]
          · simp [hc0]
        · rw [if_neg (by omega)]
          congr 1
          simp [hz]
      · have h9 : ¬ i = 9 := by omega
        match m, hi with
        | 0, hi => omega
        | m + 1, hi =>
          have ih := number_l0 hb hl m (i + 1) t (u + c % 128 * 128 ^ i) (by omega) h3 o2 o3
          have e : nres_ i u (vs_ (m + 1 + 1) (c :: t)) = nres_ (i + 1) (u + c % 128 * 128 ^ i) (vs_ (m + 1) t) := by
            simp only [vs_]
            rw [if_neg h128]
            cases hv : vs_ (m + 1) t with
            | none => rfl
            | some d =>
              have hd := (vs_spec (m + 1) t d (fun x hx => hb x (by rw [← h3] at hx; exact List.mem_of_mem_drop hx)) hv).1
              simp only [Option.map_some]
              unfold nres_
              simp only
              by_cases hB : badn_ (i + 1) d
              · rw [if_pos hB, if_pos ((badn_cons hd).2 hB)]
              · rw [if_neg hB, if_neg (fun h => hB ((badn_cons hd).1 h))]
                simp only [uu_, List.length_cons]
                rw [show i + (d.length + 1) = i + 1 + d.length by omega, Int.add_mul, Int.pow_succ, Int.mul_comm 128 (uu_ d), Int.mul_assoc, Int.mul_comm 128 (128 ^ i), Int.add_assoc]
          rw [e]
          refine Ev.step (fun k => ?_) ih
          rw [journal_number.j1, if_neg (by decide), if_pos (by rw [w64 (by omega) (by omega)]; omega), if_neg h128, e128, o1, if_neg (by omega), upJ (by omega)]
theorem number_v {l : List Int} (hb : byt_ l) (hl : l.length ≤ 1000000) : Ev (fun k => journal_number.f k l) (nres_ 0 0 (vs_ 10 l)) := by
  unfold journal_number.f
  exact number_l0 hb hl 9 0 l 0 rfl rfl (by omega) (by simp)
theorem uu_la : ∀ {d : List Int}, dok_ d → 1 ≤ d.length → la_ d * 128 ^ (d.length - 1) ≤ uu_ d ∧ uu_ d < (la_ d + 1) * 128 ^ (d.length - 1)
  | [], _, h => by simp at h
  | [c], hd, _ => by simp [la_, uu_]; omega
  | c :: e :: t, hd, _ => by
    have h1 := hd c List.mem_cons_self
    obtain ⟨p, q⟩ := uu_la (d := e :: t) (fun x hx => hd x (List.mem_cons_of_mem _ hx)) (by simp)
    have e1 : la_ (c :: e :: t) = la_ (e :: t) := rfl
    have e2 : uu_ (c :: e :: t) = c + 128 * uu_ (e :: t) := rfl
    have e3 : (c :: e :: t).length - 1 = (e :: t).length - 1 + 1 := by simp
    rw [e1, e2, e3, Int.pow_succ, ← Int.mul_assoc, ← Int.mul_assoc]
    omega
theorem loop_of (l : List UInt8) : ∀ (n i : Nat) (r : List UInt8), l.length - i = n → ByteArray.toList.loop ⟨l.toArray⟩ i r = r.reverse ++ l.drop i := by
  have hsz : (⟨l.toArray⟩ : ByteArray).size = l.length := by simp [ByteArray.size]
  intro n
  induction n with
  | zero =>
    intro i r h
    rw [ByteArray.toList.loop, if_neg (by rw [hsz]; omega), List.drop_eq_nil_of_le (by omega), List.append_nil]
  | succ n ih =>
    intro i r h
    have hi : i < l.length := by omega
    have hg : (⟨l.toArray⟩ : ByteArray).get! i = l[i] := by
      show l.toArray[i]! = l[i]
      simp [hi]
    rw [ByteArray.toList.loop, if_pos (by rw [hsz]; omega), ih (i + 1) _ (by omega), hg, List.drop_eq_getElem_cons hi, List.reverse_cons, List.append_assoc, List.singleton_append]
theorem toList_of (s : ByteArray) : s.toList = s.data.toList := by
  have := loop_of s.data.toList _ 0 [] rfl
  simpa [ByteArray.toList] using this
theorem bytes_str {l : List Int} (h : byt_ l) : bytesOf (strOfNums l) = l := by
  unfold bytesOf strOfNums
  rw [List.map_map]
  refine (List.map_congr_left (g := id) fun x hx => ?_).trans (List.map_id l)
  have := h x hx
  simp only [Function.comp, UInt8.toNat_ofNat', id]
  omega
def up_ (i j : Nat) (v x : Int) : Int := if i = j then v else x
theorem up_i64 {i j : Nat} {v x : Int} (h : i64_ v) (g : i64_ x) : i64_ (up_ i j v x) := by unfold up_; split <;> assumption
abbrev none_ : ByteArray := ⟨#[]⟩
theorem addN {a b : Nat} (h : a + b ≤ 1000000) : wrap64 ((a : Int) + (b : Int)) = ((a + b : Nat) : Int) := by rw [w64 (by omega) (by omega)]; omega
theorem ifsome {c : Prop} [Decidable c] {α : Type} (a b : α) : Ev (fun _ => if c then some a else some b) (if c then a else b) := by
  by_cases h : c
  · simp only [if_pos h]; exact Ev.now _
  · simp only [if_neg h]; exact Ev.now _
theorem nres_none : nres_ 0 0 none = (0, 0) := rfl
theorem nres_bad {d : List Int} (h : badn_ 0 d) : nres_ 0 0 (some d) = (0, 0) := if_pos h
theorem nres_good {d : List Int} (h : ¬ badn_ 0 d) : nres_ 0 0 (some d) = (uu_ d, (d.length : Int)) := by
  have e : nres_ 0 0 (some d) = (0 + uu_ d * 128 ^ 0, ((0 + d.length : Nat) : Int)) := if_neg h
  rw [e, Int.pow_zero, Int.mul_one, Int.zero_add, Nat.zero_add]
abbrev R6 := Int × Int × Int × Int × ByteArray × Int
def zero6 : R6 := (0, 0, 0, 0, none_, 0)
theorem prog_stop {l : List Int} {a : Int} {i p : Nat} {x y z : Int} (hb : byt_ l) (hl : l.length ≤ 100000) (hi : (i : Int) < many_ a) (hp : p ≤ l.length) (h : nres_ 0 0 (vs_ 10 (l.drop p)) = (0, 0)) :
    Ev (fun k => journal_one.l0 k l p (many_ a) i a x y z none_) zero6 := by
  have hbd : byt_ (l.drop p) := fun x hx => hb x (List.mem_of_mem_drop hx)
  have hv := number_v hbd (by rw [List.length_drop]; omega)
  rw [h] at hv
  refine Ev.step (fun k => by rw [journal_one.l0, if_pos hi, if_pos (Int.natCast_nonneg p), if_pos (Int.ofNat_le.2 hp), Int.toNat_natCast]) (Ev.bind hv ?_)
  exact Ev.congr (fun k => by rw [if_pos rfl]; rfl) (Ev.now zero6)
theorem prog_step {l : List Int} {a : Int} {i p : Nat} {x y z : Int} {d : List Int} {r : R6} (hb : byt_ l) (hl : l.length ≤ 100000) (hi : (i : Int) < many_ a) (hp : p ≤ l.length) (hd : vs_ 10 (l.drop p) = some d) (h : ¬ badn_ 0 d) (hu : uu_ d < 18446744073709551616)
    (hE : Ev (fun k => journal_one.l0 k l ((p + d.length : Nat) : Int) (many_ a) ((i + 1 : Nat) : Int) a (up_ i 0 (unz_ (uu_ d)) x) (up_ i 1 (unz_ (uu_ d)) y) (up_ i 2 (unz_ (uu_ d)) z) none_) r) :
    Ev (fun k => journal_one.l0 k l p (many_ a) i a x y z none_) r := by
  have hm := many_range a
  have hbd : byt_ (l.drop p) := fun x hx => hb x (List.mem_of_mem_drop hx)
  have hv := number_v hbd (by rw [List.length_drop]; omega)
  rw [hd, nres_good h] at hv
  obtain ⟨d1, d2, d3, d4, d5⟩ := vs_spec 10 (l.drop p) d hbd hd
  have h0 := uu_pos d4
  have i3 : i < 3 := by omega
  have ei := upJ (i := i) (by omega)
  refine Ev.step (fun k => by rw [journal_one.l0, if_pos hi, if_pos (Int.natCast_nonneg p), if_pos (Int.ofNat_le.2 hp), Int.toNat_natCast]) (Ev.bind hv ?_)
  have ew : wrap64 ((p : Int) + (d.length : Int)) = ((p + d.length : Nat) : Int) := addN (by omega)
  refine Ev.congr (fun k => ?_) hE
  rw [if_neg (show ¬ (d.length : Int) = 0 by omega), ew, ei, unfolded_f h0 hu]
  generalize unz_ (uu_ d) = v
  match i, i3 with
  | 0, _ => rfl
  | 1, _ => rfl
  | 2, _ => rfl
theorem jj1_stop {l : List Int} {p : Nat} {u n : Int} {a x y z : Int} {t : ByteArray} : Ev (fun k => journal_one.j1 k l p u n true a x y z t) zero6 :=
  Ev.step (fun k => by rw [journal_one.j1, if_pos rfl]; rfl) (Ev.now _)
theorem prog_notext {l : List Int} {i p : Nat} {x y z : Int} (hb : byt_ l) (hl : l.length ≤ 100000) (hi : ¬ (i : Int) < many_ 1) (hp : p ≤ l.length)
    (h : nres_ 0 0 (vs_ 10 (l.drop p)) = (0, 0) ∨ ∃ d, vs_ 10 (l.drop p) = some d ∧ (l.length : Int) - p - d.length < uu_ d) :
    Ev (fun k => journal_one.l0 k l p (many_ 1) i 1 x y z none_) zero6 := by
  have hbd : byt_ (l.drop p) := fun x hx => hb x (List.mem_of_mem_drop hx)
  have hv := number_v hbd (by rw [List.length_drop]; omega)
  refine Ev.step (fun k => by rw [journal_one.l0, if_neg hi, if_pos rfl, if_pos (Int.natCast_nonneg p), if_pos (Int.ofNat_le.2 hp), Int.toNat_natCast]) (Ev.bind hv ?_)
  by_cases h0 : nres_ 0 0 (vs_ 10 (l.drop p)) = (0, 0)
  · rw [h0]
    exact Ev.congr (fun k => by rw [if_pos rfl]) jj1_stop
  · rcases h with h | ⟨d, hd, hq⟩
    · exact absurd h h0
    · rw [hd] at h0 ⊢
      by_cases hbad : badn_ 0 d
      · exact absurd (nres_bad hbad) h0
      rw [nres_good hbad]
      obtain ⟨d1, d2, d3, d4, d5⟩ := vs_spec 10 (l.drop p) d hbd hd
      rw [List.length_drop] at d3
      by_cases hu : uu_ d > 65536
      · exact Ev.congr (fun k => by rw [if_neg (show ¬ (d.length : Int) = 0 by omega), if_pos hu]) jj1_stop
      · have h1 := uu_pos d4
        refine Ev.congr (fun k => by rw [if_neg (show ¬ (d.length : Int) = 0 by omega), if_neg hu]) ?_
        have e : decide ((wrap64 (uu_ d)) > (wrap64 ((wrap64 ((l.length : Int) - p)) - (d.length : Int)))) = true := by
          rw [w64 (x := (l.length : Int) - p) (by omega) (by omega), w64 (x := (l.length : Int) - p - d.length) (by omega) (by omega), w64 (x := uu_ d) (by omega) (by omega)]
          exact decide_eq_true hq
        rw [e]
        exact jj1_stop
theorem prog_text {l : List Int} {i p n : Nat} {x y z : Int} {d : List Int} (hb : byt_ l) (hl : l.length ≤ 100000) (hi : ¬ (i : Int) < many_ 1) (hp : p ≤ l.length)
    (hd : vs_ 10 (l.drop p) = some d) (hbad : ¬ badn_ 0 d) (hn : uu_ d = n) (hle : p + d.length + n ≤ l.length) (hn6 : n ≤ 65536) {t : ByteArray} (ht : t = strOfNums ((l.take (p + d.length + n)).drop (p + d.length))) (hs : (t.size : Int) ≤ 1000000) :
    Ev (fun k => journal_one.l0 k l p (many_ 1) i 1 x y z none_) (if rcode_ 1 x y z t = 0 then (1, x, y, z, t, ((p + d.length + n : Nat) : Int)) else zero6) := by
  have hbd : byt_ (l.drop p) := fun x hx => hb x (List.mem_of_mem_drop hx)
  have hv := number_v hbd (by rw [List.length_drop]; omega)
  rw [hd, nres_good hbad, hn] at hv
  obtain ⟨d1, d2, d3, d4, d5⟩ := vs_spec 10 (l.drop p) d hbd hd
  rw [List.length_drop] at d3
  refine Ev.step (fun k => by rw [journal_one.l0, if_neg hi, if_pos rfl, if_pos (Int.natCast_nonneg p), if_pos (Int.ofNat_le.2 hp), Int.toNat_natCast]) (Ev.bind hv ?_)
  refine Ev.congr (fun k => by rw [if_neg (show ¬ (d.length : Int) = 0 by omega), if_neg (show ¬ (n : Int) > 65536 by omega)]) ?_
  have h00 : wrap64 (n : Int) = (n : Int) := w64 (by omega) (by omega)
  have e : decide ((wrap64 (n : Int)) > (wrap64 ((wrap64 ((l.length : Int) - p)) - (d.length : Int)))) = false := by
    rw [w64 (x := (l.length : Int) - p) (by omega) (by omega), w64 (x := (l.length : Int) - p - d.length) (by omega) (by omega), h00]
    clear h00
    exact decide_eq_false (by omega)
  have hN : p + d.length + n ≤ 1000000 := Nat.le_trans hle (Nat.le_trans hl (by decide))
  have e1 := addN (a := p) (b := d.length) (Nat.le_trans (Nat.le_add_right _ n) hN)
  have e2 := addN (a := p + d.length) (b := n) hN
  have e0 : wrap64 (n : Int) = (n : Int) := h00
  simp only [e]
  refine Ev.step (fun k => by rw [journal_one.j1, if_neg (by decide), e0, e1, e2, if_pos (Int.natCast_nonneg (p + d.length)), if_pos (Int.ofNat_le.2 (Nat.le_add_right (p + d.length) n)), if_pos (Int.ofNat_le.2 hle), Int.toNat_natCast, Int.toNat_natCast, ← ht]) ?_
  refine Ev.bind (jright_ev hs) ?_
  exact ifsome _ zero6
theorem at24 {l t : List S24} {i : Nat} {n : S24} (h : l.drop i = n :: t) : i < l.length ∧ rd_T24 l (i : Int) = n ∧ l.drop (i + 1) = t := by
  have h1 : i < l.length := by
    rcases Nat.lt_or_ge i l.length with h1 | h1
    · exact h1
    · rw [List.drop_eq_nil_of_le h1] at h; cases h
  rw [List.drop_eq_getElem_cons h1] at h
  injection h with h2 h3
  refine ⟨h1, ?_, h3⟩
  unfold rd_T24
  rw [Int.toNat_natCast, List.getD_eq_getElem?_getD, List.getElem?_eq_getElem h1, h2]; rfl
end Go.Proofs.Ytkgpnegebpkhlaa.PJournalBack
