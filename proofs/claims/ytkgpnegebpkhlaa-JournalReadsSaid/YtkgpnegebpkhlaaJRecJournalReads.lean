import Derived.Test.YtkgpnegebpkhlaaJCodeJournalReads
import Derived.Test.YtkgpnegebpkhlaaCheckJournalReads
/-! Our own text: a record: may it be, and its bytes. -/
namespace Go.Proofs.Ytkgpnegebpkhlaa.PJournalReads
set_option linter.unusedVariables false
open Go.RowKit Go.Proofs.YtkgpnegebpkhlaaW.PrintWords

def many_ (k : Int) : Int := if k = 2 then 2 else if k = 3 then 3 else if k = 1 ∨ k = 4 ∨ k = 5 then 1 else 0
theorem many_range (k : Int) : 0 ≤ many_ k ∧ many_ k ≤ 3 := by unfold many_; (repeat' split) <;> omega
theorem numbers_ev (a : Int) : Ev (fun k => journal_numbers.f k a) (many_ a) := by
  unfold journal_numbers.f
  by_cases h1 : a = 1
  · subst h1
    rw [show many_ 1 = 1 by decide]
    exact Ev.congr (fun k => by rw [if_pos rfl]) (Ev.step (fun k => by simp only [journal_numbers.j0]; rw [if_pos (by decide)]) (Ev.now _))
  by_cases h4 : a = 4
  · subst h4
    rw [show many_ 4 = 1 by decide]
    exact Ev.congr (fun k => by rw [if_neg (by decide), if_pos rfl]) (Ev.step (fun k => by simp only [journal_numbers.j0]; rw [if_pos (by decide)]) (Ev.now _))
  by_cases h5 : a = 5
  · subst h5
    rw [show many_ 5 = 1 by decide]
    exact Ev.congr (fun k => by rw [if_neg (by decide), if_neg (by decide)]) (Ev.step (fun k => by simp only [journal_numbers.j0]; rw [if_pos (by decide)]) (Ev.now _))
  have e5 : (a == 5) = false := beq_eq_false_iff_ne.mpr h5
  refine Ev.congr (f := fun k => journal_numbers.j0 k a false) (fun k => by rw [if_neg h1, if_neg h4, e5]) ?_
  by_cases h2 : a = 2
  · subst h2
    rw [show many_ 2 = 2 by decide]
    exact Ev.step (fun k => by simp only [journal_numbers.j0]; rw [if_neg (by decide), if_pos trivial]) (Ev.now _)
  by_cases h3 : a = 3
  · subst h3
    rw [show many_ 3 = 3 by decide]
    exact Ev.step (fun k => by simp only [journal_numbers.j0]; rw [if_neg (by decide), if_neg (by decide), if_pos trivial]) (Ev.now _)
  rw [show many_ a = 0 by unfold many_; rw [if_neg h2, if_neg h3, if_neg (by omega)]]
  exact Ev.step (fun k => by simp only [journal_numbers.j0]; rw [if_neg (by decide), if_neg h2, if_neg h3]) (Ev.now _)
theorem many_f (a : Int) : regletref23_Many.f a = some (many_ a) := by
  unfold regletref23_Many.f many_
  by_cases h2 : a = 2
  · rw [if_pos h2, if_pos h2]
  rw [if_neg h2, if_neg h2]
  by_cases h3 : a = 3
  · rw [if_pos h3, if_pos h3]
  rw [if_neg h3, if_neg h3]
  by_cases h1 : a = 1
  · rw [if_pos h1, if_pos (.inl h1)]
  rw [if_neg h1]
  by_cases h4 : a = 4
  · rw [if_pos h4, if_pos (.inr (.inl h4))]
  rw [if_neg h4]
  by_cases h5 : a = 5
  · rw [if_pos h5, if_pos (.inr (.inr h5))]
  rw [if_neg h5, if_neg (by omega)]

/-- The error's number of a record. -/
def rcode_ (a b c d : Int) (t : ByteArray) : Int :=
  if many_ a = 0 ∨ (many_ a < 2 ∧ ¬ c = 0) ∨ (many_ a < 3 ∧ ¬ d = 0) ∨ (¬ a = 1 ∧ ¬ t.toList = []) ∨ (t.size : Int) > 65536 then 230 else if right_ t = true then 0 else 20
theorem jright_j0 {bad : Bool} {a b c d : Int} {t : ByteArray} (hs : (t.size : Int) ≤ 1000000) :
    Ev (fun k => journal_Right.j0 k bad a b c d t) (if bad = true ∨ (¬ a = 1 ∧ ¬ t.toList = []) ∨ (t.size : Int) > 65536 then 230 else if right_ t = true then 0 else 20) := by
  cases bad with
  | true =>
    rw [if_pos (.inl rfl)]
    exact Ev.step (fun k => by simp only [journal_Right.j0]; rw [if_pos trivial]) (Ev.now _)
  | false =>
    refine Ev.step (fun k => by simp only [journal_Right.j0]; rw [if_neg (by decide)]) ?_
    by_cases h1 : a = 1
    · simp only [if_pos h1]
      by_cases h2 : (t.size : Int) > 65536
      · simp only [if_pos h2]
        rw [if_pos (.inr (.inr h2))]
        exact Ev.now _
      · simp only [if_neg h2]
        rw [if_neg (by rintro (h | h | h) <;> first | exact h2 h | exact h.1 h1 | cases h), check_f hs]
        exact Ev.now _
    · simp only [if_neg h1]
      by_cases h3 : t.toList = []
      · simp only [if_pos h3]
        by_cases h2 : (t.size : Int) > 65536
        · simp only [if_pos h2]
          rw [if_pos (.inr (.inr h2))]
          exact Ev.now _
        · simp only [if_neg h2]
          rw [if_neg (by rintro (h | h | h) <;> first | exact h2 h | exact h.2 h3 | cases h), check_f hs]
          exact Ev.now _
      · simp only [if_neg h3]
        rw [if_pos (.inr (.inl ⟨h1, h3⟩))]
        exact Ev.now _
theorem jright_ev {a b c d : Int} {t : ByteArray} (hs : (t.size : Int) ≤ 1000000) : Ev (fun k => journal_Right.f k a b c d t) (rcode_ a b c d t) := by
  unfold journal_Right.f
  refine Ev.bind (numbers_ev a) ?_
  have hm := many_range a
  have key : ∀ (bad : Bool), (bad = true ↔ many_ a = 0 ∨ (many_ a < 2 ∧ ¬ c = 0) ∨ (many_ a < 3 ∧ ¬ d = 0)) → Ev (fun k => journal_Right.j0 k bad a b c d t) (rcode_ a b c d t) := by
    intro bad hb
    have := jright_j0 (bad := bad) (a := a) (b := b) (c := c) (d := d) hs
    unfold rcode_
    have e : (bad = true ∨ (¬ a = 1 ∧ ¬ t.toList = []) ∨ (t.size : Int) > 65536) ↔ (many_ a = 0 ∨ (many_ a < 2 ∧ ¬ c = 0) ∨ (many_ a < 3 ∧ ¬ d = 0) ∨ (¬ a = 1 ∧ ¬ t.toList = []) ∨ (t.size : Int) > 65536) := by
      rw [hb]
      constructor
      · rintro ((h | h | h) | h | h)
        · exact .inl h
        · exact .inr (.inl h)
        · exact .inr (.inr (.inl h))
        · exact .inr (.inr (.inr (.inl h)))
        · exact .inr (.inr (.inr (.inr h)))
      · rintro (h | h | h | h | h)
        · exact .inl (.inl h)
        · exact .inl (.inr (.inl h))
        · exact .inl (.inr (.inr h))
        · exact .inr (.inl h)
        · exact .inr (.inr h)
    by_cases hc : bad = true ∨ (¬ a = 1 ∧ ¬ t.toList = []) ∨ (t.size : Int) > 65536
    · rw [if_pos hc] at this; rw [if_pos (e.1 hc)]; exact this
    · rw [if_neg hc] at this; rw [if_neg (fun h => hc (e.2 h))]; exact this
  by_cases h0 : many_ a = 0
  · simp only [if_pos h0]
    exact key true (by simp [h0])
  simp only [if_neg h0]
  by_cases h2 : many_ a < 2
  · simp only [if_pos h2]
    by_cases hc : c = 0
    · simp only [if_pos hc, if_pos (show many_ a < 3 by omega)]
      exact key _ (by simp [h0, hc]; intro _; omega)
    · simp only [if_neg hc]
      exact key true (by simp [h2, hc])
  · simp only [if_neg h2]
    by_cases h3 : many_ a < 3
    · simp only [if_pos h3]
      exact key _ (by simp [h0, h2, h3])
    · simp only [if_neg h3]
      exact key false (by simp [h0, h2, h3])
theorem rright_j0 {bad : Bool} {a b c d : Int} {t : ByteArray} (hs : (t.size : Int) ≤ 1000000) :
    Ev (fun k => regletref23_Right.j0 k bad a b c d t) (if bad = true then 230 else if right_ t = true then 0 else 20) := by
  cases bad with
  | true =>
    rw [if_pos rfl]
    exact Ev.step (fun k => by simp only [regletref23_Right.j0]; rw [if_pos trivial]) (Ev.now _)
  | false =>
    rw [if_neg (by decide)]
    refine Ev.step (fun k => by simp only [regletref23_Right.j0]; rw [if_neg (by decide)]) ?_
    refine Ev.bind (right_ev hs) ?_
    cases right_ t with
    | true => simp only [if_true]; exact Ev.now _
    | false => simp only [Bool.false_eq_true, if_false]; exact Ev.now _
theorem rright_ev {a b c d : Int} {t : ByteArray} (hs : (t.size : Int) ≤ 1000000) : Ev (fun k => regletref23_Right.f k a b c d t) (rcode_ a b c d t) := by
  unfold regletref23_Right.f
  rw [many_f]
  simp only [Option.bind_some]
  have hm := many_range a
  have key : ∀ (bad : Bool), (bad = true ↔ many_ a = 0 ∨ (many_ a < 2 ∧ ¬ c = 0) ∨ (many_ a < 3 ∧ ¬ d = 0) ∨ (¬ a = 1 ∧ ¬ t.toList = []) ∨ (t.size : Int) > 65536) → Ev (fun k => regletref23_Right.j0 k bad a b c d t) (rcode_ a b c d t) := by
    intro bad hb
    have := rright_j0 (bad := bad) (a := a) (b := b) (c := c) (d := d) hs
    unfold rcode_
    by_cases hc : bad = true
    · rw [if_pos hc] at this; rw [if_pos (hb.1 hc)]; exact this
    · rw [if_neg hc] at this; rw [if_neg (fun h => hc (hb.2 h))]; exact this
  have fin : ¬ many_ a = 0 → ¬ (many_ a < 2 ∧ ¬ c = 0) → ¬ (many_ a < 3 ∧ ¬ d = 0) →
      Ev (fun k => if a = 1 then (regletref23_Right.j0 k (decide ((t.size : Int) > 65536)) a b c d t) else (if t.toList = ([] : List UInt8) then (regletref23_Right.j0 k (decide ((t.size : Int) > 65536)) a b c d t) else (regletref23_Right.j0 k true a b c d t))) (rcode_ a b c d t) := by
    intro n0 n1 n2
    by_cases h1 : a = 1
    · simp only [if_pos h1]
      exact key _ (by simp only [decide_eq_true_eq]; constructor
                      · exact fun h => .inr (.inr (.inr (.inr h)))
                      · rintro (h | h | h | h | h)
                        · exact absurd h n0
                        · exact absurd h n1
                        · exact absurd h n2
                        · exact absurd h1 h.1
                        · exact h)
    · simp only [if_neg h1]
      by_cases h3 : t.toList = []
      · simp only [if_pos h3]
        exact key _ (by simp only [decide_eq_true_eq]; constructor
                        · exact fun h => .inr (.inr (.inr (.inr h)))
                        · rintro (h | h | h | h | h)
                          · exact absurd h n0
                          · exact absurd h n1
                          · exact absurd h n2
                          · exact absurd h3 h.2
                          · exact h)
      · simp only [if_neg h3]
        exact key true ⟨fun _ => .inr (.inr (.inr (.inl ⟨h1, h3⟩))), fun _ => rfl⟩
  by_cases h0 : many_ a = 0
  · simp only [if_pos h0]
    exact key true ⟨fun _ => .inl h0, fun _ => rfl⟩
  simp only [if_neg h0]
  by_cases h1 : many_ a = 1
  · simp only [if_pos h1]
    by_cases hc : c = 0
    · simp only [if_pos hc, if_pos (show many_ a < 3 by omega)]
      by_cases hd : d = 0
      · simp only [if_pos hd]
        exact fin h0 (fun h => h.2 hc) (fun h => h.2 hd)
      · simp only [if_neg hd]
        exact key true ⟨fun _ => .inr (.inr (.inl ⟨by omega, hd⟩)), fun _ => rfl⟩
    · simp only [if_neg hc]
      exact key true ⟨fun _ => .inr (.inl ⟨by omega, hc⟩), fun _ => rfl⟩
  · simp only [if_neg h1]
    by_cases h3 : many_ a < 3
    · simp only [if_pos h3]
      by_cases hd : d = 0
      · simp only [if_pos hd]
        exact fin h0 (fun h => by omega) (fun h => h.2 hd)
      · simp only [if_neg hd]
        exact key true ⟨fun _ => .inr (.inr (.inl ⟨h3, hd⟩)), fun _ => rfl⟩
    · simp only [if_neg h3]
      exact fin h0 (fun h => by omega) (fun h => by omega)

/-! ### the bytes -/
def nums_ (l : List Int) : List Int := l.flatMap fun n => leb_ 10 (zig_ n)
def tail_ (a : Int) (t : ByteArray) : List Int := if a = 1 then leb_ 10 (t.size : Int) ++ bytesOf t else []
def rbytes_ (a b c d : Int) (t : ByteArray) : List Int := [a % 256] ++ nums_ ([b, c, d].take (many_ a).toNat) ++ tail_ a t
def i64_ (n : Int) : Prop := -9223372036854775808 ≤ n ∧ n ≤ 9223372036854775807
theorem put10 {u : Int} {l : List Int} (h0 : 0 ≤ u) (h1 : u < 18446744073709551616) (hl : l.length ≤ 1000000) : Ev (fun k => journal_putNumber.f k l u) (l ++ leb_ 10 u) := by
  unfold journal_putNumber.f
  exact putNumber_ev 10 u l h0 (by omega) (by omega) (by omega)
theorem append_l0 {a b c d : Int} {t : ByteArray} (hs : (t.size : Int) ≤ 1000000) {l : List Int} (hl : l.length ≤ 3) (hi : ∀ n ∈ l, i64_ n) :
    ∀ (r : List Int) (j : Nat) (x : List Int), j + r.length = l.length → l.drop j = r → x.length + 11 * r.length ≤ 990000 →
      Ev (fun k => journal_Append.l0 k x l (l.length : Int) j a b c d t) (x ++ (nums_ r ++ tail_ a t), 0)
  | [], j, x, hj, _, hx => by
    simp only [List.length_nil] at hj hx
    have hn : nums_ [] = [] := rfl
    rw [hn, List.nil_append]
    refine Ev.step (fun k => by simp only [journal_Append.l0]; rw [if_neg (by omega)]) ?_
    unfold tail_
    by_cases h1 : a = 1
    · simp only [if_pos h1]
      have hw : IntKind.u64.wrap (t.size : Int) = t.size := by rw [IntKind.wrap_u64]; omega
      simp only [hw]
      refine Ev.bind (put10 (by omega) (by omega) (by omega)) ?_
      have hll := leb_len 10 (t.size : Int)
      refine Ev.congr (fun k => by rw [if_pos (by rw [List.length_append]; omega), List.append_assoc]) (Ev.now _)
    · simp only [if_neg h1, List.append_nil]
      exact Ev.now _
  | n :: r, j, x, hj, hd, hx => by
    simp only [List.length_cons] at hj hx
    have hrd : rd l (j : Int) = n := by
      unfold rd
      rw [Int.toNat_natCast, List.getD_eq_getElem?_getD, ← List.head?_drop, hd]; rfl
    have hmem : n ∈ l := List.mem_of_mem_drop (i := j) (by rw [hd]; simp)
    have hn := hi n hmem
    have hz := zig_range hn.1 hn.2
    have hd2 : l.drop (j + 1) = r := by rw [← List.drop_drop, hd]; rfl
    have ew : wrap64 ((j : Int) + 1) = ((j + 1 : Nat) : Int) := by rw [w64 (by omega) (by omega)]; omega
    have hll := leb_len 10 (zig_ n)
    have ih := append_l0 (a := a) (b := b) (c := c) (d := d) hs hl hi r (j + 1) (x ++ leb_ 10 (zig_ n)) (by omega) hd2 (by rw [List.length_append]; omega)
    have e : nums_ (n :: r) = leb_ 10 (zig_ n) ++ nums_ r := rfl
    rw [e, List.append_assoc]
    rw [List.append_assoc] at ih
    refine Ev.step (fun k => by simp only [journal_Append.l0]; rw [if_pos (by omega), if_pos (by omega), if_pos (by omega), hrd, folded_f hn.1 hn.2, ew]) ?_
    simp only [Option.bind_some]
    exact Ev.bind (put10 hz.1 hz.2 (by omega)) ih
theorem append_ev {a b c d : Int} {t : ByteArray} {l : List Int} (hs : (t.size : Int) ≤ 500000) (hl : l.length ≤ 400000) (hb : i64_ b) (hc : i64_ c) (hd : i64_ d) :
    Ev (fun k => journal_Append.f k l a b c d t) (if rcode_ a b c d t = 0 then (l ++ rbytes_ a b c d t, 0) else (l, rcode_ a b c d t)) := by
  unfold journal_Append.f
  simp only [Option.bind_some, List.length_nil, List.nil_append]
  refine Ev.congr (fun k => by rw [if_pos (by omega)]) ?_
  refine Ev.bind (jright_ev (by omega)) ?_
  by_cases h : rcode_ a b c d t = 0
  · simp only [if_pos h]
    refine Ev.congr (fun k => by rw [if_pos (by omega)]) ?_
    refine Ev.bind (numbers_ev a) ?_
    have hm := many_range a
    refine Ev.congr (fun k => by rw [if_pos hm.1, if_pos (by simpa using hm.2)]) ?_
    have hlen : ([b, c, d].take (many_ a).toNat).length = (many_ a).toNat := by rw [List.length_take]; simp; omega
    have := append_l0 (a := a) (b := b) (c := c) (d := d) (t := t) (by omega) (l := [b, c, d].take (many_ a).toNat) (by omega) (fun n hn => by
      have := List.mem_of_mem_take hn
      simp at this
      rcases this with rfl | rfl | rfl
      · exact hb
      · exact hc
      · exact hd) ([b, c, d].take (many_ a).toNat) 0 (l ++ [a % 256]) (by omega) rfl (by rw [List.length_append, hlen]; simp; omega)
    unfold rbytes_
    rw [List.append_assoc] at this
    simp only [List.append_assoc]
    exact this
  · simp only [if_neg h]
    exact Ev.now _
theorem len_step {a z m : Nat} (h : a + 11 * (m + 1) ≤ 990000) (hz : z ≤ 11) : a + z + 11 * m ≤ 990000 := by omega
theorem len_less {a m : Nat} (h : a + 11 * (m + 1) ≤ 990000) : a ≤ 1000000 := by omega

theorem rbytes_l0 {a b c d : Int} {t : ByteArray} (hs : (t.size : Int) ≤ 1000000) {l : List Int} (hl : l.length = 3) (hi : ∀ n ∈ l, i64_ n) :
    ∀ (m j : Nat) (x : List Int), j + m = (many_ a).toNat → x.length + 11 * m ≤ 990000 →
      Ev (fun k => regletref23_Bytes.l0 k x l j a b c d t) (x ++ (nums_ ((l.take (many_ a).toNat).drop j) ++ tail_ a t)) := by
  intro m
  induction m with
  | zero =>
    intro j x hj hx
    have hm := many_range a
    have hn : (l.take (many_ a).toNat).drop j = [] := List.drop_eq_nil_of_le (by rw [List.length_take]; omega)
    rw [hn, show nums_ [] = [] from rfl, List.nil_append]
    refine Ev.step (fun k => by simp only [regletref23_Bytes.l0]; rw [many_f]) ?_
    simp only [Option.bind_some, if_neg (show ¬ ((j : Int) < many_ a) by omega)]
    unfold tail_
    by_cases h1 : a = 1
    · simp only [if_pos h1]
      refine Ev.bind (plain_ev (by omega) (by omega)) ?_
      refine Ev.bind (put_plain (by omega) (by omega) (by omega)) ?_
      have hll := leb_len 10 (t.size : Int)
      refine Ev.congr (fun k => by rw [if_pos (by rw [List.length_append]; omega), List.append_assoc]) (Ev.now _)
    · simp only [if_neg h1, List.append_nil]
      exact Ev.now _
  | succ m ih0 =>
    intro j x hj hx
    have hm := many_range a
    obtain ⟨q, hq0⟩ : ∃ q : Nat, q = (many_ a).toNat := ⟨_, rfl⟩
    have hq3 : q ≤ 3 := by omega
    have hqa : (q : Int) = many_ a := by omega
    rw [← hq0] at hj ih0 ⊢
    have hjl : j < l.length := by omega
    obtain ⟨n, hn0⟩ : ∃ n : Int, n = l[j] := ⟨_, rfl⟩
    have hn : i64_ n := hi n (by rw [hn0]; exact List.getElem_mem _)
    have hrd : rd l (j : Int) = n := by
      unfold rd
      rw [Int.toNat_natCast, List.getD_eq_getElem?_getD, List.getElem?_eq_getElem hjl, hn0]; rfl
    have e1 : (l.take q).drop j = n :: (l.take q).drop (j + 1) := by
      rw [List.drop_eq_getElem_cons (by rw [List.length_take]; omega), List.getElem_take, hn0]
    have jm : (j : Int) < many_ a := by omega
    have jn : (j : Int) < (l.length : Int) := by omega
    clear hn0 hq0 hi hl hm hqa
    have hz := zig_range hn.1 hn.2
    have ew : wrap64 ((j : Int) + 1) = ((j + 1 : Nat) : Int) := by rw [w64 (by omega) (by omega)]; omega
    have hxx : (x ++ leb_ 10 (zig_ n)).length + 11 * m ≤ 990000 := by rw [List.length_append]; exact len_step hx (leb_len 10 (zig_ n))
    have hx0 : x.length ≤ 1000000 := len_less hx
    have ih := ih0 (j + 1) (x ++ leb_ 10 (zig_ n)) (by rw [← hj]; ac_rfl) hxx
    have e : nums_ (n :: (l.take q).drop (j + 1)) = leb_ 10 (zig_ n) ++ nums_ ((l.take q).drop (j + 1)) := rfl
    rw [e1, e, List.append_assoc]
    rw [List.append_assoc] at ih
    refine Ev.step (fun k => by simp only [regletref23_Bytes.l0]; rw [many_f]) ?_
    simp only [Option.bind_some, if_pos jm, if_pos (Int.natCast_nonneg j), if_pos jn, hrd, ew]
    refine Ev.bind (fold_ev hn.1 hn.2) ?_
    refine Ev.bind (put_zig hn.1 hn.2 hx0) ?_
    exact ih
theorem rbytes_ev {a b c d : Int} {t : ByteArray} (hs : (t.size : Int) ≤ 1000000) (hb : i64_ b) (hc : i64_ c) (hd : i64_ d) : Ev (fun k => regletref23_Bytes.f k a b c d t) (rbytes_ a b c d t) := by
  have hm := many_range a
  have := rbytes_l0 (a := a) (b := b) (c := c) (d := d) hs (l := [b, c, d]) rfl (fun n hn => by
      simp at hn
      rcases hn with rfl | rfl | rfl
      · exact hb
      · exact hc
      · exact hd) (many_ a).toNat 0 [a % 256] (by omega) (by simp; omega)
  unfold regletref23_Bytes.f rbytes_
  rw [List.append_assoc]
  exact this
/-! ### strings of numbers -/
theorem strOfNums_append (x y : List Int) : strOfNums (x ++ y) = strOfNums x ++ strOfNums y := by
  unfold strOfNums
  rw [List.map_append]
  apply ByteArray.ext
  simp
theorem strOfNums_size (x : List Int) : (strOfNums x).size = x.length := by
  unfold strOfNums
  simp [ByteArray.size]
theorem lit64 {n : Int} (h : (Lit.int .i64 n).wf = true) : i64_ n := by
  simp [Lit.wf, IntKind.min, IntKind.max, IntKind.signed, IntKind.bits] at h
  exact ⟨by omega, by omega⟩
end Go.Proofs.Ytkgpnegebpkhlaa.PJournalReads
