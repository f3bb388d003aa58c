import Derived.Test.YtkgpnegebpkhlaaJBackOneJournalBack
/-! Our own text: records one behind the other, whole or cut. -/
namespace Go.Proofs.Ytkgpnegebpkhlaa.PJournalBack
set_option linter.unusedVariables false
open Go.RowKit Go.Proofs.YtkgpnegebpkhlaaW.PrintWords

structure Fit (r : S24) : Prop where
  k : i64_ r.f0
  x : i64_ r.f1
  y : i64_ r.f2
  z : i64_ r.f3
  n : r.f4.size ≤ 300
def rc_ (r : S24) : Int := rcode_ r.f0 r.f1 r.f2 r.f3 r.f4
def rb_ (r : S24) : List Int := rbytes_ r.f0 r.f1 r.f2 r.f3 r.f4
def bs_ (l : List S24) : List Int := l.flatMap rb_
def okl_ (l : List S24) : List S24 := l.filter fun r => rc_ r == 0
structure GoodR (r : S24) : Prop extends Fit r where
  c : rc_ r = 0
theorem bs_cons (r : S24) (l : List S24) : bs_ (r :: l) = rb_ r ++ bs_ l := rfl
theorem bs_append (l m : List S24) : bs_ (l ++ m) = bs_ l ++ bs_ m := by unfold bs_; rw [List.flatMap_append]
theorem nums_len : ∀ l : List Int, (nums_ l).length ≤ 11 * l.length
  | [] => by simp [nums_]
  | n :: l => by
    have e : nums_ (n :: l) = leb_ 10 (zig_ n) ++ nums_ l := rfl
    have h1 := leb_len 10 (zig_ n)
    have h2 := nums_len l
    rw [e, List.length_append, List.length_cons]
    generalize (leb_ 10 (zig_ n)).length = q at h1 ⊢
    generalize (nums_ l).length = q2 at h2 ⊢
    omega
theorem rb_len {r : S24} (h : Fit r) : (rb_ r).length ≤ 400 := by
  have h1 := nums_len ([r.f1, r.f2, r.f3].take (many_ r.f0).toNat)
  have h2 : ([r.f1, r.f2, r.f3].take (many_ r.f0).toNat).length ≤ 3 := by rw [List.length_take]; exact Nat.min_le_right _ _
  have h3 : (tail_ r.f0 r.f4).length ≤ 311 := by
    unfold tail_
    split
    · have h4 := leb_len 10 (r.f4.size : Int)
      have h5 := h.n
      rw [List.length_append, bytesOf_length]
      generalize (leb_ 10 (r.f4.size : Int)).length = q at h4 ⊢
      omega
    · simp
  unfold rb_ rbytes_
  rw [List.length_append, List.length_append, List.length_singleton]
  generalize (nums_ ([r.f1, r.f2, r.f3].take (many_ r.f0).toNat)).length = q at h1 ⊢
  generalize (tail_ r.f0 r.f4).length = q2 at h3 ⊢
  omega
theorem rb_pos (r : S24) : 1 ≤ (rb_ r).length := by
  unfold rb_ rbytes_
  rw [List.length_append, List.length_append, List.length_singleton]
  omega
theorem byt_append {l m : List Int} (h : byt_ l) (g : byt_ m) : byt_ (l ++ m) := fun x hx => (List.mem_append.1 hx).elim (h x) (g x)
theorem byt_take {l : List Int} {n : Nat} (h : byt_ l) : byt_ (l.take n) := fun x hx => h x (List.mem_of_mem_take hx)
theorem byt_drop {l : List Int} {n : Nat} (h : byt_ l) : byt_ (l.drop n) := fun x hx => h x (List.mem_of_mem_drop hx)
theorem byt_nums : ∀ l : List Int, (∀ n ∈ l, i64_ n) → byt_ (nums_ l)
  | [], _ => fun x hx => by simp [nums_] at hx
  | n :: l, h => by
    have e : nums_ (n :: l) = leb_ 10 (zig_ n) ++ nums_ l := rfl
    have hn := h n List.mem_cons_self
    have hz := zig_range hn.1 hn.2
    rw [e]
    exact byt_append (byt_leb 10 _ hz.1 (by omega)) (byt_nums l (fun m hm => h m (List.mem_cons_of_mem _ hm)))
theorem byt_rb {r : S24} (h : Fit r) : byt_ (rb_ r) := by
  unfold rb_ rbytes_
  refine byt_append (byt_append ?_ (byt_nums _ ?_)) ?_
  · intro x hx
    rw [List.mem_singleton] at hx
    omega
  · intro n hn
    have := List.mem_of_mem_take hn
    simp at this
    rcases this with rfl | rfl | rfl
    · exact h.x
    · exact h.y
    · exact h.z
  · unfold tail_
    have := h.n
    split
    · exact byt_append (byt_leb 10 _ (by omega) (by omega)) (byt_bytes _)
    · intro x hx; cases hx
theorem byt_bs : ∀ {l : List S24}, (∀ r ∈ l, Fit r) → byt_ (bs_ l)
  | [], _ => fun x hx => by cases hx
  | r :: l, h => by
    rw [bs_cons]
    exact byt_append (byt_rb (h r List.mem_cons_self)) (byt_bs (fun s hs => h s (List.mem_cons_of_mem _ hs)))
theorem bs_len : ∀ {l : List S24}, (∀ r ∈ l, Fit r) → (bs_ l).length ≤ 400 * l.length
  | [], _ => by simp [bs_]
  | r :: l, h => by
    have h1 := rb_len (h r List.mem_cons_self)
    have h2 := bs_len (l := l) (fun s hs => h s (List.mem_cons_of_mem _ hs))
    rw [bs_cons, List.length_append, List.length_cons]
    omega
/-- How many records are whole in so many bytes. -/
def wh_ : List S24 → Nat → Nat
  | [], _ => 0
  | r :: l, q => if (rb_ r).length ≤ q then wh_ l (q - (rb_ r).length) + 1 else 0
def en_ (l : List S24) (i : Nat) : Nat := (bs_ (l.take i)).length
theorem en_cons (r : S24) (l : List S24) (i : Nat) : en_ (r :: l) (i + 1) = (rb_ r).length + en_ l i := by
  unfold en_; rw [List.take_succ_cons, bs_cons, List.length_append]
theorem en_zero (l : List S24) : en_ l 0 = 0 := rfl
theorem wh_spec : ∀ (l : List S24) (q : Nat), wh_ l q ≤ l.length ∧ en_ l (wh_ l q) ≤ q ∧ (wh_ l q < l.length → q < en_ l (wh_ l q + 1))
  | [], q => by simp [wh_, en_, bs_]
  | r :: l, q => by
    obtain ⟨a, b, c⟩ := wh_spec l (q - (rb_ r).length)
    by_cases h : (rb_ r).length ≤ q
    · have e : wh_ (r :: l) q = wh_ l (q - (rb_ r).length) + 1 := if_pos h
      rw [e]
      refine ⟨by simpa using a, by rw [en_cons]; omega, fun g => ?_⟩
      have := c (by simpa using g)
      rw [en_cons]; omega
    · have e : wh_ (r :: l) q = 0 := if_neg h
      rw [e]
      refine ⟨Nat.zero_le _, by rw [en_zero]; omega, fun _ => ?_⟩
      rw [en_cons, en_zero]; omega
theorem en_mono {l : List S24} : ∀ {i j : Nat}, i ≤ j → en_ l i ≤ en_ l j := by
  intro i j h
  have e : l.take i = (l.take j).take i := by rw [List.take_take, Nat.min_eq_left h]
  unfold en_
  rw [e]
  have : (bs_ (l.take j)).length = (bs_ ((l.take j).take i)).length + (bs_ ((l.take j).drop i)).length := by
    rw [← List.length_append, ← bs_append, List.take_append_drop]
  omega
theorem en_all (l : List S24) : en_ l l.length = (bs_ l).length := by unfold en_; rw [List.take_length]

theorem parse_l0 {l : List Int} (hb : byt_ l) (hl : l.length ≤ 100000) : ∀ (ks : List S24) (q p : Nat) (acc : List S24), (∀ r ∈ ks, GoodR r) → p ≤ l.length → acc.length ≤ p → l.drop p = (bs_ ks).take q →
    Ev (fun k => journal_Parse.l0 k l acc p) (acc ++ ks.take (wh_ ks q), ((p + en_ ks (wh_ ks q) : Nat) : Int), if p + en_ ks (wh_ ks q) = l.length then 0 else 230)
  | [], q, p, acc, hg, hp, ha, h => by
    have e1 : l.length = p := by
      have := congrArg List.length h
      rw [List.length_drop] at this
      simp [bs_] at this
      omega
    have e2 : wh_ [] q = 0 := rfl
    rw [e2, en_zero, List.take_zero, List.append_nil, if_pos (by omega)]
    exact Ev.step (fun k => by rw [journal_Parse.l0, if_neg (by omega)]; rfl) (Ev.now _)
  | r :: ks, q, p, acc, hg, hp, ha, h => by
    have hr := hg r List.mem_cons_self
    have hbd : byt_ (l.drop p) := byt_drop hb
    have hld : (l.drop p).length ≤ 100000 := by rw [List.length_drop]; omega
    have hacc : acc.length < 2932031007402 := Nat.lt_of_le_of_lt ha (Nat.lt_of_le_of_lt hp (Nat.lt_of_le_of_lt hl (by decide)))
    have hlen := congrArg List.length h
    rw [List.length_drop, List.length_take, bs_cons, List.length_append] at hlen
    have hpos := rb_pos r
    by_cases hc : (rb_ r).length ≤ q
    · have e : wh_ (r :: ks) q = wh_ ks (q - (rb_ r).length) + 1 := if_pos hc
      rw [bs_cons, List.take_append, List.take_of_length_le hc] at h
      rw [h] at hbd hld
      have hy := one_yes hbd hld hr.x hr.y hr.z hr.c
      have hd : l.drop (p + (rb_ r).length) = (bs_ ks).take (q - (rb_ r).length) := by
        rw [← List.drop_drop, h, List.drop_left]
      have hlt : p < l.length := by omega
      have ih := parse_l0 hb hl ks (q - (rb_ r).length) (p + (rb_ r).length) (acc ++ [r]) (fun s hs => hg s (List.mem_cons_of_mem _ hs)) (by omega) (by rw [List.length_append, List.length_singleton]; omega) hd
      rw [e, en_cons, List.take_succ_cons, ← Nat.add_assoc]
      rw [List.append_assoc, List.singleton_append] at ih
      refine Ev.step (fun k => by rw [journal_Parse.l0, if_pos (Int.ofNat_lt.2 hlt), if_pos (Int.natCast_nonneg p), if_pos (Int.ofNat_le.2 hp), Int.toNat_natCast, h]; rfl) (Ev.bind hy ?_)
      have ew := addN (a := p) (b := (rb_ r).length) (by omega)
      have hz : ¬ ((rbytes_ r.f0 r.f1 r.f2 r.f3 r.f4).length : Int) = 0 := fun g => by
        have hpos : 1 ≤ (rbytes_ r.f0 r.f1 r.f2 r.f3 r.f4).length := hpos
        have := Int.ofNat_eq_zero.1 g
        omega
      refine Ev.congr (fun k => ?_) ih
      simp only
      rw [if_neg hz, if_pos hacc]
      have ew2 : wrap64 ((p : Int) + ((rbytes_ r.f0 r.f1 r.f2 r.f3 r.f4).length : Int)) = ((p + (rb_ r).length : Nat) : Int) := ew
      rw [ew2]
    · have e : wh_ (r :: ks) q = 0 := if_neg hc
      have hc' : q < (rb_ r).length := Nat.lt_of_not_le hc
      rw [e, en_zero, List.take_zero, List.append_nil, Nat.add_zero]
      rw [bs_cons, List.take_append_of_le_length (Nat.le_of_lt hc')] at h
      by_cases hq : q = 0
      · have : l.length = p := by omega
        rw [if_pos this.symm]
        exact Ev.step (fun k => by rw [journal_Parse.l0, if_neg (by omega)]) (Ev.now _)
      · have hlt : p < l.length := by omega
        rw [if_neg (by omega)]
        rw [h] at hbd hld
        have hn := one_no hbd hld hc' hr.x hr.y hr.z hr.c
        refine Ev.step (fun k => by rw [journal_Parse.l0, if_pos (Int.ofNat_lt.2 hlt), if_pos (Int.natCast_nonneg p), if_pos (Int.ofNat_le.2 hp), Int.toNat_natCast, h]; rfl) (Ev.bind hn ?_)
        exact Ev.congr (fun k => by simp only [zero6]; rw [if_pos trivial]) (Ev.now _)
theorem parse_cut {ks : List S24} {q : Nat} (hg : ∀ r ∈ ks, GoodR r) (hl : ((bs_ ks).take q).length ≤ 100000) :
    Ev (fun k => journal_Parse.f k ((bs_ ks).take q)) (ks.take (wh_ ks q), (en_ ks (wh_ ks q) : Int), if en_ ks (wh_ ks q) = ((bs_ ks).take q).length then 0 else 230) := by
  have := parse_l0 (byt_take (byt_bs (fun r hr => (hg r hr).toFit))) hl ks q 0 [] hg (Nat.zero_le _) (Nat.zero_le _) rfl
  rw [List.nil_append, Nat.zero_add] at this
  exact this
theorem wh_all {ks : List S24} : ∀ {q : Nat}, (bs_ ks).length ≤ q → wh_ ks q = ks.length := by
  intro q h
  obtain ⟨a, b, c⟩ := wh_spec ks q
  rcases Nat.lt_or_ge (wh_ ks q) ks.length with g | g
  · have := c g
    have h2 := en_mono (l := ks) (i := wh_ ks q + 1) (j := ks.length) g
    rw [en_all] at h2
    omega
  · omega

/-! ### the loops -/
theorem bytes_l0 {l : List S24} (hl : l.length ≤ 40) (hf : ∀ r ∈ l, Fit r) : ∀ (t : List S24) (i : Nat) (b : List Int), l.drop i = t → b.length ≤ 400 * i → Ev (fun k => journal_Bytes.l0 k b l (l.length : Int) i) (b ++ bs_ (okl_ t))
  | [], i, b, h, hb => by
    have := dropK h
    have e : b ++ bs_ (okl_ []) = b := by simp [okl_, bs_]
    rw [e]
    exact Ev.step (fun k => by rw [journal_Bytes.l0, if_neg (by omega)]) (Ev.now _)
  | r :: t, i, b, h, hb => by
    obtain ⟨h1, h2, h3⟩ := at24 h
    have hr := hf r (List.mem_of_mem_drop (i := i) (by rw [h]; simp))
    have ha := append_ev (a := r.f0) (b := r.f1) (c := r.f2) (d := r.f3) (t := r.f4) (l := b) (by have := hr.n; omega) (by omega) hr.x hr.y hr.z
    have hlen := rb_len hr
    have go : ∀ b2, b2.length ≤ 400 * (i + 1) → b ++ bs_ (okl_ (r :: t)) = b2 ++ bs_ (okl_ t) → (∀ e, (if rcode_ r.f0 r.f1 r.f2 r.f3 r.f4 = 0 then (b ++ rbytes_ r.f0 r.f1 r.f2 r.f3 r.f4, (0 : Int)) else (b, rcode_ r.f0 r.f1 r.f2 r.f3 r.f4)) = e → e.1 = b2) → Ev (fun k => journal_Bytes.l0 k b l (l.length : Int) i) (b ++ bs_ (okl_ (r :: t))) := by
      intro b2 hb2 e he
      have ih := bytes_l0 hl hf t (i + 1) b2 h3 hb2
      rw [e]
      refine Ev.step (fun k => by rw [journal_Bytes.l0, if_pos (Int.ofNat_lt.2 h1), if_pos (Int.natCast_nonneg i), if_pos (Int.ofNat_lt.2 h1), h2]) (Ev.bind ha ?_)
      rw [he _ rfl, upJ (by omega)]
      exact ih
    by_cases hc : rc_ r = 0
    · have e : okl_ (r :: t) = r :: okl_ t := by simp [okl_, hc]
      refine go (b ++ rb_ r) (by rw [List.length_append]; omega) (by rw [e, bs_cons, List.append_assoc]) (fun e he => ?_)
      have hc2 : rcode_ r.f0 r.f1 r.f2 r.f3 r.f4 = 0 := hc
      rw [if_pos hc2] at he
      rw [← he]; rfl
    · have e : okl_ (r :: t) = okl_ t := by simp [okl_, hc]
      refine go b (by omega) (by rw [e]) (fun e he => ?_)
      have hc2 : ¬ rcode_ r.f0 r.f1 r.f2 r.f3 r.f4 = 0 := hc
      rw [if_neg hc2] at he
      rw [← he]
theorem bytes_ev {l : List S24} (hl : l.length ≤ 40) (hf : ∀ r ∈ l, Fit r) : Ev (fun k => journal_Bytes.f k l) (bs_ (okl_ l)) :=
  bytes_l0 hl hf l 0 [] rfl (by simp)
def cv_ (x : S24) : S30 := ⟨x.f0, x.f1, x.f2, x.f3, x.f4⟩
theorem refs_l0 {l : List S24} (hl : l.length ≤ 2000) : ∀ (t : List S24) (i : Nat) (a : List S30), l.drop i = t → a.length = i →
    Ev (fun k => regletlaw23_refs.l0 k l a i) (a ++ t.map cv_)
  | [], i, a, h, ha => by
    have := dropK h
    refine Ev.step (f := fun _ => some a) (fun k => by rw [regletlaw23_refs.l0, if_neg (by omega)]) ?_
    rw [List.map_nil, List.append_nil]
    exact Ev.now _
  | x :: t, i, a, h, ha => by
    obtain ⟨h1, h2, h3⟩ := at24 h
    have ih := refs_l0 hl t (i + 1) (a ++ [cv_ x]) h3 (by rw [List.length_append, ha]; rfl)
    rw [List.append_assoc] at ih
    refine Ev.step (fun k => ?_) ih
    rw [regletlaw23_refs.l0, if_pos (Int.ofNat_lt.2 h1), if_pos (Int.natCast_nonneg i), h2, regletlaw23_ref.f, Option.bind_some, if_pos (by omega), upJ (by omega)]
    rfl
theorem refs_ev {l : List S24} (hl : l.length ≤ 2000) : Ev (fun k => regletlaw23_refs.f k l) (l.map cv_) :=
  refs_l0 hl l 0 [] rfl rfl
theorem same_l0 {l : List S30} (hl : l.length ≤ 2000) : ∀ (m i : Nat), i + m = l.length → Ev (fun k => regletref23_Same.l0 k l l i) true
  | 0, i, h => Ev.step (fun k => by rw [regletref23_Same.l0, if_neg (by omega)]) (Ev.now _)
  | m + 1, i, h => by
    have ih := same_l0 hl m (i + 1) (by omega)
    refine Ev.step (fun k => ?_) ih
    rw [regletref23_Same.l0, if_pos (by omega), if_pos (by omega), if_pos (by omega), upJ (by omega)]
    simp
theorem same_ev {l : List S30} (hl : l.length ≤ 2000) : Ev (fun k => regletref23_Same.f k l l) true := by
  unfold regletref23_Same.f
  exact Ev.congr (fun k => by rw [if_pos rfl]; rfl) (same_l0 hl l.length 0 (by omega))
theorem few_l0 {l : List S24} : ∀ (t : List S24) (i : Nat), l.length ≤ 40 → l.drop i = t → ∃ r, Ev (fun k => regletlaw23_few.l0 k l i) r ∧ (r = true → ∀ y ∈ t, y.f4.size ≤ 300)
  | [], i, hl, h => by
    have := dropK h
    exact ⟨true, Ev.step (fun k => by rw [regletlaw23_few.l0, if_neg (by omega)]) (Ev.now _), fun _ y hy => by cases hy⟩
  | y :: t, i, hl, h => by
    obtain ⟨h1, h2, h3⟩ := at24 h
    obtain ⟨r, p, q⟩ := few_l0 t (i + 1) hl h3
    by_cases c : (y.f4.size : Int) > 300
    · exact ⟨false, Ev.step (fun k => by rw [regletlaw23_few.l0, if_pos (by omega), if_pos (by omega), h2, if_pos c]) (Ev.now _), fun h => by cases h⟩
    · refine ⟨r, Ev.step (fun k => by rw [regletlaw23_few.l0, if_pos (by omega), if_pos (by omega), h2, if_neg c, upJ (by omega)]) p, fun hr z hz => ?_⟩
      rcases List.mem_cons.1 hz with e | e
      · rw [e]; omega
      · exact q hr z e
theorem few_ev (l : List S24) : ∃ r, Ev (fun k => regletlaw23_few.f k l) r ∧ (r = true → l.length ≤ 40 ∧ ∀ y ∈ l, y.f4.size ≤ 300) := by
  unfold regletlaw23_few.f
  by_cases c : (l.length : Int) > 40
  · exact ⟨false, Ev.congr (fun k => by rw [if_pos c]) (Ev.now _), fun h => by cases h⟩
  · obtain ⟨r, p, q⟩ := few_l0 l 0 (by omega) rfl
    exact ⟨r, Ev.congr (fun k => by rw [if_neg c]; rfl) p, fun h => ⟨by omega, q h⟩⟩
end Go.Proofs.Ytkgpnegebpkhlaa.PJournalBack
