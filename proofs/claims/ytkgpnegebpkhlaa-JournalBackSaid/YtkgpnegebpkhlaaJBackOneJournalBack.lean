import Derived.Test.YtkgpnegebpkhlaaJBackJournalBack
/-! Our own text: a record that was written is read again; cut within it there is none. -/
namespace Go.Proofs.Ytkgpnegebpkhlaa.PJournalBack
set_option linter.unusedVariables false
open Go.RowKit Go.Proofs.YtkgpnegebpkhlaaW.PrintWords

/-! ### a number's digits -/
def dgf : Nat → Int → List Int
  | 0, u => [u]
  | f + 1, u => if u ≥ 128 then u % 128 :: dgf f (u / 128) else [u]
theorem leb_more : ∀ (f : Nat) (u : Int), 0 ≤ u → u < 128 ^ (f + 1) → leb_ (f + 1) u = leb_ f u
  | 0, u, h0, h1 => by
    simp only [leb_]
    rw [if_neg (by omega)]
  | f + 1, u, h0, h1 => by
    have e : leb_ (f + 1 + 1) u = if u ≥ 128 then (u % 128 + 128) :: leb_ (f + 1) (u / 128) else [u] := rfl
    have e2 : leb_ (f + 1) u = if u ≥ 128 then (u % 128 + 128) :: leb_ f (u / 128) else [u] := rfl
    rw [e, e2]
    by_cases h : u ≥ 128
    · rw [if_pos h, if_pos h]
      have hd : u / 128 < 128 ^ (f + 1) := by
        rw [Int.pow_succ] at h1
        omega
      have := leb_more f (u / 128) (by omega) hd
      rw [this]
    · rw [if_neg h, if_neg h]
theorem vs_leb : ∀ (f : Nat) (u : Int) (s : List Int), 0 ≤ u → u < 128 ^ (f + 1) → vs_ (f + 1) (leb_ f u ++ s) = some (dgf f u)
  | 0, u, s, h0, h1 => by
    simp only [leb_, dgf, List.singleton_append, vs_]
    rw [if_pos (by omega)]
  | f + 1, u, s, h0, h1 => by
    simp only [leb_, dgf]
    by_cases h : u ≥ 128
    · rw [if_pos h, if_pos h, List.cons_append]
      have hd : u / 128 < 128 ^ (f + 1) := by
        rw [Int.pow_succ] at h1
        omega
      have ih := vs_leb f (u / 128) s (by omega) hd
      rw [vs_, if_neg (by omega), ih, Option.map_some, show (u % 128 + 128) % 128 = u % 128 by omega]
    · rw [if_neg h, if_neg h, List.singleton_append, vs_, if_pos (by omega)]
theorem uu_dgf : ∀ (f : Nat) (u : Int), uu_ (dgf f u) = u
  | 0, u => by simp [dgf, uu_]
  | f + 1, u => by
    simp only [dgf]
    split
    · simp only [uu_]
      rw [uu_dgf f (u / 128)]
      omega
    · simp [uu_]
theorem dgf_len : ∀ (f : Nat) (u : Int), (dgf f u).length = (leb_ f u).length
  | 0, u => rfl
  | f + 1, u => by
    simp only [dgf, leb_]
    split
    · simp only [List.length_cons]
      rw [dgf_len f (u / 128)]
    · rfl
theorem dgf_pos : ∀ (f : Nat) (u : Int), 1 ≤ (dgf f u).length
  | 0, u => by simp [dgf]
  | f + 1, u => by
    simp only [dgf]
    split <;> simp
theorem dgf_la : ∀ (f : Nat) (u : Int), 0 ≤ u → la_ (dgf f u) = 0 → u = 0
  | 0, u, h0, h => by simpa [dgf, la_] using h
  | f + 1, u, h0, h => by
    simp only [dgf] at h
    by_cases h1 : u ≥ 128
    · rw [if_pos h1] at h
      have e : la_ (u % 128 :: dgf f (u / 128)) = la_ (dgf f (u / 128)) := by
        have := dgf_pos f (u / 128)
        match hd : dgf f (u / 128), this with
        | e :: t, _ => rfl
      rw [e] at h
      have := dgf_la f (u / 128) (by omega) h
      omega
    · rw [if_neg h1] at h
      simpa [la_] using h
theorem dgf_dok : ∀ (f : Nat) (u : Int), 0 ≤ u → u < 128 ^ (f + 1) → dok_ (dgf f u)
  | 0, u, h0, h1 => fun d hd => by
    simp only [dgf, List.mem_singleton] at hd
    omega
  | f + 1, u, h0, h1 => fun d hd => by
    simp only [dgf] at hd
    by_cases h : u ≥ 128
    · rw [if_pos h] at hd
      have hdd : u / 128 < 128 ^ (f + 1) := by
        rw [Int.pow_succ] at h1
        omega
      rcases List.mem_cons.1 hd with hd | hd
      · omega
      · exact dgf_dok f (u / 128) (by omega) hdd d hd
    · rw [if_neg h, List.mem_singleton] at hd
      omega
theorem dg_good {u : Int} (h0 : 0 ≤ u) (h1 : u < 18446744073709551616) : ¬ badn_ 0 (dgf 9 u) := by
  intro h
  have hd := dgf_dok 9 u h0 (by omega)
  have hp := dgf_pos 9 u
  rcases h with ⟨h, h2⟩ | ⟨h, h2⟩
  · have := (uu_la hd hp).1
    rw [uu_dgf, show (dgf 9 u).length - 1 = 9 by omega] at this
    omega
  · have := dgf_la 9 u h0 h2
    subst this
    have e : (dgf 9 0).length = 1 := by decide
    omega
theorem leb9 {u : Int} (h0 : 0 ≤ u) (h1 : u < 18446744073709551616) : leb_ 10 u = leb_ 9 u := leb_more 9 u h0 (by omega)
theorem vs_dg {u : Int} (h0 : 0 ≤ u) (h1 : u < 18446744073709551616) (s : List Int) : vs_ 10 (leb_ 10 u ++ s) = some (dgf 9 u) := by
  rw [leb9 h0 h1]; exact vs_leb 9 u s h0 (by omega)
theorem len_dg {u : Int} (h0 : 0 ≤ u) (h1 : u < 18446744073709551616) : (dgf 9 u).length = (leb_ 10 u).length := by
  rw [leb9 h0 h1]; exact dgf_len 9 u
theorem vs_big : ∀ (m : Nat) (t : List Int), (∀ x ∈ t, 128 ≤ x) → vs_ m t = none
  | 0, _, _ => rfl
  | _ + 1, [], _ => rfl
  | m + 1, c :: t, h => by
    have := h c List.mem_cons_self
    rw [vs_, if_neg (by omega), vs_big m t (fun x hx => h x (List.mem_cons_of_mem _ hx))]
    rfl
theorem leb_big : ∀ (f : Nat) (u : Int) (q : Nat), q < (leb_ f u).length → ∀ x ∈ (leb_ f u).take q, 128 ≤ x
  | 0, u, q, h => by
    simp [leb_] at h
    subst h
    simp
  | f + 1, u, q, h => by
    simp only [leb_] at h ⊢
    by_cases h1 : u ≥ 128
    · rw [if_pos h1] at h ⊢
      match q, h with
      | 0, _ => simp
      | q + 1, h =>
        intro x hx
        rw [List.take_succ_cons] at hx
        rcases List.mem_cons.1 hx with hx | hx
        · omega
        · exact leb_big f (u / 128) q (by simpa using h) x hx
    · rw [if_neg h1] at h ⊢
      simp at h
      subst h
      simp
theorem byt_leb : ∀ (f : Nat) (u : Int), 0 ≤ u → u < 128 ^ (f + 1) → byt_ (leb_ f u)
  | 0, u, h0, h1 => fun x hx => by
    simp only [leb_, List.mem_singleton] at hx
    omega
  | f + 1, u, h0, h1 => fun x hx => by
    simp only [leb_] at hx
    by_cases h : u ≥ 128
    · rw [if_pos h] at hx
      have hdd : u / 128 < 128 ^ (f + 1) := by
        rw [Int.pow_succ] at h1
        omega
      rcases List.mem_cons.1 hx with hx | hx
      · omega
      · exact byt_leb f (u / 128) (by omega) hdd x hx
    · rw [if_neg h, List.mem_singleton] at hx
      omega
theorem unz_zig {n : Int} (h : i64_ n) : unz_ (zig_ n) = n := by unfold unz_ zig_; have := h.1; split <;> split <;> omega
theorem str_bytes (t : ByteArray) : strOfNums (bytesOf t) = t := by
  unfold strOfNums bytesOf
  rw [List.map_map]
  have e : ((fun n : Int => UInt8.ofNat n.toNat) ∘ fun b : UInt8 => (b.toNat : Int)) = id := by
    funext b
    simp
  rw [e, List.map_id]
theorem byt_bytes (t : ByteArray) : byt_ (bytesOf t) := by
  intro x hx
  unfold bytesOf at hx
  obtain ⟨b, _, rfl⟩ := List.mem_map.1 hx
  have := b.toNat_lt
  omega

/-! ### a record -/
def fld (i j : Nat) (v : Int) : Int := if j < i then v else 0
theorem fld_up {i j : Nat} {n v : Int} (h : i = j → n = v) : up_ i j n (fld i j v) = fld (i + 1) j v := by
  unfold up_ fld
  by_cases h1 : i = j
  · rw [if_pos h1, if_pos (by omega), h h1]
  · rw [if_neg h1]
    by_cases h2 : j < i
    · rw [if_pos h2, if_pos (by omega)]
    · rw [if_neg h2, if_neg (by omega)]
theorem fld_i64 {i j : Nat} {v : Int} (h : i64_ v) : i64_ (fld i j v) := by
  unfold fld
  split
  · exact h
  · exact ⟨by omega, by omega⟩
def rest_ (a x y z : Int) (t : ByteArray) (i : Nat) : List Int := nums_ (([x, y, z].take (many_ a).toNat).drop i) ++ tail_ a t
theorem rest_at {a x y z : Int} {t : ByteArray} {i : Nat} (h : (i : Int) < many_ a) (hx : i64_ x) (hy : i64_ y) (hz : i64_ z) :
    ∃ v, i64_ v ∧ rest_ a x y z t i = leb_ 10 (zig_ v) ++ rest_ a x y z t (i + 1) ∧ (i = 0 → v = x) ∧ (i = 1 → v = y) ∧ (i = 2 → v = z) := by
  have hm := many_range a
  obtain ⟨q, hq⟩ : ∃ q : Nat, q = (many_ a).toNat := ⟨_, rfl⟩
  have hq3 : q = 1 ∨ q = 2 ∨ q = 3 := by omega
  have hi : i < q := by omega
  unfold rest_
  rw [← hq]
  have h3 : i < 3 := by omega
  match i, h3 with
  | 0, _ => rcases hq3 with rfl | rfl | rfl <;> exact ⟨x, hx, by simp [nums_], by simp, by simp, by simp⟩
  | 1, _ =>
    rcases hq3 with rfl | rfl | rfl
    · omega
    · exact ⟨y, hy, by simp [nums_], by simp, by simp, by simp⟩
    · exact ⟨y, hy, by simp [nums_], by simp, by simp, by simp⟩
  | 2, _ =>
    rcases hq3 with rfl | rfl | rfl
    · omega
    · omega
    · exact ⟨z, hz, by simp [nums_], by simp, by simp, by simp⟩
theorem rest_end {a x y z : Int} {t : ByteArray} {i : Nat} (h : ¬ (i : Int) < many_ a) : rest_ a x y z t i = tail_ a t := by
  have hm := many_range a
  unfold rest_
  rw [List.drop_eq_nil_of_le (by rw [List.length_take]; omega)]
  rfl
theorem rcode_ok {a x y z : Int} {t : ByteArray} (h : rcode_ a x y z t = 0) : ¬ many_ a = 0 ∧ (many_ a < 2 → y = 0) ∧ (many_ a < 3 → z = 0) ∧ (¬ a = 1 → t = none_) ∧ t.size ≤ 65536 := by
  unfold rcode_ at h
  split at h
  · omega
  · rename_i hc
    simp only [not_or, not_and, Classical.not_not] at hc
    obtain ⟨h1, h2, h3, h4, h5⟩ := hc
    refine ⟨h1, fun h => Classical.not_not.1 (fun g => absurd (h2 h) g), fun h => Classical.not_not.1 (fun g => absurd (h3 h) g), fun h => ?_, by omega⟩
    have e := h4 h
    rw [toList_of] at e
    apply ByteArray.ext
    simpa using e
theorem kind_ok {a : Int} (h : ¬ many_ a = 0) : 1 ≤ a ∧ a ≤ 5 := by
  unfold many_ at h
  split at h
  · omega
  · split at h
    · omega
    · split at h
      · omega
      · omega
theorem prog_end {l : List Int} {a : Int} {i p : Nat} {x y z : Int} (hni : ¬ (i : Int) < many_ a) (h1 : ¬ a = 1) :
    Ev (fun k => journal_one.l0 k l p (many_ a) i a x y z none_) (if rcode_ a x y z none_ = 0 then (a, x, y, z, none_, (p : Int)) else zero6) := by
  refine Ev.step (fun k => by rw [journal_one.l0, if_neg hni, if_neg h1]) ?_
  refine Ev.bind (jright_ev (by decide)) ?_
  exact ifsome _ zero6
theorem fld_end {i j : Nat} {a v : Int} (h : (i : Int) = many_ a) (h0 : many_ a ≤ j → v = 0) : fld i j v = v := by
  unfold fld
  by_cases h1 : j < i
  · rw [if_pos h1]
  · rw [if_neg h1, h0 (by omega)]
theorem yes {l : List Int} {a x y z : Int} {t : ByteArray} {s : List Int} (hb : byt_ l) (hl : l.length ≤ 100000) (hx : i64_ x) (hy : i64_ y) (hz : i64_ z) (hr : rcode_ a x y z t = 0) :
    ∀ (m i p : Nat), i + m = (many_ a).toNat → p ≤ l.length → l.drop p = rest_ a x y z t i ++ s →
      Ev (fun k => journal_one.l0 k l p (many_ a) i a (fld i 0 x) (fld i 1 y) (fld i 2 z) none_) (a, x, y, z, t, ((p + (rest_ a x y z t i).length : Nat) : Int))
  | 0, i, p, hi, hp, h => by
    have hm := many_range a
    obtain ⟨k1, k2, k3, k4, k5⟩ := rcode_ok hr
    have hni : ¬ (i : Int) < many_ a := by omega
    rw [fld_end (a := a) (by omega) (fun h => by omega), fld_end (a := a) (by omega) (fun h => k2 (by omega)), fld_end (a := a) (by omega) (fun h => k3 (by omega))]
    rw [rest_end hni] at h ⊢
    by_cases h1 : a = 1
    · subst h1
      unfold tail_ at h ⊢
      rw [if_pos rfl] at h ⊢
      have n0 : (0 : Int) ≤ (t.size : Int) := by omega
      have n1 : (t.size : Int) < 18446744073709551616 := by omega
      have hv := vs_dg n0 n1 (bytesOf t ++ s)
      rw [← List.append_assoc, ← h] at hv
      have hL := len_dg n0 n1
      have hlen := congrArg List.length h
      rw [List.length_drop, List.length_append, List.length_append, bytesOf_length] at hlen
      have hle : p + (dgf 9 (t.size : Int)).length + t.size ≤ l.length := by rw [hL]; omega
      have ht : t = strOfNums ((l.take (p + (dgf 9 (t.size : Int)).length + t.size)).drop (p + (dgf 9 (t.size : Int)).length)) := by
        have e1 : l.drop (p + (dgf 9 (t.size : Int)).length) = bytesOf t ++ s := by
          rw [← List.drop_drop, h, hL, List.append_assoc, List.drop_left]
        rw [List.drop_take, Nat.add_sub_cancel_left, e1, show t.size = (bytesOf t).length from (bytesOf_length t).symm, List.take_left, str_bytes]
      have := prog_text (x := x) (y := y) (z := z) hb hl hni hp hv (dg_good n0 n1) (uu_dgf 9 _) hle k5 ht (by omega)
      rw [if_pos hr, hL] at this
      rw [List.length_append, bytesOf_length, ← Nat.add_assoc]
      exact this
    · have ht := k4 h1
      subst ht
      unfold tail_
      rw [if_neg h1]
      have := prog_end (l := l) (x := x) (y := y) (z := z) (p := p) hni h1
      rw [if_pos hr] at this
      exact this
  | m + 1, i, p, hi, hp, h => by
    have hm := many_range a
    have hni : (i : Int) < many_ a := by omega
    obtain ⟨v, hv, hrest, v0, v1, v2⟩ := rest_at (t := t) hni hx hy hz
    have hzr := zig_range hv.1 hv.2
    rw [hrest] at h ⊢
    have hvs := vs_dg hzr.1 hzr.2 (rest_ a x y z t (i + 1) ++ s)
    rw [← List.append_assoc, ← h] at hvs
    have hL := len_dg hzr.1 hzr.2
    have hlen := congrArg List.length h
    rw [List.length_drop, List.length_append, List.length_append] at hlen
    have hd : l.drop (p + (dgf 9 (zig_ v)).length) = rest_ a x y z t (i + 1) ++ s := by
      rw [← List.drop_drop, h, hL, List.append_assoc, List.drop_left]
    have ih := yes hb hl hx hy hz hr m (i + 1) (p + (dgf 9 (zig_ v)).length) (by omega) (by rw [hL]; omega) hd
    rw [List.length_append, ← hL, ← Nat.add_assoc]
    refine prog_step hb hl hni hp hvs (dg_good hzr.1 hzr.2) (by rw [uu_dgf]; exact hzr.2) ?_
    rw [uu_dgf, unz_zig hv, fld_up v0, fld_up v1, fld_up v2]
    exact ih
theorem no {l : List Int} {a x y z : Int} {t : ByteArray} (hb : byt_ l) (hl : l.length ≤ 100000) (hx : i64_ x) (hy : i64_ y) (hz : i64_ z) (hr : rcode_ a x y z t = 0) :
    ∀ (m i p q : Nat), i + m = (many_ a).toNat → p ≤ l.length → l.drop p = (rest_ a x y z t i).take q → q < (rest_ a x y z t i).length →
      Ev (fun k => journal_one.l0 k l p (many_ a) i a (fld i 0 x) (fld i 1 y) (fld i 2 z) none_) zero6
  | 0, i, p, q, hi, hp, h, hq => by
    have hm := many_range a
    obtain ⟨k1, k2, k3, k4, k5⟩ := rcode_ok hr
    have hni : ¬ (i : Int) < many_ a := by omega
    rw [rest_end hni] at h hq
    by_cases h1 : a = 1
    · subst h1
      unfold tail_ at h hq
      rw [if_pos rfl] at h hq
      have n0 : (0 : Int) ≤ (t.size : Int) := by omega
      have n1 : (t.size : Int) < 18446744073709551616 := by omega
      refine prog_notext hb hl hni hp ?_
      by_cases hc : q < (leb_ 10 (t.size : Int)).length
      · left
        rw [h, List.take_append_of_le_length (Nat.le_of_lt hc), vs_big 10 _ (leb_big 10 _ q hc)]
        rfl
      · right
        have hc' := Nat.le_of_not_lt hc
        have hlen := congrArg List.length h
        rw [List.length_drop, List.length_take, Nat.min_eq_left (Nat.le_of_lt hq)] at hlen
        rw [List.length_append, bytesOf_length] at hq
        rw [List.take_append, List.take_of_length_le hc'] at h
        refine ⟨dgf 9 (t.size : Int), by rw [h]; exact vs_dg n0 n1 _, ?_⟩
        rw [uu_dgf, len_dg n0 n1]
        omega
    · unfold tail_ at hq
      rw [if_neg h1] at hq
      simp at hq
  | m + 1, i, p, q, hi, hp, h, hq => by
    have hm := many_range a
    have hni : (i : Int) < many_ a := by omega
    obtain ⟨v, hv, hrest, v0, v1, v2⟩ := rest_at (t := t) hni hx hy hz
    have hzr := zig_range hv.1 hv.2
    rw [hrest] at h hq
    by_cases hc : q < (leb_ 10 (zig_ v)).length
    · refine prog_stop hb hl hni hp ?_
      rw [h, List.take_append_of_le_length (Nat.le_of_lt hc), vs_big 10 _ (leb_big 10 _ q hc)]
      rfl
    · have hc' := Nat.le_of_not_lt hc
      rw [List.take_append, List.take_of_length_le hc'] at h
      rw [List.length_append] at hq
      have hvs := vs_dg hzr.1 hzr.2 ((rest_ a x y z t (i + 1)).take (q - (leb_ 10 (zig_ v)).length))
      rw [← h] at hvs
      have hL := len_dg hzr.1 hzr.2
      have hlen := congrArg List.length h
      rw [List.length_drop, List.length_append] at hlen
      have hd : l.drop (p + (dgf 9 (zig_ v)).length) = (rest_ a x y z t (i + 1)).take (q - (leb_ 10 (zig_ v)).length) := by
        rw [← List.drop_drop, h, hL, List.drop_left]
      have ih := no hb hl hx hy hz hr m (i + 1) (p + (dgf 9 (zig_ v)).length) (q - (leb_ 10 (zig_ v)).length) (by omega) (by rw [hL]; omega) hd (by omega)
      refine prog_step hb hl hni hp hvs (dg_good hzr.1 hzr.2) (by rw [uu_dgf]; exact hzr.2) ?_
      rw [uu_dgf, unz_zig hv, fld_up v0, fld_up v1, fld_up v2]
      exact ih
theorem rbytes_rest {a x y z : Int} {t : ByteArray} (hr : rcode_ a x y z t = 0) : rbytes_ a x y z t = a :: rest_ a x y z t 0 := by
  have := kind_ok (rcode_ok hr).1
  unfold rbytes_ rest_
  rw [show a % 256 = a by omega, List.drop_zero, List.append_assoc]
  rfl
theorem one_yes {a x y z : Int} {t : ByteArray} {s : List Int} (hb : byt_ (rbytes_ a x y z t ++ s)) (hl : (rbytes_ a x y z t ++ s).length ≤ 100000) (hx : i64_ x) (hy : i64_ y) (hz : i64_ z) (hr : rcode_ a x y z t = 0) :
    Ev (fun k => journal_one.f k (rbytes_ a x y z t ++ s)) (a, x, y, z, t, ((rbytes_ a x y z t).length : Int)) := by
  rw [rbytes_rest hr] at hb hl ⊢
  rw [List.cons_append] at hb hl ⊢
  have hk := kind_ok (rcode_ok hr).1
  have hm := many_range a
  have e0 : rd (a :: (rest_ a x y z t 0 ++ s)) 0 = a := rfl
  have ew : wrap64 a = a := by unfold wrap64; omega
  have := yes (s := s) hb hl hx hy hz hr (many_ a).toNat 0 1 (by omega) (by simp) rfl
  unfold journal_one.f
  refine Ev.congr (fun k => by rw [if_neg (by rw [List.length_cons]; omega), if_pos (by rw [List.length_cons]; omega), e0, ew]) ?_
  refine Ev.bind (numbers_ev a) ?_
  rw [List.length_cons, Nat.add_comm]
  exact this
theorem one_no {a x y z : Int} {t : ByteArray} {q : Nat} (hb : byt_ ((rbytes_ a x y z t).take q)) (hl : ((rbytes_ a x y z t).take q).length ≤ 100000) (hq : q < (rbytes_ a x y z t).length) (hx : i64_ x) (hy : i64_ y) (hz : i64_ z) (hr : rcode_ a x y z t = 0) :
    Ev (fun k => journal_one.f k ((rbytes_ a x y z t).take q)) zero6 := by
  rw [rbytes_rest hr] at hb hl hq ⊢
  match q, hq with
  | 0, _ => exact Ev.now _
  | q + 1, hq =>
    rw [List.take_succ_cons] at hb hl ⊢
    have hk := kind_ok (rcode_ok hr).1
    have hm := many_range a
    have e0 : rd (a :: (rest_ a x y z t 0).take q) 0 = a := rfl
    have ew : wrap64 a = a := by unfold wrap64; omega
    have := no hb hl hx hy hz hr (many_ a).toNat 0 1 q (by omega) (by simp) rfl (by simpa using hq)
    unfold journal_one.f
    refine Ev.congr (fun k => by rw [if_neg (by rw [List.length_cons]; omega), if_pos (by rw [List.length_cons]; omega), e0, ew]) ?_
    exact Ev.bind (numbers_ev a) this
end Go.Proofs.Ytkgpnegebpkhlaa.PJournalBack
