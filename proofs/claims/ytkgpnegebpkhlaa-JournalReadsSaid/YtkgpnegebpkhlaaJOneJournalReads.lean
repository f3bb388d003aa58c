import Derived.Test.YtkgpnegebpkhlaaJNumJournalReads
/-! Our own text: the record that bytes begin with. -/
namespace Go.Proofs.Ytkgpnegebpkhlaa.PJournalReads
set_option linter.unusedVariables false
open Go.RowKit Go.Proofs.YtkgpnegebpkhlaaW.PrintWords

theorem dok_drop {d : List Int} {i : Nat} (h : dok_ d) : dok_ (d.drop i) := fun x hx => h x (List.mem_of_mem_drop hx)
theorem drop_at {d : List Int} {j : Nat} (h : j < d.length) : d.drop j = rd d (j : Int) :: d.drop (j + 1) := by
  rw [List.drop_eq_getElem_cons h]
  unfold rd
  rw [Int.toNat_natCast, List.getD_eq_getElem?_getD, List.getElem?_eq_getElem h]; rfl
theorem uu_drop {d : List Int} {j : Nat} (h : j < d.length) : uu_ (d.drop j) = rd d (j : Int) + 128 * uu_ (d.drop (j + 1)) := by
  rw [drop_at h]; rfl
theorem uu_drop_le {d : List Int} (hd : dok_ d) : ∀ j : Nat, uu_ (d.drop j) ≤ uu_ d
  | 0 => by simp
  | j + 1 => by
    have ih := uu_drop_le hd j
    rcases Nat.lt_or_ge j d.length with h | h
    · have h0 := uu_pos (dok_drop (i := j + 1) hd)
      have h1 := uu_drop h
      have h2 := hd (rd d (j : Int)) (List.mem_of_mem_drop (i := j) (by rw [drop_at h]; simp))
      omega
    · rw [List.drop_eq_nil_of_le (by omega)]
      exact uu_pos hd
theorem uu_la : ∀ {d : List Int}, dok_ d → 1 ≤ d.length → la_ d * 128 ^ (d.length - 1) ≤ uu_ d ∧ uu_ d < (la_ d + 1) * 128 ^ (d.length - 1)
  | [], _, h => by simp at h
  | [c], hd, _ => by simp [la_, uu_]; omega
  | c :: e :: t, hd, _ => by
    have h1 := hd c List.mem_cons_self
    obtain ⟨p, q⟩ := uu_la (d := e :: t) (fun x hx => hd x (List.mem_cons_of_mem _ hx)) (by simp)
    have e1 : la_ (c :: e :: t) = la_ (e :: t) := rfl
    have e2 : uu_ (c :: e :: t) = c + 128 * uu_ (e :: t) := rfl
    have e3 : (c :: e :: t).length - 1 = (e :: t).length - 1 + 1 := by simp
    rw [e1, e2, e3, Int.pow_succ, ← Int.mul_assoc, ← Int.mul_assoc]
    omega
theorem la_rd : ∀ {d : List Int}, 1 ≤ d.length → rd d ((d.length - 1 : Nat) : Int) = la_ d
  | [], h => by simp at h
  | [c], _ => rfl
  | c :: e :: t, _ => by
    have := la_rd (d := e :: t) (by simp)
    rw [show la_ (c :: e :: t) = la_ (e :: t) from rfl, ← this]
    unfold rd
    simp
theorem big10 {d : List Int} (hd : dok_ d) (h : d.length = 10) (h2 : 1 < la_ d) : 1099511627776 < uu_ d := by
  have := (uu_la hd (by omega)).1
  rw [h] at this
  omega
theorem small10 {d : List Int} (hd : dok_ d) (h1 : 1 ≤ d.length) (h : d.length ≤ 10) (h2 : ¬ (d.length = 10 ∧ 1 < la_ d)) : uu_ d < 18446744073709551616 := by
  by_cases h3 : d.length = 10
  · have := (uu_la hd h1).2
    rw [h3] at this
    omega
  · have := uu_lt hd
    have p := (pow9 (i := d.length) (by omega)).2.1
    omega
theorem rnumber_l0 {d : List Int} (hd : dok_ d) (h1 : 1 ≤ d.length) (hl : d.length ≤ 10) (hu : uu_ d < 18446744073709551616) : ∀ (i : Nat), i < d.length →
    Ev (fun k => regletref23_number.l0 k d (uu_ (d.drop (i + 1))) i) (unz_ (uu_ d))
  | 0, h => by
    have e := uu_drop (d := d) (j := 0) (by omega)
    rw [List.drop_zero] at e
    have r := hd (rd d ((0 : Nat) : Int)) (List.mem_of_mem_drop (i := 0) (by rw [drop_at (d := d) (j := 0) (by omega)]; simp))
    have h0 := uu_pos (dok_drop (i := 0 + 1) hd)
    rw [e] at hu ⊢
    generalize uu_ (d.drop (0 + 1)) = n at h0 hu ⊢
    rw [show ((0 : Nat) : Int) = 0 from rfl] at r hu ⊢
    generalize hz : rd d 0 = z at r hu
    refine Ev.step (f := fun _ => some (unz_ (z + 128 * n))) (fun k => ?_) (Ev.now _)
    rw [regletref23_number.l0, if_neg (by omega), if_pos (by omega), hz, tmod_pos (by omega), tdiv_pos (by omega), w64 (x := z / 2) (by omega) (by omega), w64 (x := n * 64) (by omega) (by omega), w64 (x := n * 64 + z / 2) (by omega) (by omega)]
    unfold unz_
    by_cases hb : z % 2 = 1
    · rw [if_pos hb, if_pos (by omega), w64 (x := -(n * 64 + z / 2)) (by omega) (by omega), w64 (by omega) (by omega)]
      congr 1; omega
    · rw [if_neg hb, if_neg (by omega)]
      congr 1; omega
  | i + 1, h => by
    have ih := rnumber_l0 hd h1 hl hu i (by omega)
    have e := uu_drop (d := d) (j := i + 1) h
    have r := hd (rd d ((i + 1 : Nat) : Int)) (List.mem_of_mem_drop (i := i + 1) (by rw [drop_at h]; simp))
    have h0 := uu_pos (dok_drop (i := i + 1 + 1) hd)
    have e2 := uu_drop (d := d) (j := i) (by omega)
    have r2 := hd (rd d (i : Int)) (List.mem_of_mem_drop (i := i) (by rw [drop_at (by omega)]; simp))
    have e3 := uu_drop_le hd i
    rw [e] at ih e2
    generalize uu_ (d.drop (i + 1 + 1)) = n at h0 e e2 ih ⊢
    generalize uu_ (d.drop i) = n2 at e2 e3
    generalize uu_ d = n3 at ih e3 hu ⊢
    refine Ev.step (fun k => ?_) ih
    rw [regletref23_number.l0, if_pos (by omega), if_pos (by omega), if_pos (by omega), w64 (x := ((i + 1 : Nat) : Int) - 1) (by omega) (by omega), show ((i + 1 : Nat) : Int) - 1 = (i : Int) by omega]
    generalize rd d ((i + 1 : Nat) : Int) = z at r e2
    rw [w64 (x := n * 128) (by omega) (by omega), w64 (x := n * 128 + z) (by omega) (by omega), show n * 128 + z = z + 128 * n by omega]
theorem rnumber_v {d : List Int} (hd : dok_ d) (h1 : 1 ≤ d.length) (hl : d.length ≤ 10) (hu : uu_ d < 18446744073709551616) : Ev (fun k => regletref23_number.f k d) (unz_ (uu_ d)) := by
  have := rnumber_l0 hd h1 hl hu (d.length - 1) (by omega)
  rw [show d.length - 1 + 1 = d.length by omega, List.drop_length] at this
  unfold regletref23_number.f
  rw [w64 (by omega) (by omega), show (d.length : Int) - 1 = ((d.length - 1 : Nat) : Int) by omega]
  exact this
def lv_ (d : List Int) : Int := mn (uu_ d) 1099511627776
theorem length_l0 {d : List Int} (hd : dok_ d) (hl : d.length ≤ 10) : ∀ (j : Nat), j ≤ d.length →
    Ev (fun k => regletref23_length.l0 k d (lv_ (d.drop j)) ((j : Int) - 1)) (lv_ d)
  | 0, h => by
    refine Ev.step (f := fun _ => some (lv_ d)) (fun k => ?_) (Ev.now _)
    rw [regletref23_length.l0, if_neg (by omega), List.drop_zero]
  | j + 1, h => by
    have ih := length_l0 hd hl j (by omega)
    have e := uu_drop (d := d) (j := j) (by omega)
    have r := hd (rd d (j : Int)) (List.mem_of_mem_drop (i := j) (by rw [drop_at (by omega)]; simp))
    have h0 := uu_pos (dok_drop (i := j + 1) hd)
    refine Ev.step (fun k => ?_) ih
    rw [regletref23_length.l0, if_pos (by omega), if_pos (by omega), if_pos (by omega), show ((j + 1 : Nat) : Int) - 1 = (j : Int) by omega, w64 (x := (j : Int) - 1) (by omega) (by omega)]
    congr 1
    unfold lv_
    rw [e]
    generalize uu_ (d.drop (j + 1)) = n at h0 ⊢
    generalize rd d (j : Int) = z at r ⊢
    unfold mn
    by_cases hn : n ≤ 1099511627776
    · rw [if_neg (show ¬ (1099511627776 : Int) < n by omega), w64 (x := n * 128) (by omega) (by omega), w64 (x := n * 128 + z) (by omega) (by omega), show n * 128 + z = z + 128 * n by omega]
    · rw [if_pos (show (1099511627776 : Int) < n by omega), w64 (x := 1099511627776 * 128) (by omega) (by omega), w64 (x := 1099511627776 * 128 + z) (by omega) (by omega), if_pos (show (1099511627776 : Int) < 1099511627776 * 128 + z by omega), if_pos (show (1099511627776 : Int) < z + 128 * n by omega)]
theorem length_v {d : List Int} (hd : dok_ d) (h1 : 1 ≤ d.length) (hl : d.length ≤ 10) : Ev (fun k => regletref23_length.f k d) (lv_ d) := by
  have := length_l0 hd hl d.length (by omega)
  rw [List.drop_length] at this
  unfold regletref23_length.f
  rw [w64 (by omega) (by omega)]
  exact this

/-! ### a record: the bytes behind its numbers -/
theorem loop_of (l : List UInt8) : ∀ (n i : Nat) (r : List UInt8), l.length - i = n → ByteArray.toList.loop ⟨l.toArray⟩ i r = r.reverse ++ l.drop i := by
  have hsz : (⟨l.toArray⟩ : ByteArray).size = l.length := by simp [ByteArray.size]
  intro n
  induction n with
  | zero =>
    intro i r h
    rw [ByteArray.toList.loop, if_neg (by rw [hsz]; omega), List.drop_eq_nil_of_le (by omega), List.append_nil]
  | succ n ih =>
    intro i r h
    have hi : i < l.length := by omega
    have hg : (⟨l.toArray⟩ : ByteArray).get! i = l[i] := by
      show l.toArray[i]! = l[i]
      simp [hi]
    rw [ByteArray.toList.loop, if_pos (by rw [hsz]; omega), ih (i + 1) _ (by omega), hg, List.drop_eq_getElem_cons hi, List.reverse_cons, List.append_assoc, List.singleton_append]
theorem toList_of (s : ByteArray) : s.toList = s.data.toList := by
  have := loop_of s.data.toList _ 0 [] rfl
  simpa [ByteArray.toList] using this
theorem bytes_str {l : List Int} (h : byt_ l) : bytesOf (strOfNums l) = l := by
  unfold bytesOf strOfNums
  rw [List.map_map]
  refine (List.map_congr_left (g := id) fun x hx => ?_).trans (List.map_id l)
  have := h x hx
  simp only [Function.comp, UInt8.toNat_ofNat', id]
  omega
theorem j2_no {l : List Int} {p : Nat} {a b c d : Int} {t : ByteArray} (hs : (t.size : Int) ≤ 1000000) (hb : i64_ b) (hc : i64_ c) (hd : i64_ d) (hp : p ≤ l.length) (hl : l.length ≤ 1000000)
    (h : rcode_ a b c d t = 0 → (rbytes_ a b c d t).length ≠ p) : ∃ r, Ev (fun k => regletref23_One.j2 k l p a b c d t) r ∧ r.2.2.2.2.2 = 0 := by
  by_cases hr : rcode_ a b c d t = 0
  · refine ⟨(a, b, c, d, t, 0), Ev.step (fun k => by rw [regletref23_One.j2]) (Ev.bind (rright_ev hs) ?_), rfl⟩
    simp only [if_pos hr]
    refine Ev.bind (rbytes_ev hs hb hc hd) ?_
    have e : ((strOfNums (rbytes_ a b c d t)).toList == (strOfNums (l.take p)).toList) = false := by
      rw [beq_eq_false_iff_ne]
      intro e
      have e2 : (strOfNums (rbytes_ a b c d t)).size = (strOfNums (l.take p)).size := by
        rw [toList_of, toList_of] at e
        have := congrArg List.length e
        rw [Array.length_toList, Array.length_toList] at this
        exact this
      rw [strOfNums_size, strOfNums_size, List.length_take, Nat.min_eq_left hp] at e2
      exact h hr e2
    refine Ev.congr (fun k => ?_) (Ev.now _)
    rw [if_pos (by omega), if_pos (by omega), regletref23_same.f, Int.toNat_natCast, e, Option.bind_some, if_neg (by decide)]
  · refine ⟨(a, b, c, d, t, 0), Ev.step (fun k => by rw [regletref23_One.j2]) (Ev.bind (rright_ev hs) ?_), rfl⟩
    simp only [if_neg hr]
    exact Ev.now _
theorem j2_yes {l : List Int} {p : Nat} {a b c d : Int} {t : ByteArray} (hs : (t.size : Int) ≤ 1000000) (hb : i64_ b) (hc : i64_ c) (hd : i64_ d) (hp : p ≤ l.length) (hl : l.length ≤ 1000000)
    (hr : rcode_ a b c d t = 0) (h : rbytes_ a b c d t = l.take p) : Ev (fun k => regletref23_One.j2 k l p a b c d t) (a, b, c, d, t, (p : Int)) := by
  refine Ev.step (fun k => by rw [regletref23_One.j2]) (Ev.bind (rright_ev hs) ?_)
  simp only [if_pos hr]
  refine Ev.bind (rbytes_ev hs hb hc hd) ?_
  refine Ev.congr (fun k => ?_) (Ev.now _)
  rw [if_pos (by omega), if_pos (by omega), regletref23_same.f, Int.toNat_natCast, h, beq_self_eq_true, Option.bind_some, if_pos rfl]
def nl_ (i : Nat) (x y z : Int) : List Int := nums_ ([x, y, z].take i)
def up_ (i j : Nat) (v x : Int) : Int := if i = j then v else x
theorem nl_up {i : Nat} (h : i < 3) (v x y z : Int) : nl_ (i + 1) (up_ i 0 v x) (up_ i 1 v y) (up_ i 2 v z) = nl_ i x y z ++ leb_ 10 (zig_ v) := by
  match i, h with
  | 0, _ => simp [nl_, nums_, up_]
  | 1, _ => simp [nl_, nums_, up_]
  | 2, _ => simp [nl_, nums_, up_]
theorem up_i64 {i j : Nat} {v x : Int} (h : i64_ v) (g : i64_ x) : i64_ (up_ i j v x) := by unfold up_; split <;> assumption
abbrev none_ : ByteArray := ⟨#[]⟩
/-- The reference reads a number, or none. -/
theorem ref_step {l : List Int} {a : Int} {i p : Nat} {x y z : Int} (hb : byt_ l) (hl : l.length ≤ 2000) (hi : (i : Int) < many_ a) (hp : p ≤ l.length) :
    (∃ r, Ev (fun k => regletref23_One.l0 k l p i a 0 0 0 none_ x y z) r ∧ r.2.2.2.2.2 = 0 ∧ (vs_ 10 (l.drop p) = none ∨ ∃ d, vs_ 10 (l.drop p) = some d ∧ d.length = 10 ∧ 1 < la_ d)) ∨
    (∃ d, vs_ 10 (l.drop p) = some d ∧ ¬ (d.length = 10 ∧ 1 < la_ d) ∧ ∀ r, Ev (fun k => regletref23_One.l0 k l ((p + d.length : Nat) : Int) ((i + 1 : Nat) : Int) a 0 0 0 none_ (up_ i 0 (unz_ (uu_ d)) x) (up_ i 1 (unz_ (uu_ d)) y) (up_ i 2 (unz_ (uu_ d)) z)) r →
      Ev (fun k => regletref23_One.l0 k l p i a 0 0 0 none_ x y z) r) := by
  have hm := many_range a
  have hbd : byt_ (l.drop p) := fun x hx => hb x (List.mem_of_mem_drop hx)
  have hv := value_v hbd (by rw [List.length_drop]; omega)
  have start : ∀ r, Ev (fun k => (regletref23_value.f k (l.drop p)).bind fun bt278 => (if bt278.2 = 0 then (some (a, 0, 0, 0, none_, 0)) else (if bt278.2 = 10 then (if 9 < (bt278.1.length : Int) then (if (rd bt278.1 9) > 1 then (some (a, 0, 0, 0, none_, 0)) else ((regletref23_number.f k bt278.1).bind fun t283 => (if 0 ≤ (i : Int) then (if (i : Int) < 3 then (if (i : Int) = 0 then (regletref23_One.l0 k l (wrap64 (p + bt278.2)) (wrap64 (i + 1)) a 0 0 0 none_ t283 y z) else (if (i : Int) = 1 then (regletref23_One.l0 k l (wrap64 (p + bt278.2)) (wrap64 (i + 1)) a 0 0 0 none_ x t283 z) else (if (i : Int) = 2 then (regletref23_One.l0 k l (wrap64 (p + bt278.2)) (wrap64 (i + 1)) a 0 0 0 none_ x y t283) else (none)))) else (none)) else (none)))) else (none)) else ((regletref23_number.f k bt278.1).bind fun t284 => (if 0 ≤ (i : Int) then (if (i : Int) < 3 then (if (i : Int) = 0 then (regletref23_One.l0 k l (wrap64 (p + bt278.2)) (wrap64 (i + 1)) a 0 0 0 none_ t284 y z) else (if (i : Int) = 1 then (regletref23_One.l0 k l (wrap64 (p + bt278.2)) (wrap64 (i + 1)) a 0 0 0 none_ x t284 z) else (if (i : Int) = 2 then (regletref23_One.l0 k l (wrap64 (p + bt278.2)) (wrap64 (i + 1)) a 0 0 0 none_ x y t284) else (none)))) else (none)) else (none)))))) r →
      Ev (fun k => regletref23_One.l0 k l p i a 0 0 0 none_ x y z) r := fun r hE => by
    refine Ev.step (fun k => ?_) hE
    rw [regletref23_One.l0, many_f, Option.bind_some, if_pos hi, if_pos (by omega), if_pos (by omega), Int.toNat_natCast]
  cases hd : vs_ 10 (l.drop p) with
  | none =>
    rw [hd] at hv
    refine .inl ⟨(a, 0, 0, 0, none_, 0), start _ (Ev.bind hv ?_), rfl, .inl rfl⟩
    exact Ev.congr (fun k => by rw [if_pos rfl]) (Ev.now _)
  | some d =>
    rw [hd] at hv
    simp only at hv
    obtain ⟨d1, d2, d3, d4, d5⟩ := vs_spec 10 (l.drop p) d hbd hd
    rw [List.length_drop] at d3
    by_cases hq : d.length = 10 ∧ 1 < la_ d
    · refine .inl ⟨(a, 0, 0, 0, none_, 0), start _ (Ev.bind hv ?_), rfl, .inr ⟨d, rfl, hq⟩⟩
      have e := la_rd d1
      rw [hq.1] at e
      refine Ev.congr (fun k => ?_) (Ev.now _)
      rw [if_neg (show ¬ (d.length : Int) = 0 by omega), if_pos (show (d.length : Int) = 10 by omega), if_pos (show (9 : Int) < (d.length : Int) by omega), if_pos (show rd d 9 > 1 by rw [show (9 : Int) = ((10 - 1 : Nat) : Int) from rfl, e]; exact hq.2)]
    · refine .inr ⟨d, rfl, hq, fun r hE => start _ (Ev.bind hv ?_)⟩
      have hn := rnumber_v d4 d1 d2 (small10 d4 d1 d2 hq)
      have ew : wrap64 ((p : Int) + (d.length : Int)) = ((p + d.length : Nat) : Int) := by rw [w64 (by omega) (by omega)]; omega
      have go : Ev (fun k => (if 0 ≤ (i : Int) then (if (i : Int) < 3 then (if (i : Int) = 0 then (regletref23_One.l0 k l (wrap64 (p + (d.length : Int))) (wrap64 (i + 1)) a 0 0 0 none_ (unz_ (uu_ d)) y z) else (if (i : Int) = 1 then (regletref23_One.l0 k l (wrap64 (p + (d.length : Int))) (wrap64 (i + 1)) a 0 0 0 none_ x (unz_ (uu_ d)) z) else (if (i : Int) = 2 then (regletref23_One.l0 k l (wrap64 (p + (d.length : Int))) (wrap64 (i + 1)) a 0 0 0 none_ x y (unz_ (uu_ d))) else (none)))) else (none)) else (none))) r := by
        refine Ev.congr (fun k => ?_) hE
        rw [if_pos (by omega), if_pos (by omega), ew, upJ (by omega)]
        generalize unz_ (uu_ d) = v
        have h3 : i < 3 := by omega
        match i, h3 with
        | 0, _ => rfl
        | 1, _ => rfl
        | 2, _ => rfl
      by_cases h10 : d.length = 10
      · have e := la_rd d1
        rw [h10] at e
        refine Ev.congr (fun k => by rw [if_neg (show ¬ (d.length : Int) = 0 by omega), if_pos (show (d.length : Int) = 10 by omega), if_pos (show (9 : Int) < (d.length : Int) by omega), if_neg (show ¬ rd d 9 > 1 by rw [show (9 : Int) = ((10 - 1 : Nat) : Int) from rfl, e]; exact fun h => hq ⟨h10, h⟩)]) ?_
        exact Ev.bind hn go
      · refine Ev.congr (fun k => by rw [if_neg (show ¬ (d.length : Int) = 0 by omega), if_neg (show ¬ (d.length : Int) = 10 by omega)]) ?_
        exact Ev.bind hn go

theorem zig_leb {d : List Int} (hd : dok_ d) (h1 : 1 ≤ d.length) (hl : d.length ≤ 10) :
    (canon_ d = true → leb_ 10 (uu_ d) = cont_ d) ∧ (canon_ d = false → (leb_ 10 (uu_ d)).length < d.length) ∧ (leb_ 10 (uu_ d)).length ≤ d.length := by
  obtain ⟨p, q⟩ := leb_uu d 10 hd h1 (by omega)
  refine ⟨p, q, ?_⟩
  cases hc : canon_ d with
  | true =>
    rw [p hc]
    have : ∀ d : List Int, (cont_ d).length = d.length := by
      intro d
      induction d with
      | nil => rfl
      | cons x t ih =>
        cases t with
        | nil => rfl
        | cons y z => simp only [cont_, List.length_cons] at ih ⊢; omega
    rw [this]; exact Nat.le_refl _
  | false => exact Nat.le_of_lt (q hc)
theorem canon_badn {d : List Int} (h1 : 1 ≤ d.length) (hq : ¬ (d.length = 10 ∧ 1 < la_ d)) : (badn_ 0 d ↔ canon_ d = false) := by
  have e : canon_ d = true ↔ d.length = 1 ∨ ¬ la_ d = 0 := by
    match d, h1 with
    | [c], _ => simp [canon_]
    | c :: e :: t, _ =>
      rw [show canon_ (c :: e :: t) = nz_ (c :: e :: t) from rfl, nz_la]
      simp
  unfold badn_
  cases hc : canon_ d with
  | true => rw [hc] at e; simp at e; simp; omega
  | false => rw [hc] at e; simp at e; simp; omega
theorem lv_small {d : List Int} (h : lv_ d ≤ 2000) : lv_ d = uu_ d := by
  unfold lv_ mn at *
  split
  · rename_i hh; rw [if_pos hh] at h; omega
  · rfl
theorem lv_le {d : List Int} : uu_ d ≤ 2000 → lv_ d = uu_ d := fun h => by unfold lv_ mn; rw [if_neg (by omega)]
/-- The reference reads a text, or none. -/
theorem ref_text {l : List Int} {i p : Nat} {x y z : Int} (hb : byt_ l) (hl : l.length ≤ 2000) (hi : ¬ (i : Int) < many_ 1) (hp : p ≤ l.length) :
    (∃ r, Ev (fun k => regletref23_One.l0 k l p i 1 0 0 0 none_ x y z) r ∧ r.2.2.2.2.2 = 0 ∧ (vs_ 10 (l.drop p) = none ∨ ∃ d, vs_ 10 (l.drop p) = some d ∧ (l.length : Int) - p - d.length < uu_ d)) ∨
    (∃ d, ∃ n : Nat, vs_ 10 (l.drop p) = some d ∧ uu_ d = n ∧ p + d.length + n ≤ l.length ∧ ∀ r, Ev (fun k => regletref23_One.j2 k l ((p + d.length + n : Nat) : Int) 1 x y z (strOfNums ((l.take (p + d.length + n)).drop (p + d.length)))) r →
      Ev (fun k => regletref23_One.l0 k l p i 1 0 0 0 none_ x y z) r) := by
  have hbd : byt_ (l.drop p) := fun x hx => hb x (List.mem_of_mem_drop hx)
  have hv := value_v hbd (by rw [List.length_drop]; omega)
  have start : ∀ r, Ev (fun k => (regletref23_value.f k (l.drop p)).bind fun bt286 => (if bt286.2 = 0 then (regletref23_One.j1 k l p bt286.1 bt286.2 true 1 x y z none_) else ((regletref23_length.f k bt286.1).bind fun t290 => (regletref23_One.j1 k l p bt286.1 bt286.2 (decide (t290 > (wrap64 ((wrap64 ((l.length : Int) - p)) - bt286.2)))) 1 x y z none_)))) r →
      Ev (fun k => regletref23_One.l0 k l p i 1 0 0 0 none_ x y z) r := fun r hE => by
    refine Ev.step (fun k => ?_) hE
    rw [regletref23_One.l0, many_f, Option.bind_some, if_neg hi, if_pos rfl, if_pos (by omega), if_pos (by omega), Int.toNat_natCast]
  have stop : ∀ (d : List Int) (n : Int), Ev (fun k => regletref23_One.j1 k l p d n true 1 x y z none_) (1, x, y, z, none_, 0) := fun d n =>
    Ev.step (fun k => by rw [regletref23_One.j1, if_pos rfl]) (Ev.now _)
  cases hd : vs_ 10 (l.drop p) with
  | none =>
    rw [hd] at hv
    refine .inl ⟨(1, x, y, z, none_, 0), start _ (Ev.bind hv ?_), rfl, .inl rfl⟩
    exact Ev.congr (fun k => by rw [if_pos rfl]) (stop _ _)
  | some d =>
    rw [hd] at hv
    simp only at hv
    obtain ⟨d1, d2, d3, d4, d5⟩ := vs_spec 10 (l.drop p) d hbd hd
    rw [List.length_drop] at d3
    have hlen := length_v d4 d1 d2
    have hu := uu_pos d4
    by_cases hq : (l.length : Int) - p - d.length < uu_ d
    · refine .inl ⟨(1, x, y, z, none_, 0), start _ (Ev.bind hv ?_), rfl, .inr ⟨d, rfl, hq⟩⟩
      refine Ev.congr (fun k => by rw [if_neg (show ¬ (d.length : Int) = 0 by omega)]) ?_
      refine Ev.bind hlen ?_
      have e : decide (lv_ d > wrap64 (wrap64 ((l.length : Int) - p) - (d.length : Int))) = true := by
        rw [w64 (x := (l.length : Int) - p) (by omega) (by omega), w64 (by omega) (by omega)]
        refine decide_eq_true ?_
        unfold lv_ mn
        split <;> omega
      simp only [e]
      exact stop _ _
    · obtain ⟨n, hn⟩ := Int.eq_ofNat_of_zero_le hu
      have hlv : lv_ d = n := by rw [lv_le (by omega), hn]
      rw [hlv] at hlen
      have hle : p + d.length + n ≤ l.length := by omega
      refine .inr ⟨d, n, rfl, hn, hle, fun r hE => start _ (Ev.bind hv ?_)⟩
      refine Ev.congr (fun k => by rw [if_neg (show ¬ (d.length : Int) = 0 by omega)]) ?_
      refine Ev.bind hlen ?_
      have e : decide ((n : Int) > wrap64 (wrap64 ((l.length : Int) - p) - (d.length : Int))) = false := by
        rw [w64 (x := (l.length : Int) - p) (by omega) (by omega), w64 (by omega) (by omega)]
        exact decide_eq_false (by omega)
      simp only [e]
      refine Ev.step (fun k => by rw [regletref23_One.j1, if_neg (by decide)]) ?_
      refine Ev.bind hlen (Ev.bind hlen ?_)
      have e1 : wrap64 ((p : Int) + (d.length : Int)) = ((p + d.length : Nat) : Int) := by rw [w64 (by omega) (by omega)]; omega
      have e2 : wrap64 (((p + d.length : Nat) : Int) + (n : Int)) = ((p + d.length + n : Nat) : Int) := by rw [w64 (by omega) (by omega)]; omega
      have e3 : wrap64 (((p + d.length + n : Nat) : Int) - (n : Int)) = ((p + d.length : Nat) : Int) := by rw [w64 (by omega) (by omega)]; omega
      refine Ev.congr (fun k => ?_) hE
      rw [e1, e2, e3, if_pos (Int.natCast_nonneg (p + d.length)), if_pos (Int.ofNat_le.2 (Nat.le_add_right (p + d.length) n)), if_pos (Int.ofNat_le.2 hle), Int.toNat_natCast, Int.toNat_natCast]
/-- Where a number wasn't written as short as may be, there is no record. -/
theorem dead {l : List Int} {a : Int} (hb : byt_ l) (hl : l.length ≤ 2000) (ha : 0 ≤ a ∧ a < 256) : ∀ (m i p : Nat) (x y z : Int), i + m = (many_ a).toNat → p ≤ l.length → (nl_ i x y z).length + 1 < p → i64_ x → i64_ y → i64_ z →
    ∃ r, Ev (fun k => regletref23_One.l0 k l p i a 0 0 0 none_ x y z) r ∧ r.2.2.2.2.2 = 0
  | 0, i, p, x, y, z, hi, hp, hn, hx, hy, hz => by
    have hm := many_range a
    have hni : ¬ (i : Int) < many_ a := by omega
    have en : nums_ ([x, y, z].take (many_ a).toNat) = nl_ i x y z := by rw [← hi]; rfl
    by_cases h1 : a = 1
    · subst h1
      rcases ref_text (x := x) (y := y) (z := z) hb hl hni hp with ⟨r, h, h0, _⟩ | ⟨d, n, hv, hu, hle, h⟩
      · exact ⟨r, h, h0⟩
      · have hbd : byt_ (l.drop p) := fun x hx => hb x (List.mem_of_mem_drop hx)
        obtain ⟨d1, d2, d3, d4, d5⟩ := vs_spec 10 (l.drop p) d hbd hv
        have hs : (strOfNums ((l.take (p + d.length + n)).drop (p + d.length))).size = n := by
          rw [strOfNums_size, List.length_drop, List.length_take]; omega
        obtain ⟨r, h2, h0⟩ := j2_no (l := l) (p := p + d.length + n) (a := 1) (b := x) (c := y) (d := z) (t := strOfNums ((l.take (p + d.length + n)).drop (p + d.length))) (by rw [hs]; omega) hx hy hz hle (by omega) (fun _ => by
          have hL := (zig_leb d4 d1 d2).2.2
          rw [hu] at hL
          unfold rbytes_ tail_
          rw [if_pos rfl, en, List.length_append, List.length_append, List.length_append, bytesOf_length, hs, List.length_singleton]
          generalize (leb_ 10 (n : Int)).length = q at hL ⊢
          generalize (nl_ i x y z).length = q2 at hn ⊢
          omega)
        exact ⟨r, h r h2, h0⟩
    · obtain ⟨r, h2, h0⟩ := j2_no (l := l) (p := p) (a := a) (b := x) (c := y) (d := z) (t := none_) (by decide) hx hy hz hp (by omega) (fun _ => by
          unfold rbytes_ tail_
          rw [if_neg h1, en, List.length_append, List.length_append, List.length_nil, List.length_singleton]
          omega)
      refine ⟨r, Ev.step (fun k => ?_) h2, h0⟩
      rw [regletref23_One.l0, many_f, Option.bind_some, if_neg hni, if_neg h1]
  | m + 1, i, p, x, y, z, hi, hp, hn, hx, hy, hz => by
    have hm := many_range a
    rcases ref_step (a := a) (x := x) (y := y) (z := z) hb hl (i := i) (by omega) hp with ⟨r, h, h0, _⟩ | ⟨d, hv, hq, h⟩
    · exact ⟨r, h, h0⟩
    · have hbd : byt_ (l.drop p) := fun x hx => hb x (List.mem_of_mem_drop hx)
      obtain ⟨d1, d2, d3, d4, d5⟩ := vs_spec 10 (l.drop p) d hbd hv
      rw [List.length_drop] at d3
      have hu := unz_i64 (uu_pos d4) (small10 d4 d1 d2 hq)
      have hL := (zig_leb d4 d1 d2).2.2
      obtain ⟨r, h2, h0⟩ := dead hb hl ha m (i + 1) (p + d.length) _ _ _ (by omega) (by omega) (by
        rw [nl_up (by omega), List.length_append, zig_unz (uu_pos d4)]
        generalize (leb_ 10 (uu_ d)).length = q at hL ⊢
        generalize (nl_ i x y z).length = q2 at hn ⊢
        omega) (up_i64 (i := i) (j := 0) hu hx) (up_i64 (i := i) (j := 1) hu hy) (up_i64 (i := i) (j := 2) hu hz)
      exact ⟨r, h r h2, h0⟩
end Go.Proofs.Ytkgpnegebpkhlaa.PJournalReads
