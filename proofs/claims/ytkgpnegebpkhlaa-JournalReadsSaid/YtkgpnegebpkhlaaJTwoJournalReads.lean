import Derived.Test.YtkgpnegebpkhlaaJOneJournalReads
/-! Our own text: the program's record is the reference's. -/
namespace Go.Proofs.Ytkgpnegebpkhlaa.PJournalReads
set_option linter.unusedVariables false
open Go.RowKit Go.Proofs.YtkgpnegebpkhlaaW.PrintWords

theorem addN {a b : Nat} (h : a + b ≤ 1000000) : wrap64 ((a : Int) + (b : Int)) = ((a + b : Nat) : Int) := by rw [w64 (by omega) (by omega)]; omega
theorem ifsome {c : Prop} [Decidable c] {α : Type} (a b : α) : Ev (fun _ => if c then some a else some b) (if c then a else b) := by
  by_cases h : c
  · simp only [if_pos h]; exact Ev.now _
  · simp only [if_neg h]; exact Ev.now _
theorem nres_none : nres_ 0 0 none = (0, 0) := rfl
theorem nres_bad {d : List Int} (h : badn_ 0 d) : nres_ 0 0 (some d) = (0, 0) := if_pos h
theorem nres_good {d : List Int} (h : ¬ badn_ 0 d) : nres_ 0 0 (some d) = (uu_ d, (d.length : Int)) := by
  have e : nres_ 0 0 (some d) = (0 + uu_ d * 128 ^ 0, ((0 + d.length : Nat) : Int)) := if_neg h
  rw [e, Int.pow_zero, Int.mul_one, Int.zero_add, Nat.zero_add]
abbrev R6 := Int × Int × Int × Int × ByteArray × Int
def zero6 : R6 := (0, 0, 0, 0, none_, 0)
def rel_ (l : List Int) (p r : R6) : Prop := (p.2.2.2.2.2 = 0 ∧ r.2.2.2.2.2 = 0) ∨ (p = r ∧ ∃ n : Nat, p.2.2.2.2.2 = n ∧ 1 ≤ n ∧ n ≤ l.length)
/-- The program reads no number. -/
theorem prog_stop {l : List Int} {a : Int} {i p : Nat} {x y z : Int} (hb : byt_ l) (hl : l.length ≤ 2000) (hi : (i : Int) < many_ a) (hp : p ≤ l.length) (h : nres_ 0 0 (vs_ 10 (l.drop p)) = (0, 0)) :
    Ev (fun k => journal_one.l0 k l p (many_ a) i a x y z none_) zero6 := by
  have hbd : byt_ (l.drop p) := fun x hx => hb x (List.mem_of_mem_drop hx)
  have hv := number_v hbd (by rw [List.length_drop]; omega)
  rw [h] at hv
  refine Ev.step (fun k => by rw [journal_one.l0, if_pos hi, if_pos (Int.natCast_nonneg p), if_pos (Int.ofNat_le.2 hp), Int.toNat_natCast]) (Ev.bind hv ?_)
  exact Ev.congr (fun k => by rw [if_pos rfl]; rfl) (Ev.now zero6)
theorem prog_step {l : List Int} {a : Int} {i p : Nat} {x y z : Int} {d : List Int} {r : R6} (hb : byt_ l) (hl : l.length ≤ 2000) (hi : (i : Int) < many_ a) (hp : p ≤ l.length) (hd : vs_ 10 (l.drop p) = some d) (h : ¬ badn_ 0 d) (hu : uu_ d < 18446744073709551616)
    (hE : Ev (fun k => journal_one.l0 k l ((p + d.length : Nat) : Int) (many_ a) ((i + 1 : Nat) : Int) a (up_ i 0 (unz_ (uu_ d)) x) (up_ i 1 (unz_ (uu_ d)) y) (up_ i 2 (unz_ (uu_ d)) z) none_) r) :
    Ev (fun k => journal_one.l0 k l p (many_ a) i a x y z none_) r := by
  have hm := many_range a
  have hbd : byt_ (l.drop p) := fun x hx => hb x (List.mem_of_mem_drop hx)
  have hv := number_v hbd (by rw [List.length_drop]; omega)
  rw [hd, nres_good h] at hv
  obtain ⟨d1, d2, d3, d4, d5⟩ := vs_spec 10 (l.drop p) d hbd hd
  have h0 := uu_pos d4
  have i3 : i < 3 := by omega
  have ei := upJ (i := i) (by omega)
  refine Ev.step (fun k => by rw [journal_one.l0, if_pos hi, if_pos (Int.natCast_nonneg p), if_pos (Int.ofNat_le.2 hp), Int.toNat_natCast]) (Ev.bind hv ?_)
  have ew : wrap64 ((p : Int) + (d.length : Int)) = ((p + d.length : Nat) : Int) := addN (by omega)
  refine Ev.congr (fun k => ?_) hE
  rw [if_neg (show ¬ (d.length : Int) = 0 by omega), ew, ei, unfolded_f h0 hu]
  generalize unz_ (uu_ d) = v
  match i, i3 with
  | 0, _ => rfl
  | 1, _ => rfl
  | 2, _ => rfl
theorem jj1_stop {l : List Int} {p : Nat} {u n : Int} {a x y z : Int} {t : ByteArray} : Ev (fun k => journal_one.j1 k l p u n true a x y z t) zero6 :=
  Ev.step (fun k => by rw [journal_one.j1, if_pos rfl]; rfl) (Ev.now _)
/-- The program reads no text. -/
theorem prog_notext {l : List Int} {i p : Nat} {x y z : Int} (hb : byt_ l) (hl : l.length ≤ 2000) (hi : ¬ (i : Int) < many_ 1) (hp : p ≤ l.length)
    (h : nres_ 0 0 (vs_ 10 (l.drop p)) = (0, 0) ∨ ∃ d, vs_ 10 (l.drop p) = some d ∧ (l.length : Int) - p - d.length < uu_ d) :
    Ev (fun k => journal_one.l0 k l p (many_ 1) i 1 x y z none_) zero6 := by
  have hbd : byt_ (l.drop p) := fun x hx => hb x (List.mem_of_mem_drop hx)
  have hv := number_v hbd (by rw [List.length_drop]; omega)
  refine Ev.step (fun k => by rw [journal_one.l0, if_neg hi, if_pos rfl, if_pos (Int.natCast_nonneg p), if_pos (Int.ofNat_le.2 hp), Int.toNat_natCast]) (Ev.bind hv ?_)
  by_cases h0 : nres_ 0 0 (vs_ 10 (l.drop p)) = (0, 0)
  · rw [h0]
    exact Ev.congr (fun k => by rw [if_pos rfl]) jj1_stop
  · rcases h with h | ⟨d, hd, hq⟩
    · exact absurd h h0
    · rw [hd] at h0 ⊢
      by_cases hbad : badn_ 0 d
      · exact absurd (nres_bad hbad) h0
      rw [nres_good hbad]
      obtain ⟨d1, d2, d3, d4, d5⟩ := vs_spec 10 (l.drop p) d hbd hd
      rw [List.length_drop] at d3
      by_cases hu : uu_ d > 65536
      · exact Ev.congr (fun k => by rw [if_neg (show ¬ (d.length : Int) = 0 by omega), if_pos hu]) jj1_stop
      · have h1 := uu_pos d4
        refine Ev.congr (fun k => by rw [if_neg (show ¬ (d.length : Int) = 0 by omega), if_neg hu]) ?_
        have e : decide ((wrap64 (uu_ d)) > (wrap64 ((wrap64 ((l.length : Int) - p)) - (d.length : Int)))) = true := by
          rw [w64 (x := (l.length : Int) - p) (by omega) (by omega), w64 (x := (l.length : Int) - p - d.length) (by omega) (by omega), w64 (x := uu_ d) (by omega) (by omega)]
          exact decide_eq_true hq
        rw [e]
        exact jj1_stop
theorem prog_text {l : List Int} {i p n : Nat} {x y z : Int} {d : List Int} (hb : byt_ l) (hl : l.length ≤ 2000) (hi : ¬ (i : Int) < many_ 1) (hp : p ≤ l.length)
    (hd : vs_ 10 (l.drop p) = some d) (hbad : ¬ badn_ 0 d) (hn : uu_ d = n) (hle : p + d.length + n ≤ l.length) {t : ByteArray} (ht : t = strOfNums ((l.take (p + d.length + n)).drop (p + d.length))) (hs : (t.size : Int) ≤ 1000000) :
    Ev (fun k => journal_one.l0 k l p (many_ 1) i 1 x y z none_) (if rcode_ 1 x y z t = 0 then (1, x, y, z, t, ((p + d.length + n : Nat) : Int)) else zero6) := by
  have hbd : byt_ (l.drop p) := fun x hx => hb x (List.mem_of_mem_drop hx)
  have hv := number_v hbd (by rw [List.length_drop]; omega)
  rw [hd, nres_good hbad, hn] at hv
  obtain ⟨d1, d2, d3, d4, d5⟩ := vs_spec 10 (l.drop p) d hbd hd
  rw [List.length_drop] at d3
  refine Ev.step (fun k => by rw [journal_one.l0, if_neg hi, if_pos rfl, if_pos (Int.natCast_nonneg p), if_pos (Int.ofNat_le.2 hp), Int.toNat_natCast]) (Ev.bind hv ?_)
  refine Ev.congr (fun k => by rw [if_neg (show ¬ (d.length : Int) = 0 by omega), if_neg (show ¬ (n : Int) > 65536 by omega)]) ?_
  have h00 : wrap64 (n : Int) = (n : Int) := w64 (by omega) (by omega)
  have e : decide ((wrap64 (n : Int)) > (wrap64 ((wrap64 ((l.length : Int) - p)) - (d.length : Int)))) = false := by
    rw [w64 (x := (l.length : Int) - p) (by omega) (by omega), w64 (x := (l.length : Int) - p - d.length) (by omega) (by omega), h00]
    clear h00
    exact decide_eq_false (by omega)
  have hN : p + d.length + n ≤ 1000000 := Nat.le_trans hle (Nat.le_trans hl (by decide))
  have e1 := addN (a := p) (b := d.length) (Nat.le_trans (Nat.le_add_right _ n) hN)
  have e2 := addN (a := p + d.length) (b := n) hN
  have e0 : wrap64 (n : Int) = (n : Int) := h00
  simp only [e]
  refine Ev.step (fun k => by rw [journal_one.j1, if_neg (by decide), e0, e1, e2, if_pos (Int.natCast_nonneg (p + d.length)), if_pos (Int.ofNat_le.2 (Nat.le_add_right (p + d.length) n)), if_pos (Int.ofNat_le.2 hle), Int.toNat_natCast, Int.toNat_natCast, ← ht]) ?_
  refine Ev.bind (jright_ev hs) ?_
  exact ifsome _ zero6
theorem alive {l : List Int} {a : Int} (hb : byt_ l) (hl : l.length ≤ 2000) (ha : 0 ≤ a ∧ a < 256) : ∀ (m i p : Nat) (x y z : Int), i + m = (many_ a).toNat → p ≤ l.length → l.take p = [a] ++ nl_ i x y z → i64_ x → i64_ y → i64_ z →
    ∃ q r, Ev (fun k => journal_one.l0 k l p (many_ a) i a x y z none_) q ∧ Ev (fun k => regletref23_One.l0 k l p i a 0 0 0 none_ x y z) r ∧ rel_ l q r
  | 0, i, p, x, y, z, hi, hp, hn, hx, hy, hz => by
    have hm := many_range a
    have hni : ¬ (i : Int) < many_ a := by omega
    have en : nums_ ([x, y, z].take (many_ a).toNat) = nl_ i x y z := by rw [← hi]; rfl
    have ea : a % 256 = a := by omega
    have p1 : 1 ≤ p := by
      have := congrArg List.length hn
      rw [List.length_append, List.length_singleton, List.length_take] at this
      omega
    by_cases h1 : a = 1
    · subst h1
      rcases ref_text (x := x) (y := y) (z := z) hb hl hni hp with ⟨r, h, h0, hc⟩ | ⟨d, n, hv, hu, hle, h⟩
      · refine ⟨zero6, r, prog_notext hb hl hni hp ?_, h, .inl ⟨rfl, h0⟩⟩
        rcases hc with hc | hc
        · rw [hc]; exact .inl rfl
        · exact .inr hc
      · have hbd : byt_ (l.drop p) := fun x hx => hb x (List.mem_of_mem_drop hx)
        obtain ⟨d1, d2, d3, d4, d5⟩ := vs_spec 10 (l.drop p) d hbd hv
        have hq : ¬ (d.length = 10 ∧ 1 < la_ d) := fun h => by
          have := big10 d4 h.1 h.2
          omega
        obtain ⟨t, ht⟩ : ∃ t, t = strOfNums ((l.take (p + d.length + n)).drop (p + d.length)) := ⟨_, rfl⟩
        have hs : t.size = n := by
          rw [ht, strOfNums_size, List.length_drop, List.length_take]; omega
        rw [← ht] at h
        by_cases hbad : badn_ 0 d
        · have hcan := (canon_badn d1 hq).1 hbad
          have hL := (zig_leb d4 d1 d2).2.1 hcan
          rw [hu] at hL
          have hlen := congrArg List.length hn
          rw [List.length_append, List.length_singleton, List.length_take, Nat.min_eq_left hp] at hlen
          obtain ⟨r, h2, h0⟩ := j2_no (l := l) (p := p + d.length + n) (a := 1) (b := x) (c := y) (d := z) (t := t) (by rw [hs]; omega) hx hy hz hle (by omega) (fun _ => by
            unfold rbytes_ tail_
            rw [if_pos rfl, en, List.length_append, List.length_append, List.length_append, bytesOf_length, hs, List.length_singleton]
            generalize (leb_ 10 (n : Int)).length = q at hL ⊢
            generalize (nl_ i x y z).length = q2 at hlen ⊢
            omega)
          exact ⟨zero6, r, prog_notext hb hl hni hp (.inl (by rw [hv]; exact nres_bad hbad)), h r h2, .inl ⟨rfl, h0⟩⟩
        · have hcan : canon_ d = true := by
            cases hc : canon_ d with
            | true => rfl
            | false => exact absurd ((canon_badn d1 hq).2 hc) hbad
          have hL := (zig_leb d4 d1 d2).1 hcan
          rw [hu] at hL
          have hP := prog_text (x := x) (y := y) (z := z) hb hl hni hp hv hbad hu hle ht (by rw [hs]; omega)
          by_cases hr : rcode_ 1 x y z t = 0
          · rw [if_pos hr] at hP
            have hby : rbytes_ 1 x y z t = l.take (p + d.length + n) := by
              unfold rbytes_ tail_
              have edr : (l.take (p + d.length + n)).drop (p + d.length) = (l.drop (p + d.length)).take n := by rw [List.drop_take, Nat.add_sub_cancel_left]
              rw [if_pos rfl, en, hs, hL, d5, ea, ← hn, ht, bytes_str (fun x hx => hb x (List.mem_of_mem_take (List.mem_of_mem_drop hx))), edr]
              rw [List.take_add, List.take_add, List.append_assoc]
            exact ⟨_, _, hP, h _ (j2_yes (by rw [hs]; omega) hx hy hz hle (by omega) hr hby), .inr ⟨rfl, _, rfl, by omega, hle⟩⟩
          · rw [if_neg hr] at hP
            obtain ⟨r, h2, h0⟩ := j2_no (l := l) (p := p + d.length + n) (a := 1) (b := x) (c := y) (d := z) (t := t) (by rw [hs]; omega) hx hy hz hle (by omega) (fun h => absurd h hr)
            exact ⟨_, _, hP, h r h2, .inl ⟨rfl, h0⟩⟩
    · have start : ∀ r, Ev (fun k => regletref23_One.j2 k l p a x y z none_) r → Ev (fun k => regletref23_One.l0 k l p i a 0 0 0 none_ x y z) r := fun r h2 => by
        refine Ev.step (fun k => ?_) h2
        rw [regletref23_One.l0, many_f, Option.bind_some, if_neg hni, if_neg h1]
      have hP : Ev (fun k => journal_one.l0 k l p (many_ a) i a x y z none_) (if rcode_ a x y z none_ = 0 then (a, x, y, z, none_, (p : Int)) else zero6) := by
        refine Ev.step (fun k => by rw [journal_one.l0, if_neg hni, if_neg h1]) ?_
        refine Ev.bind (jright_ev (by decide)) ?_
        exact ifsome _ zero6
      by_cases hr : rcode_ a x y z none_ = 0
      · rw [if_pos hr] at hP
        have hby : rbytes_ a x y z none_ = l.take p := by
          unfold rbytes_ tail_
          rw [if_neg h1, en, ea, hn, List.append_nil]
        exact ⟨_, _, hP, start _ (j2_yes (by decide) hx hy hz hp (by omega) hr hby), .inr ⟨rfl, p, rfl, p1, hp⟩⟩
      · rw [if_neg hr] at hP
        obtain ⟨r, h2, h0⟩ := j2_no (l := l) (p := p) (a := a) (b := x) (c := y) (d := z) (t := none_) (by decide) hx hy hz hp (by omega) (fun h => absurd h hr)
        exact ⟨_, _, hP, start r h2, .inl ⟨rfl, h0⟩⟩
  | m + 1, i, p, x, y, z, hi, hp, hn, hx, hy, hz => by
    have hm := many_range a
    have hni : (i : Int) < many_ a := by omega
    rcases ref_step (a := a) (x := x) (y := y) (z := z) hb hl (i := i) hni hp with ⟨r, h, h0, hc⟩ | ⟨d, hv, hq, h⟩
    · refine ⟨zero6, r, prog_stop hb hl hni hp ?_, h, .inl ⟨rfl, h0⟩⟩
      rcases hc with hc | ⟨d, hc, hq⟩
      · rw [hc]; rfl
      · rw [hc]; exact nres_bad (.inl (by omega))
    · have hbd : byt_ (l.drop p) := fun x hx => hb x (List.mem_of_mem_drop hx)
      obtain ⟨d1, d2, d3, d4, d5⟩ := vs_spec 10 (l.drop p) d hbd hv
      rw [List.length_drop] at d3
      have hu := small10 d4 d1 d2 hq
      have hi64 := unz_i64 (uu_pos d4) hu
      have i3 : i < 3 := by omega
      have ux := up_i64 (i := i) (j := 0) hi64 hx
      have uy := up_i64 (i := i) (j := 1) hi64 hy
      have uz := up_i64 (i := i) (j := 2) hi64 hz
      have hup := nl_up i3 (unz_ (uu_ d)) x y z
      rw [zig_unz (uu_pos d4)] at hup
      have hpl : p + d.length ≤ l.length := by omega
      by_cases hbad : badn_ 0 d
      · have hcan := (canon_badn d1 hq).1 hbad
        have hL := (zig_leb d4 d1 d2).2.1 hcan
        have hlen := congrArg List.length hn
        rw [List.length_append, List.length_singleton, List.length_take, Nat.min_eq_left hp] at hlen
        obtain ⟨r, h2, h0⟩ := dead hb hl ha m (i + 1) (p + d.length) _ _ _ (by omega) hpl (by
          rw [hup, List.length_append]
          generalize (leb_ 10 (uu_ d)).length = q at hL ⊢
          generalize (nl_ i x y z).length = q2 at hlen ⊢
          omega) ux uy uz
        exact ⟨zero6, r, prog_stop hb hl hni hp (by rw [hv]; exact nres_bad hbad), h r h2, .inl ⟨rfl, h0⟩⟩
      · have hcan : canon_ d = true := by
          cases hc : canon_ d with
          | true => rfl
          | false => exact absurd ((canon_badn d1 hq).2 hc) hbad
        have hL := (zig_leb d4 d1 d2).1 hcan
        obtain ⟨q, r, hq2, hr2, hrel⟩ := alive hb hl ha m (i + 1) (p + d.length) _ _ _ (by omega) hpl (by
          rw [hup, hL, d5, List.take_add, hn, List.append_assoc]) ux uy uz
        exact ⟨q, r, prog_step hb hl hni hp hv hbad hu hq2, h r hr2, hrel⟩
theorem one_ev {l : List Int} (hb : byt_ l) (hl : l.length ≤ 2000) : ∃ q r, Ev (fun k => journal_one.f k l) q ∧ Ev (fun k => regletref23_One.f k l) r ∧ rel_ l q r := by
  match l, hb, hl with
  | [], _, _ => exact ⟨zero6, zero6, Ev.now _, Ev.now _, .inl ⟨rfl, rfl⟩⟩
  | c :: t, hb, hl =>
    have hc := hb c List.mem_cons_self
    have hm := many_range c
    have i0 : i64_ 0 := ⟨by omega, by omega⟩
    have e0 : rd (c :: t) 0 = c := rfl
    have ew : wrap64 c = c := w64 (by omega) (by omega)
    obtain ⟨q, r, hq, hr, hrel⟩ := alive hb hl hc (many_ c).toNat 0 1 0 0 0 (by omega) (by simp) (by simp [nl_, nums_]) i0 i0 i0
    refine ⟨q, r, ?_, ?_, hrel⟩
    · unfold journal_one.f
      refine Ev.congr (fun k => by rw [if_neg (by rw [List.length_cons]; omega), if_pos (by rw [List.length_cons]; omega), e0, ew]) ?_
      exact Ev.bind (numbers_ev c) hq
    · unfold regletref23_One.f
      refine Ev.congr (fun k => by rw [if_neg (by rw [List.length_cons]; omega), if_pos (by rw [List.length_cons]; omega), e0, ew]) ?_
      exact hr
end Go.Proofs.Ytkgpnegebpkhlaa.PJournalReads
