/-
Records written one behind the other and read again are the same, and of their bytes, cut anywhere, those records are read that are whole: the pure statement of the law JournalBack. No condition.
-/
import Derived.Test.YtkgpnegebpkhlaaOpensJournalBack
import Derived.Test.YtkgpnegebpkhlaaJBackTwoJournalBack
namespace Go.Proofs.Ytkgpnegebpkhlaa.Pure
set_option linter.unusedVariables false
open Go.RowKit Go.Proofs.Ytkgpnegebpkhlaa.PJournalBack Go.Proofs.YtkgpnegebpkhlaaW.PrintWords Go.Proofs.YtkgpnegebpkhlaaW.PrintLast

theorem awake_ev : Ev (fun k => regletlaw23_awake.f k) true :=
  Ev.of (fun k => regletlaw23_awake.mono k) (k := 40) (by decide +kernel)
/-- x7 tells where each of the records ends. -/
def ends_ (ks : List S24) (x7 : List Int) : Prop := x7.length = ks.length ∧ ∀ i, i < ks.length → rd x7 (i : Int) = ((en_ ks (i + 1) : Nat) : Int)
theorem bs_small {ks : List S24} (hg : ∀ r ∈ ks, GoodR r) (hk : ks.length ≤ 40) : (bs_ ks).length ≤ 16000 := by
  have := bs_len (l := ks) (fun r hr => (hg r hr).toFit)
  omega
theorem last_ev {ks : List S24} {x7 : List Int} (hg : ∀ r ∈ ks, GoodR r) (hk : ks.length ≤ 40) (h7 : ends_ ks x7) {q : Nat} (hq : q ≤ (bs_ ks).length) :
    Ev (fun k => regletlaw23_JournalBack.j4 k (q : Int) ks (bs_ ks) x7 ((wh_ ks q : Nat) : Int)) true := by
  obtain ⟨hw, hen, hnx⟩ := wh_spec ks q
  have hs := bs_small hg hk
  have hlen : ((bs_ ks).take q).length = q := by rw [List.length_take]; omega
  have hp := parse_cut (ks := ks) (q := q) hg (by omega)
  rw [hlen] at hp
  have ht : (ks.take (wh_ ks q)).length ≤ 2000 := by rw [List.length_take]; omega
  refine Ev.step (fun k => by rw [regletlaw23_JournalBack.j4, if_pos (Int.natCast_nonneg q), if_pos (Int.ofNat_le.2 hq), Int.toNat_natCast]) (Ev.bind hp ?_)
  refine Ev.bind (refs_ev ht) ?_
  refine Ev.congr (fun k => by rw [if_pos (Int.natCast_nonneg _), if_pos (Int.ofNat_le.2 hw), Int.toNat_natCast]) ?_
  refine Ev.bind (refs_ev ht) (Ev.bind (same_ev (by rw [List.length_map]; exact ht)) ?_)
  refine Ev.congr (fun k => ?_) (Ev.now true)
  rw [if_pos rfl, if_pos (Int.ofNat_le.2 hen)]
  have hb : (((if en_ ks (wh_ ks q) = q then (0 : Int) else 230) == 0) == (((en_ ks (wh_ ks q) : Nat) : Int) == (q : Int))) = true := by
    by_cases h : en_ ks (wh_ ks q) = q
    · rw [if_pos h, h]; simp
    · have h5 : (((en_ ks (wh_ ks q) : Nat) : Int) == (q : Int)) = false := by rw [beq_eq_false_iff_ne]; omega
      rw [if_neg h, h5]; rfl
  rw [if_pos hb]
  obtain ⟨h7a, h7b⟩ := h7
  generalize wh_ ks q = w at *
  cases w with
  | zero => rw [if_pos (by rfl), if_pos (by rfl)]
  | succ v =>
    have e1 : wrap64 (((v + 1 : Nat) : Int) - 1) = (v : Int) := by rw [w64 (by omega) (by omega)]; omega
    have e2 := h7b v hw
    rw [if_neg (by omega), if_pos (by omega), e1, if_pos (Int.natCast_nonneg v), if_pos (by rw [h7a]; omega), e2]
    simp
theorem count_ev {ks : List S24} {x7 : List Int} (hg : ∀ r ∈ ks, GoodR r) (hk : ks.length ≤ 40) (h7 : ends_ ks x7) {q : Nat} (hq : q ≤ (bs_ ks).length) : ∀ (m i : Nat), i + m = ks.length → i ≤ wh_ ks q →
    Ev (fun k => regletlaw23_JournalBack.l1 k (q : Int) ks (bs_ ks) x7 (i : Int)) true
  | 0, i, h, hi => by
    have hw := (wh_spec ks q).1
    have e : wh_ ks q = i := by omega
    have := last_ev hg hk h7 hq
    rw [e] at this
    have h7a := h7.1
    exact Ev.step (fun k => by rw [regletlaw23_JournalBack.l1, if_neg (by omega)]) this
  | m + 1, i, h, hi => by
    have h7a := h7.1
    have e2 := h7.2 i (by omega)
    obtain ⟨hw, hen, hnx⟩ := wh_spec ks q
    by_cases c : i < wh_ ks q
    · have ih := count_ev hg hk h7 hq m (i + 1) (by omega) c
      have hm := en_mono (l := ks) (i := i + 1) (j := wh_ ks q) c
      refine Ev.step (fun k => ?_) ih
      rw [regletlaw23_JournalBack.l1, if_pos (by omega), if_pos (Int.natCast_nonneg i), e2, if_pos (Int.ofNat_le.2 (Nat.le_trans hm hen)), upJ (by omega)]
    · have e : wh_ ks q = i := by omega
      have hl := last_ev hg hk h7 hq
      rw [e] at hl hnx
      have hn := hnx (by omega)
      refine Ev.step (fun k => ?_) hl
      rw [regletlaw23_JournalBack.l1, if_pos (by omega), if_pos (Int.natCast_nonneg i), e2, if_neg (by omega)]
theorem end_ev {x0 ks : List S24} {a1 : Int} {x7 : List Int} (hx : x0.length ≤ 40) (hf : ∀ r ∈ x0, Fit r) (hg : ∀ r ∈ ks, GoodR r) (hk : ks.length ≤ 40) (h7 : ends_ ks x7) (he : okl_ x0 = ks) :
    Ev (fun k => regletlaw23_JournalBack.l0 k x0 a1 ks (bs_ ks) x7 (x0.length : Int)) true := by
  have hs := bs_small hg hk
  have hb := bytes_ev hx hf
  rw [he] at hb
  have hp := parse_cut (ks := ks) (q := (bs_ ks).length) hg (by rw [List.take_length]; omega)
  rw [List.take_length, wh_all (Nat.le_refl _), List.take_length, en_all, if_pos rfl] at hp
  refine Ev.step (fun k => by rw [regletlaw23_JournalBack.l0, if_neg (by omega)]) (Ev.bind hb ?_)
  refine Ev.congr (fun k => by rw [if_pos rfl]) (Ev.bind hp ?_)
  refine Ev.congr (fun k => by rw [if_pos rfl, if_pos rfl]) ?_
  have h20 : ks.length ≤ 2000 := by omega
  refine Ev.bind (refs_ev h20) (Ev.bind (refs_ev h20) (Ev.bind (same_ev (by rw [List.length_map]; omega)) ?_))
  have off : Ev (fun k => regletlaw23_JournalBack.j2 k a1 ks (bs_ ks) x7 true) true :=
    Ev.step (fun k => by rw [regletlaw23_JournalBack.j2, if_pos rfl]) (Ev.now _)
  by_cases c : a1 < 0
  · refine Ev.step (fun k => ?_) off
    rw [show (!true) = false from rfl, regletlaw23_JournalBack.j1, if_neg (by decide), if_pos c]
  · by_cases c2 : a1 > ((bs_ ks).length : Int)
    · refine Ev.step (fun k => ?_) off
      rw [show (!true) = false from rfl, regletlaw23_JournalBack.j1, if_neg (by decide), if_neg c, decide_eq_true c2]
    · obtain ⟨q, rfl⟩ : ∃ q : Nat, a1 = (q : Int) := ⟨a1.toNat, by omega⟩
      have hc := count_ev hg hk h7 (q := q) (by omega) ks.length 0 (by omega) (Nat.zero_le _)
      have hj : Ev (fun k => regletlaw23_JournalBack.j2 k (q : Int) ks (bs_ ks) x7 false) true := by
        refine Ev.step (fun k => ?_) hc
        rw [regletlaw23_JournalBack.j2, if_neg (by decide)]
        rfl
      refine Ev.step (fun k => ?_) hj
      rw [show (!true) = false from rfl, regletlaw23_JournalBack.j1, if_neg (by decide), if_neg c, decide_eq_false c2]
theorem gd1_ {l m : List Int} {i : Nat} (h : i < l.length) : (l ++ m).getD i 0 = l.getD i 0 := by
  simp [List.getD_eq_getElem?_getD, List.getElem?_append_left h]
theorem gd2_ {l : List Int} {v : Int} : (l ++ [v]).getD l.length 0 = v := by
  simp [List.getD_eq_getElem?_getD]
theorem ends_snoc {ks : List S24} {x7 : List Int} {r : S24} (h : ends_ ks x7) : ends_ (ks ++ [r]) (x7 ++ [((bs_ (ks ++ [r])).length : Int)]) := by
  obtain ⟨a, b⟩ := h
  refine ⟨by simp [a], fun i hi => ?_⟩
  rw [List.length_append, List.length_singleton] at hi
  unfold rd en_
  rw [Int.toNat_natCast]
  by_cases c : i < ks.length
  · have := b i c
    unfold rd en_ at this
    rw [Int.toNat_natCast] at this
    rw [List.take_append_of_le_length (by omega), ← this, gd1_ (by omega)]
  · have e : i = ks.length := by omega
    subst e
    rw [List.take_of_length_le (by rw [List.length_append, List.length_singleton]; exact Nat.le_refl _), ← a, gd2_]
theorem build_ev {x0 : List S24} {a1 : Int} (hx : x0.length ≤ 40) (hf : ∀ r ∈ x0, Fit r) : ∀ (t : List S24) (i : Nat) (ks : List S24) (x7 : List Int), x0.drop i = t → (∀ r ∈ ks, GoodR r) → ks.length ≤ i → i ≤ x0.length → ends_ ks x7 → okl_ x0 = ks ++ okl_ t →
    Ev (fun k => regletlaw23_JournalBack.l0 k x0 a1 ks (bs_ ks) x7 (i : Int)) true
  | [], i, ks, x7, h, hg, hk, hi, h7, he => by
    have := dropK h
    have e : i = x0.length := by omega
    subst e
    have e2 : ks ++ okl_ [] = ks := by simp [okl_]
    rw [e2] at he
    exact end_ev hx hf hg (by omega) h7 he
  | r :: t, i, ks, x7, h, hg, hk, hi, h7, he => by
    obtain ⟨h1, h2, h3⟩ := at24 h
    have hr := hf r (List.mem_of_mem_drop (i := i) (by rw [h]; simp))
    have hn := hr.n
    have hs := bs_small hg (by omega)
    have h7a := h7.1
    have ha := append_ev (a := r.f0) (b := r.f1) (c := r.f2) (d := r.f3) (t := r.f4) (l := bs_ ks) (by omega) (by omega) hr.x hr.y hr.z
    refine Ev.step (fun k => by rw [regletlaw23_JournalBack.l0, if_pos (Int.ofNat_lt.2 h1), if_pos (Int.natCast_nonneg i), h2]) (Ev.bind (jright_ev (by omega)) ?_)
    by_cases c : rcode_ r.f0 r.f1 r.f2 r.f3 r.f4 = 0
    · have ec : rc_ r = 0 := c
      have e : okl_ (r :: t) = r :: okl_ t := by simp [okl_, ec]
      have hg2 : ∀ s ∈ ks ++ [r], GoodR s := fun s hs => by
        rcases List.mem_append.1 hs with g | g
        · exact hg s g
        · rw [List.mem_singleton] at g; subst g; exact ⟨hr, ec⟩
      have ih := build_ev (a1 := a1) hx hf t (i + 1) (ks ++ [r]) (x7 ++ [((bs_ (ks ++ [r])).length : Int)]) h3 hg2 (by rw [List.length_append, List.length_singleton]; omega) (by omega) (ends_snoc h7) (by rw [he, e, List.append_assoc]; rfl)
      rw [if_pos c] at ha
      refine Ev.congr (fun k => by rw [if_pos c, if_pos (by omega)]) (Ev.bind ha ?_)
      refine Ev.congr (fun k => ?_) ih
      rw [if_pos (by omega), upJ (by omega)]
      have eb : bs_ (ks ++ [r]) = bs_ ks ++ rbytes_ r.f0 r.f1 r.f2 r.f3 r.f4 := by rw [bs_append]; simp [bs_, rb_]
      rw [eb]
    · have ec : ¬ rc_ r = 0 := c
      have e : okl_ (r :: t) = okl_ t := by simp [okl_, ec]
      have ih := build_ev (a1 := a1) hx hf t (i + 1) ks x7 h3 hg (by omega) (by omega) h7 (by rw [he, e])
      refine Ev.congr (fun k => ?_) ih
      rw [if_neg c, upJ (by omega)]
theorem JournalBack : regletlaw23_JournalBack.PureX := by
  intro l a hl ha
  obtain ⟨hl1, hl2⟩ := hl
  suffices h : Ev (fun k => regletlaw23_JournalBack.f k l a) true by obtain ⟨K, h⟩ := h; exact ⟨K, h K (Nat.le_refl _)⟩
  unfold regletlaw23_JournalBack.f
  refine Ev.bind awake_ev ?_
  refine Ev.congr (fun k => by rw [if_pos rfl]) ?_
  obtain ⟨b, hb, hb2⟩ := few_ev l
  refine Ev.bind hb ?_
  cases b with
  | false => exact Ev.congr (fun k => by rw [if_neg (by decide)]) (Ev.now true)
  | true =>
    obtain ⟨hn, hs⟩ := hb2 rfl
    have hf : ∀ r ∈ l, Fit r := fun r hr => by
      obtain ⟨g0, g1, g2, g3, g4⟩ := hl2 r hr
      exact ⟨lit64 g0, lit64 g1, lit64 g2, lit64 g3, hs r hr⟩
    refine Ev.congr (fun k => by rw [if_pos rfl]) ?_
    exact build_ev hn hf l 0 [] [] rfl (fun r hr => by cases hr) (Nat.zero_le _) (Nat.zero_le _) ⟨rfl, fun i hi => by cases hi⟩ rfl
end Go.Proofs.Ytkgpnegebpkhlaa.Pure
