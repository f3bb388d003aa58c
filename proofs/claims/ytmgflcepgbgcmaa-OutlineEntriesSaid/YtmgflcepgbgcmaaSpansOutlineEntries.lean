import Derived.Test.YtmgflcepgbgcmaaPOutlineEntriesx
/-! Our own text: numbers that rise, told as spans, the program's and the reference's. -/
namespace Go.Proofs.Ytmgflcepgbgcmaa.POutlineEntries
set_option linter.unusedVariables false
open Go.RowKit Go.Proofs.YtmgflcepgbgcmaaW.PrintWords

theorem w64s {x : Int} (h0 : -9223372036854775808 ≤ x) (h1 : x ≤ 9223372036854775807) : wrap64 x = x := by unfold wrap64; omega
theorem lit64s {n : Int} (h : (Lit.int .i64 n).wf = true) : -9223372036854775808 ≤ n ∧ n ≤ 9223372036854775807 := by
  simp [Lit.wf, IntKind.min, IntKind.max, IntKind.signed, IntKind.bits] at h
  exact ⟨by omega, by omega⟩
/-- Numbers above b that rise, all below 2^40. -/
def Rise : Int → List Int → Prop
  | _, [] => True
  | b, n :: t => b < n ∧ 0 ≤ n ∧ n < 1099511627776 ∧ Rise n t
/-- The spans of numbers behind those that are told already; y is the last one. -/
def spans_ : List S38 → S38 → List Int → List S38
  | p, y, [] => p ++ [y]
  | p, y, n :: t => if y.f1 = n - 1 then spans_ p ⟨y.f0, n⟩ t else spans_ (p ++ [y]) ⟨n, n⟩ t
def spansOf : List Int → List S38
  | [] => []
  | n :: t => spans_ [] ⟨n, n⟩ t
def tot_ (l : List S38) : Int := (l.map (fun x => x.f1 - x.f0 + 1)).sum
theorem tot_app (l m : List S38) : tot_ (l ++ m) = tot_ l + tot_ m := by unfold tot_; rw [List.map_append, List.sum_append_int]
theorem tot_one (x : S38) : tot_ [x] = x.f1 - x.f0 + 1 := by unfold tot_; simp
def In_ (x : S38) : Prop := 0 ≤ x.f0 ∧ x.f0 ≤ x.f1 ∧ x.f1 < 1099511627776
def Ap_ (x y : S38) : Prop := x.f1 + 1 < y.f0
theorem spans_facts : ∀ (t : List Int) (p : List S38) (y : S38), Rise y.f1 t → (∀ x ∈ p, In_ x) → In_ y → List.Pairwise Ap_ (p ++ [y]) →
    (∀ x ∈ spans_ p y t, In_ x) ∧ List.Pairwise Ap_ (spans_ p y t) ∧ tot_ (spans_ p y t) = tot_ p + (y.f1 - y.f0 + 1) + t.length ∧ (spans_ p y t).length ≤ p.length + 1 + t.length
  | [], p, y, _, hp, hy, hq => by
    unfold spans_
    refine ⟨fun x hx => ?_, hq, ?_, ?_⟩
    · rcases List.mem_append.1 hx with h | h
      · exact hp x h
      · rw [List.mem_singleton.1 h]; exact hy
    · rw [tot_app, tot_one]; simp
    · simp
  | n :: t, p, y, hr, hp, hy, hq => by
    obtain ⟨r1, r2, r3, r4⟩ := hr
    unfold In_ at hy
    unfold spans_
    by_cases c : y.f1 = n - 1
    · rw [if_pos c]
      have := spans_facts t p ⟨y.f0, n⟩ r4 hp (by unfold In_; dsimp only; omega) (by
        rw [List.pairwise_append] at hq ⊢
        refine ⟨hq.1, List.pairwise_singleton _ _, fun a ha b hb => ?_⟩
        rw [List.mem_singleton.1 hb]
        exact hq.2.2 a ha y (List.mem_singleton.2 rfl))
      refine ⟨this.1, this.2.1, ?_, ?_⟩
      · rw [this.2.2.1]; simp only [List.length_cons]; omega
      · have := this.2.2.2; simp only [List.length_cons]; omega
    · rw [if_neg c]
      have := spans_facts t (p ++ [y]) ⟨n, n⟩ r4 (fun x hx => by
        rcases List.mem_append.1 hx with h | h
        · exact hp x h
        · rw [List.mem_singleton.1 h]; exact hy) (by unfold In_; dsimp only; omega) (by
        rw [List.pairwise_append]
        refine ⟨hq, List.pairwise_singleton _ _, fun a ha b hb => ?_⟩
        rw [List.mem_singleton.1 hb]
        unfold Ap_
        dsimp only
        rcases List.mem_append.1 ha with h | h
        · have h1 := (List.pairwise_append.1 hq).2.2 a h y (List.mem_singleton.2 rfl)
          unfold Ap_ at h1
          omega
        · rw [List.mem_singleton.1 h]; omega)
      refine ⟨this.1, this.2.1, ?_, ?_⟩
      · rw [this.2.2.1, tot_app, tot_one]; simp only [List.length_cons]; omega
      · have := this.2.2.2; simp only [List.length_cons, List.length_append, List.length_nil] at this ⊢; omega
theorem spansOf_facts {l : List Int} (h : Rise (-1) l) : (∀ x ∈ spansOf l, In_ x) ∧ List.Pairwise Ap_ (spansOf l) ∧ tot_ (spansOf l) = l.length ∧ (spansOf l).length ≤ l.length := by
  cases l with
  | nil => exact ⟨fun x hx => (by cases hx), List.Pairwise.nil, rfl, Nat.le_refl _⟩
  | cons n t =>
    obtain ⟨r1, r2, r3, r4⟩ := h
    have := spans_facts t [] ⟨n, n⟩ r4 (fun x hx => (by cases hx)) (by unfold In_; dsimp only; omega) (by rw [List.nil_append]; exact List.pairwise_singleton _ _)
    refine ⟨this.1, this.2.1, ?_, ?_⟩
    · show tot_ (spans_ [] ⟨n, n⟩ t) = _
      rw [this.2.2.1]; simp only [List.length_cons, tot_, List.map_nil, List.sum_nil]; omega
    · have := this.2.2.2; show (spans_ [] ⟨n, n⟩ t).length ≤ _; simp only [List.length_cons, List.length_nil] at this ⊢; omega

theorem drop_at {l t : List Int} {i : Nat} {n : Int} (h : l.drop i = n :: t) : i < l.length ∧ rd l (i : Int) = n ∧ l.drop (i + 1) = t := by
  have h1 : i < l.length := by
    rcases Nat.lt_or_ge i l.length with h1 | h1
    · exact h1
    · rw [List.drop_eq_nil_of_le h1] at h; cases h
  rw [List.drop_eq_getElem_cons h1] at h
  injection h with h2 h3
  refine ⟨h1, ?_, h3⟩
  unfold rd
  rw [Int.toNat_natCast, List.getD_eq_getElem?_getD, List.getElem?_eq_getElem h1, h2]; rfl
theorem drop_end {l : List Int} {i : Nat} (hi : i ≤ l.length) (h : l.drop i = []) : i = l.length := by
  have := congrArg List.length h
  rw [List.length_drop, List.length_nil] at this
  omega
theorem rd38_last (p : List S38) (y : S38) : rd_T38 (p ++ [y]) (p.length : Int) = y := by
  unfold rd_T38
  rw [Int.toNat_natCast, List.getD_eq_getElem?_getD, List.getElem?_append_right (Nat.le_refl _)]
  simp
theorem set_last (p : List S38) (y z : S38) : (p ++ [y]).set p.length z = p ++ [z] := by
  rw [List.set_append_right _ _ (Nat.le_refl _)]; simp

/-! ### do numbers rise? -/
theorem rising_l0 {l : List Int} (hl : l.length ≤ 1000) (hb : ∀ x ∈ l, -9223372036854775808 ≤ x ∧ x ≤ 9223372036854775807) : ∀ (t : List Int) (i : Nat) (b : Int), i ≤ l.length → l.drop i = t → (i = 0 ∧ b = -1 ∨ 0 < i ∧ rd l ((i : Int) - 1) = b) →
    ∃ r, Ev (fun k => regletlaw22_rising.l0 k l (i : Int)) r ∧ (r = true → Rise b t)
  | [], i, b, hi, hd, hbb => by
    have := drop_end hi hd
    refine ⟨true, Ev.step (fun k => by rw [regletlaw22_rising.l0, if_neg (by omega)]) (Ev.now _), fun _ => trivial⟩
  | n :: t, i, b, hi, hd, hbb => by
    obtain ⟨h1, h2, h3⟩ := drop_at hd
    have hw : wrap64 ((i : Int) + 1) = ((i + 1 : Nat) : Int) := by rw [w64s (by omega) (by omega)]; omega
    obtain ⟨r, p, q⟩ := rising_l0 hl hb t (i + 1) n (by omega) h3 (.inr ⟨by omega, by rw [show (((i + 1 : Nat) : Int) - 1) = (i : Int) by omega]; exact h2⟩)
    by_cases c1 : n < 0
    · exact ⟨false, Ev.step (fun k => by rw [regletlaw22_rising.l0, if_pos (by omega), if_pos (by omega), h2, if_pos c1]) (Ev.now _), fun h => by cases h⟩
    by_cases c2 : n ≥ 1099511627776
    · exact ⟨false, Ev.step (fun k => by rw [regletlaw22_rising.l0, if_pos (by omega), if_pos (by omega), h2, if_neg c1, if_pos c2]) (Ev.now _), fun h => by cases h⟩
    by_cases c3 : (i : Int) > 0
    · have hw1 : wrap64 ((i : Int) - 1) = (i : Int) - 1 := w64s (by omega) (by omega)
      have hb1 : rd l ((i : Int) - 1) = b := by rcases hbb with h | h; · omega
                                                exact h.2
      by_cases c4 : n ≤ b
      · exact ⟨false, Ev.step (fun k => by rw [regletlaw22_rising.l0, if_pos (by omega), if_pos (by omega), h2, if_neg c1, if_neg c2, if_pos c3, hw1, if_pos (by omega), if_pos (by omega), hb1, if_pos c4]) (Ev.now _), fun h => by cases h⟩
      · refine ⟨r, Ev.step (fun k => by rw [regletlaw22_rising.l0, if_pos (by omega), if_pos (by omega), h2, if_neg c1, if_neg c2, if_pos c3, hw1, if_pos (by omega), if_pos (by omega), hb1, if_neg c4, hw]) p, fun h => ⟨by omega, by omega, by omega, q h⟩⟩
    · have : b = -1 := by rcases hbb with h | h; · exact h.2
                          omega
      refine ⟨r, Ev.step (fun k => by rw [regletlaw22_rising.l0, if_pos (by omega), if_pos (by omega), h2, if_neg c1, if_neg c2, if_neg c3, hw]) p, fun h => ⟨by omega, by omega, by omega, q h⟩⟩
theorem rising_ev {l : List Int} (hl : l.length ≤ 1000) (hb : ∀ x ∈ l, -9223372036854775808 ≤ x ∧ x ≤ 9223372036854775807) : ∃ r, Ev (fun k => regletlaw22_rising.f k l) r ∧ (r = true → Rise (-1) l) :=
  rising_l0 hl hb l 0 (-1) (Nat.zero_le _) rfl (.inl ⟨rfl, rfl⟩)

/-! ### the program's spans -/
theorem pspans_l0 {l : List Int} (hl : l.length ≤ 1000) : ∀ (t : List Int) (i : Nat) (p : List S38) (y : S38), i ≤ l.length → l.drop i = t → Rise y.f1 t → p.length + 1 ≤ i →
    Ev (fun k => outline_Spans.l0 k (p ++ [y]) l (l.length : Int) (i : Int)) (spans_ p y t)
  | [], i, p, y, hi, hd, hr, hp => by
    have := drop_end hi hd
    exact Ev.step (fun k => by rw [outline_Spans.l0, if_neg (by omega)]; rfl) (Ev.now _)
  | n :: t, i, p, y, hi, hd, hr, hp => by
    obtain ⟨h1, h2, h3⟩ := drop_at hd
    obtain ⟨r1, r2, r3, r4⟩ := hr
    have hw : wrap64 ((i : Int) + 1) = ((i + 1 : Nat) : Int) := by rw [w64s (by omega) (by omega)]; omega
    have hlen : ((p ++ [y]).length : Int) = (p.length : Int) + 1 := by simp
    have hlen' : (p ++ [y]).length = p.length + 1 := by simp
    have hk : wrap64 (((p ++ [y]).length : Int) - 1) = (p.length : Int) := by rw [hlen, w64s (by omega) (by omega)]; omega
    have hn : wrap64 (n - 1) = n - 1 := w64s (by omega) (by omega)
    unfold spans_
    by_cases c : y.f1 = n - 1
    · rw [if_pos c]
      refine Ev.step (fun k => by rw [outline_Spans.l0, if_pos (by omega), if_pos (by omega), if_pos (by omega), hk, if_pos (by omega), if_pos (by omega), if_pos (by omega), rd38_last, h2, hn, if_pos c, Int.toNat_natCast, set_last, hw]) ?_
      exact pspans_l0 hl t (i + 1) p ⟨y.f0, n⟩ (by omega) h3 r4 (by omega)
    · rw [if_neg c]
      refine Ev.step (fun k => by rw [outline_Spans.l0, if_pos (by omega), if_pos (by omega), if_pos (by omega), hk, if_pos (by omega), if_pos (by omega), if_pos (by omega), rd38_last, h2, hn, if_neg c, if_pos (by omega), hw]) ?_
      exact pspans_l0 hl t (i + 1) (p ++ [y]) ⟨n, n⟩ (by omega) h3 r4 (by omega)
theorem pspans_ev {l : List Int} (hl : l.length ≤ 1000) (hr : Rise (-1) l) : Ev (fun k => outline_Spans.f k l) (spansOf l) := by
  unfold outline_Spans.f
  cases l with
  | nil => exact Ev.step (fun k => by rw [outline_Spans.l0, if_neg (by simp)]; rfl) (Ev.now _)
  | cons n t =>
    obtain ⟨h1, h2, h3⟩ := drop_at (l := n :: t) (i := 0) (n := n) (t := t) rfl
    have hw : wrap64 ((0 : Int) + 1) = ((0 + 1 : Nat) : Int) := by decide +kernel
    have hk : wrap64 ((([] : List S38).length : Int) - 1) = -1 := by decide +kernel
    refine Ev.step (fun k => by rw [outline_Spans.l0, if_pos (by omega), if_pos (by omega), if_pos (by omega), hk, if_neg (by omega), if_pos (by decide), List.nil_append, hw]) ?_
    have h4 : rd (n :: t) 0 = n := h2
    rw [h4]
    exact pspans_l0 hl t 1 [] ⟨n, n⟩ (by simp) rfl hr.2.2.2 (by simp)

/-! ### the reference's spans -/
theorem rspans_l0 {l : List Int} (hl : l.length ≤ 1000) : ∀ (t : List Int) (i : Nat) (p : List S38) (y : S38), i ≤ l.length → 0 < i → l.drop i = t → Rise y.f1 t → p.length + 1 ≤ i → rd l ((i : Int) - 1) = y.f1 →
    Ev (fun k => regletref22_Spans.l0 k l (p ++ [y]) (i : Int)) (spans_ p y t)
  | [], i, p, y, hi, hi0, hd, hr, hp, hy => by
    have := drop_end hi hd
    exact Ev.step (fun k => by rw [regletref22_Spans.l0, if_neg (by omega)]; rfl) (Ev.now _)
  | n :: t, i, p, y, hi, hi0, hd, hr, hp, hy => by
    obtain ⟨h1, h2, h3⟩ := drop_at hd
    obtain ⟨r1, r2, r3, r4⟩ := hr
    have hw : wrap64 ((i : Int) + 1) = ((i + 1 : Nat) : Int) := by rw [w64s (by omega) (by omega)]; omega
    have hw1 : wrap64 ((i : Int) - 1) = (i : Int) - 1 := w64s (by omega) (by omega)
    have hlen : ((p ++ [y]).length : Int) = (p.length : Int) + 1 := by simp
    have hlen' : (p ++ [y]).length = p.length + 1 := by simp
    have hk : wrap64 (((p ++ [y]).length : Int) - 1) = (p.length : Int) := by rw [hlen, w64s (by omega) (by omega)]; omega
    have hn : wrap64 (n - 1) = n - 1 := w64s (by omega) (by omega)
    have hy2 : rd l (((i + 1 : Nat) : Int) - 1) = n := by rw [show (((i + 1 : Nat) : Int) - 1) = (i : Int) by omega]; exact h2
    unfold spans_
    by_cases c : y.f1 = n - 1
    · rw [if_pos c]
      refine Ev.step (fun k => by rw [regletref22_Spans.l0, if_pos (by omega), if_pos (by omega), if_pos (by omega), hw1, if_pos (by omega), if_pos (by omega), h2, hn, hy, if_pos c.symm, hk, if_pos (by omega), if_pos (by omega), rd38_last, Int.toNat_natCast, set_last, hw]) ?_
      exact rspans_l0 hl t (i + 1) p ⟨y.f0, n⟩ (by omega) (by omega) h3 r4 (by omega) hy2
    · rw [if_neg c]
      refine Ev.step (fun k => by rw [regletref22_Spans.l0, if_pos (by omega), if_pos (by omega), if_pos (by omega), hw1, if_pos (by omega), if_pos (by omega), h2, hn, hy, if_neg (fun h => c h.symm), if_pos (by omega), hw]) ?_
      exact rspans_l0 hl t (i + 1) (p ++ [y]) ⟨n, n⟩ (by omega) (by omega) h3 r4 (by omega) hy2
theorem rspans_ev {l : List Int} (hl : l.length ≤ 1000) (hr : Rise (-1) l) : Ev (fun k => regletref22_Spans.f k l) (spansOf l) := by
  unfold regletref22_Spans.f
  cases l with
  | nil => exact Ev.step (fun k => by rw [regletref22_Spans.l0, if_neg (by simp)]; rfl) (Ev.now _)
  | cons n t =>
    obtain ⟨h1, h2, h3⟩ := drop_at (l := n :: t) (i := 0) (n := n) (t := t) rfl
    have hw : wrap64 ((0 : Int) + 1) = ((0 + 1 : Nat) : Int) := by decide +kernel
    have h4 : rd (n :: t) 0 = n := h2
    refine Ev.step (fun k => by rw [regletref22_Spans.l0, if_pos (by omega), if_neg (by omega), if_pos (by omega), if_pos (by decide), List.nil_append, hw, h4]) ?_
    exact rspans_l0 hl t 1 [] ⟨n, n⟩ (by simp) (by omega) rfl hr.2.2.2 (by simp) (by rw [show (((1 : Nat) : Int) - 1) = 0 by omega]; exact h4)
end Go.Proofs.Ytmgflcepgbgcmaa.POutlineEntries
