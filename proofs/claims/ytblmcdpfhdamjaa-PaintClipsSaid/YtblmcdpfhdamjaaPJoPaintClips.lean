import Derived.Test.YtblmcdpfhdamjaaPPaintClipsx
/-! Our own text: bands that are kept, sorted, joined. -/
namespace Go.Proofs.Ytblmcdpfhdamjaa.PPaintClips
set_option linter.unusedVariables false
set_option linter.unusedSimpArgs false
open Go.RowKit hiding wrap64
open Go.Proofs.YtblmcdpfhdamjaaW.PrintWords hiding mx mn

theorem w64 {x : Int} (h0 : -9223372036854775808 ≤ x) (h1 : x ≤ 9223372036854775807) : wrap64 x = x := by rw [wrap64_def]; omega
theorem upN {i : Nat} (h : i < 9223372036854775807) : wrap64 ((i : Int) + 1) = ((i + 1 : Nat) : Int) := by rw [w64 (by omega) (by omega)]; omega
theorem dropI {α : Type} {l t : List α} {i : Nat} {n : α} (z : α) (h : l.drop i = n :: t) : i < l.length ∧ l.getD i z = n ∧ l.drop (i + 1) = t := by
  have h1 : i < l.length := by
    rcases Nat.lt_or_ge i l.length with h1 | h1
    · exact h1
    · rw [List.drop_eq_nil_of_le h1] at h; cases h
  rw [List.drop_eq_getElem_cons h1] at h
  injection h with h2 h3
  refine ⟨h1, ?_, h3⟩
  rw [List.getD_eq_getElem?_getD, List.getElem?_eq_getElem h1, h2]; rfl
theorem dropN {α : Type} {l : List α} {i : Nat} (h : l.drop i = []) : l.length ≤ i := by
  have := congrArg List.length h
  rw [List.length_drop, List.length_nil] at this
  omega
theorem d90 {l t : List S90} {i : Nat} {n : S90} (h : l.drop i = n :: t) : i < l.length ∧ rd_T90 l (i : Int) = n ∧ l.drop (i + 1) = t := by
  have := dropI z90 h
  unfold rd_T90; rw [Int.toNat_natCast]; exact this
theorem g90 {l : List S90} {i : Nat} (h : i < l.length) : rd_T90 l (i : Int) = l[i] := (d90 (List.drop_eq_getElem_cons h)).2.1
theorem d56 {l t : List S56} {i : Nat} {n : S56} (h : l.drop i = n :: t) : i < l.length ∧ rd_T56 l (i : Int) = n ∧ l.drop (i + 1) = t := by
  have := dropI z56 h
  unfold rd_T56; rw [Int.toNat_natCast]; exact this
theorem g56 {l : List S56} {i : Nat} (h : i < l.length) : rd_T56 l (i : Int) = l[i] := (d56 (List.drop_eq_getElem_cons h)).2.1

/-! ### Bands that are kept -/
def keep (b : S90) : Bool := decide (b.f1 < b.f2)
theorem j1_f (b : S90) : paint_Join_1.f b.f0 b.f1 b.f2 = some (!keep b) := by
  unfold paint_Join_1.f keep
  congr 1
  by_cases h : b.f1 < b.f2
  · rw [decide_eq_true h, decide_eq_false (by omega)]; rfl
  · rw [decide_eq_false h, decide_eq_true (by omega)]; rfl
theorem take_succ' {l : List S90} {i : Nat} (h : i < l.length) : l.take (i + 1) = l.take i ++ [l[i]] := (List.take_append_getElem h).symm
theorem idx_l0 {l : List S90} (hl : l.length ≤ 100000) : ∀ d i : Nat, i + d = l.length → (l.take i).filter keep = l.take i →
    ∃ r : Int, Ev (fun k => slices_IndexFunc.l0 k l (l.length : Int) (i : Int)) r ∧ ((r = -1 ∧ l.filter keep = l) ∨ ∃ j : Nat, r = (j : Int) ∧ j < l.length ∧ (l.take (j + 1)).filter keep = l.take j)
  | 0, i, h, hk => ⟨-1, Ev.step (fun k => by rw [slices_IndexFunc.l0, if_neg (by omega)]) (Ev.now _), .inl ⟨rfl, by rwa [List.take_of_length_le (by omega)] at hk⟩⟩
  | d + 1, i, h, hk => by
    have hi : i < l.length := by omega
    cases c : keep l[i] with
    | true =>
      obtain ⟨r, h1, h2⟩ := idx_l0 hl d (i + 1) (by omega) (by rw [take_succ' hi, List.filter_append, hk, List.filter_cons_of_pos c]; rfl)
      exact ⟨r, Ev.step (fun k => by rw [slices_IndexFunc.l0, if_pos (by omega), if_pos (by omega), if_pos (by omega), g90 hi, j1_f, Option.bind_some, c, if_neg (by simp), upN (by omega)]) h1, h2⟩
    | false =>
      exact ⟨(i : Int), Ev.step (fun k => by rw [slices_IndexFunc.l0, if_pos (by omega), if_pos (by omega), if_pos (by omega), g90 hi, j1_f, Option.bind_some, c, if_pos (by simp)]) (Ev.now _),
        .inr ⟨i, rfl, hi, by rw [take_succ' hi, List.filter_append, hk, List.filter_cons_of_neg (by simp [c])]; simp⟩⟩
theorem del_l0 {l : List S90} (hl : l.length ≤ 100000) : ∀ (d j i : Nat) (x : List S90), j + d = l.length → i ≤ j → x.length = l.length → x.take i = (l.take j).filter keep → x.drop j = l.drop j → Ev (fun k => slices_DeleteFunc.l0 k x (i : Int) (j : Int)) (l.filter keep)
  | 0, j, i, x, h, hij, hx, h1, h2 => by
    refine Ev.step (fun k => by rw [slices_DeleteFunc.l0, if_neg (by omega), if_pos (by omega), if_pos (by omega), Int.toNat_natCast]) ?_
    rw [List.take_of_length_le (l := l) (by omega)] at h1
    have : ((x.take i ++ List.replicate (x.length - i) z90 ++ x.drop x.length).take i) = l.filter keep := by
      rw [List.append_assoc, List.take_append_of_le_length (by rw [List.length_take]; omega), List.take_take, Nat.min_self, h1]
    rw [this]
    exact Ev.now _
  | d + 1, j, i, x, h, hij, hx, h1, h2 => by
    have hj : j < l.length := by omega
    have hjx : j < x.length := by omega
    have hxj : x[j] = l[j] := by
      rw [List.drop_eq_getElem_cons hjx, List.drop_eq_getElem_cons hj] at h2
      injection h2
    have h3 : x.drop (j + 1) = l.drop (j + 1) := by
      rw [List.drop_eq_getElem_cons hjx, List.drop_eq_getElem_cons hj] at h2
      injection h2
    cases c : keep l[j] with
    | true =>
      have ih := del_l0 hl d (j + 1) (i + 1) (x.set i l[j]) (by omega) (by omega) (by rw [List.length_set]; exact hx) (by
        rw [take_succ' hj, List.filter_append, List.filter_cons_of_pos c, ← h1, take_succ' (by rw [List.length_set]; omega), List.getElem_set_self, List.take_set_of_le (Nat.le_refl _)]; rfl) (by
        rw [List.drop_set_of_lt (by omega)]; exact h3)
      refine Ev.step (fun k => ?_) ih
      rw [slices_DeleteFunc.l0, if_pos (by omega), if_pos (by omega), g90 hjx, hxj, j1_f, Option.bind_some, c, if_neg (by simp), if_pos (by omega), if_pos (by omega), upN (by omega), upN (by omega), Int.toNat_natCast]
    | false =>
      have ih := del_l0 hl d (j + 1) i x (by omega) (by omega) hx (by rw [take_succ' hj, List.filter_append, List.filter_cons_of_neg (by simp [c]), ← h1]; simp) h3
      refine Ev.step (fun k => ?_) ih
      rw [slices_DeleteFunc.l0, if_pos (by omega), if_pos (by omega), g90 hjx, hxj, j1_f, Option.bind_some, c, if_pos (by simp), upN (by omega)]
theorem del_ev {l : List S90} (hl : l.length ≤ 100000) : Ev (fun k => slices_DeleteFunc.f k l) (l.filter keep) := by
  unfold slices_DeleteFunc.f slices_IndexFunc.f
  obtain ⟨r, h1, h2⟩ := idx_l0 hl l.length 0 (by omega) rfl
  refine Ev.bind h1 ?_
  rcases h2 with ⟨rfl, h2⟩ | ⟨j, rfl, hj, h2⟩
  · rw [h2]; exact Ev.congr (fun k => if_pos rfl) (Ev.now _)
  · refine Ev.congr (fun k => by rw [if_neg (by omega), upN (by omega)]) (del_l0 hl (l.length - (j + 1)) (j + 1) j l (by omega) (by omega) rfl h2.symm rfl)

/-! ### Bands in order -/
/-- One band lies ahead of another one, with something between. -/
def Lt (x y : S90) : Prop := x.f0 < y.f0 ∨ x.f0 = y.f0 ∧ x.f2 < y.f1
structure Td (l : List S90) : Prop where
  pw : l.Pairwise Lt
  ne : ∀ b ∈ l, b.f1 < b.f2
def InP (l : List S90) (p y : Int) : Prop := ∃ b ∈ l, b.f0 = p ∧ b.f1 ≤ y ∧ y < b.f2
def Le (x y : S90) : Prop := x.f0 < y.f0 ∨ x.f0 = y.f0 ∧ x.f1 ≤ y.f1
def jstep (o : List S90) (b : S90) : List S90 := match o.getLast? with
  | some c => if c.f0 = b.f0 ∧ b.f1 ≤ c.f2 then o.dropLast ++ [⟨c.f0, c.f1, mx c.f2 b.f2⟩] else o ++ [b]
  | none => o ++ [b]
theorem jstep_snoc (o : List S90) (c b : S90) : jstep (o ++ [c]) b = if c.f0 = b.f0 ∧ b.f1 ≤ c.f2 then o ++ [⟨c.f0, c.f1, mx c.f2 b.f2⟩] else (o ++ [c]) ++ [b] := by
  unfold jstep
  rw [List.getLast?_concat]
  simp only [List.dropLast_concat]
theorem jstep_len (o : List S90) (b : S90) : (jstep o b).length ≤ o.length + 1 := by
  rcases List.eq_nil_or_concat o with rfl | ⟨o', c, rfl⟩
  · simp [jstep]
  · rw [List.concat_eq_append, jstep_snoc]; split <;> simp
theorem join_l0 {L : List S90} (hL : L.length ≤ 100000) : ∀ (t : List S90) (i : Nat) (o : List S90), L.drop i = t → o.length ≤ i → Ev (fun k => paint_Join.l0 k L o (L.length : Int) (i : Int)) (t.foldl jstep o)
  | [], i, o, h, ho => by
    have := dropN h
    exact Ev.step (fun k => by rw [paint_Join.l0, if_neg (by omega)]; rfl) (Ev.now _)
  | b :: t, i, o, h, ho => by
    obtain ⟨h1, h2, h3⟩ := d90 h
    have ih := join_l0 hL t (i + 1) (jstep o b) h3 (by have := jstep_len o b; omega)
    refine Ev.step (fun k => ?_) ih
    rw [paint_Join.l0, if_pos (by omega), if_pos (by omega), if_pos (by omega), h2, upN (by omega)]
    rcases List.eq_nil_or_concat o with rfl | ⟨o', c, rfl⟩
    · rw [w64 (by simp) (by simp), if_neg (by simp), if_pos (by simp)]; rfl
    · rw [List.concat_eq_append] at ho ⊢
      rw [List.length_append, List.length_singleton] at ho
      have hw : wrap64 (((o' ++ [c]).length : Int) - 1) = (o'.length : Int) := by rw [List.length_append, List.length_singleton, w64 (by omega) (by omega)]; omega
      have hc : rd_T90 (o' ++ [c]) (o'.length : Int) = c := by rw [g90 (by simp)]; simp
      rw [hw, if_pos (by omega), if_pos (by rw [List.length_append, List.length_singleton]; omega), hc, jstep_snoc, Int.toNat_natCast, List.set_append_right _ _ (Nat.le_refl _), Nat.sub_self, List.set_cons_zero]
      have hp : (o' ++ [c]).length < 5864062014805 := by rw [List.length_append, List.length_singleton]; omega
      by_cases c1 : c.f0 = b.f0
      · by_cases c2 : b.f1 ≤ c.f2
        · rw [if_pos c1, if_pos c2, if_pos ⟨c1, c2⟩]
        · rw [if_pos c1, if_neg c2, if_pos hp, if_neg (fun h => c2 h.2)]
      · rw [if_neg c1, if_pos hp, if_neg (fun h => c1 h.1)]
theorem Lt.trans {x y z : S90} (hy : y.f1 < y.f2) (h1 : Lt x y) (h2 : Lt y z) : Lt x z := by unfold Lt at *; omega
theorem jstep_ok {o t : List S90} {b : S90} (ho : Td o) (hb : b.f1 < b.f2) (hl : ∀ c ∈ o.getLast?, Le c b) (hs : ∀ x ∈ t, Le b x) :
    Td (jstep o b) ∧ (∀ c ∈ (jstep o b).getLast?, ∀ x ∈ t, Le c x) ∧ ∀ p y, InP (jstep o b) p y ↔ InP o p y ∨ InP [b] p y := by
  rcases List.eq_nil_or_concat o with rfl | ⟨o', c, rfl⟩
  · refine ⟨⟨by simp [jstep], by simp [jstep, hb]⟩, by simpa [jstep] using hs, fun p y => by simp [jstep, InP]⟩
  · rw [List.concat_eq_append] at ho hl ⊢
    have hcb : Le c b := hl c (by simp)
    have hcn : c.f1 < c.f2 := ho.ne c (by simp)
    have hpw := List.pairwise_append.1 ho.pw
    have m1 : ∀ u v : Int, u ≤ mx u v ∧ v ≤ mx u v ∧ (mx u v = u ∨ mx u v = v) := fun u v => by unfold mx; omega
    have m := m1 c.f2 b.f2
    rw [jstep_snoc]
    by_cases h : c.f0 = b.f0 ∧ b.f1 ≤ c.f2
    · rw [if_pos h]
      obtain ⟨e1, e2⟩ := h
      have e3 : c.f1 ≤ b.f1 := by unfold Le at hcb; omega
      refine ⟨⟨List.pairwise_append.2 ⟨hpw.1, by simp, fun x hx z hz => ?_⟩, fun x hx => ?_⟩, fun d hd x hx => ?_, fun p y => ?_⟩
      · rw [List.mem_singleton] at hz; subst hz
        have := hpw.2.2 x hx c (by simp)
        exact this
      · rcases List.mem_append.1 hx with hx | hx
        · exact ho.ne x (by simp [hx])
        · rw [List.mem_singleton] at hx; subst hx
          show c.f1 < mx c.f2 b.f2; omega
      · rw [List.getLast?_concat] at hd; cases hd
        have := hs x hx
        unfold Le at *
        simp only
        omega
      · constructor
        · rintro ⟨x, hx, h1, h2, h3⟩
          rcases List.mem_append.1 hx with hx | hx
          · exact .inl ⟨x, by simp [hx], h1, h2, h3⟩
          · rw [List.mem_singleton] at hx; subst hx
            simp only at h1 h2 h3
            by_cases g : y < c.f2
            · exact .inl ⟨c, by simp, h1, h2, g⟩
            · exact .inr ⟨b, by simp, by omega, by omega, by omega⟩
        · rintro (⟨x, hx, h1, h2, h3⟩ | ⟨x, hx, h1, h2, h3⟩)
          · rcases List.mem_append.1 hx with hx | hx
            · exact ⟨x, by simp [hx], h1, h2, h3⟩
            · rw [List.mem_singleton] at hx; subst hx
              exact ⟨_, List.mem_append_right _ (List.mem_singleton_self _), h1, h2, by simp only; omega⟩
          · rw [List.mem_singleton] at hx; subst hx
            exact ⟨_, List.mem_append_right _ (List.mem_singleton_self _), by simp only; omega, by simp only; omega, by simp only; omega⟩
    · rw [if_neg h]
      have hlt : Lt c b := by unfold Lt; unfold Le at hcb; omega
      refine ⟨⟨List.pairwise_append.2 ⟨ho.pw, by simp, fun x hx z hz => ?_⟩, fun x hx => ?_⟩, fun d hd x hx => ?_, fun p y => ?_⟩
      · rw [List.mem_singleton] at hz; subst hz
        rcases List.mem_append.1 hx with hx | hx
        · exact Lt.trans hcn (hpw.2.2 x hx c (by simp)) hlt
        · rw [List.mem_singleton] at hx; subst hx; exact hlt
      · rcases List.mem_append.1 hx with hx | hx
        · exact ho.ne x hx
        · rw [List.mem_singleton] at hx; subst hx; exact hb
      · rw [List.getLast?_concat] at hd; cases hd
        exact hs x hx
      · constructor
        · rintro ⟨x, hx, h1⟩
          rcases List.mem_append.1 hx with hx | hx
          · exact .inl ⟨x, hx, h1⟩
          · exact .inr ⟨x, hx, h1⟩
        · rintro (⟨x, hx, h1⟩ | ⟨x, hx, h1⟩)
          · exact ⟨x, List.mem_append_left _ hx, h1⟩
          · exact ⟨x, List.mem_append_right _ hx, h1⟩
theorem jfold_ok : ∀ (t o : List S90), Td o → (∀ b ∈ t, b.f1 < b.f2) → t.Pairwise Le → (∀ c ∈ o.getLast?, ∀ x ∈ t, Le c x) → Td (t.foldl jstep o) ∧ (t.foldl jstep o).length ≤ o.length + t.length ∧ ∀ p y, InP (t.foldl jstep o) p y ↔ InP o p y ∨ InP t p y
  | [], o, ho, _, _, _ => ⟨ho, by simp, fun p y => by simp [InP]⟩
  | b :: t, o, ho, hb, hs, hl => by
    rw [List.pairwise_cons] at hs
    obtain ⟨h1, h2, h3⟩ := jstep_ok ho (hb b (by simp)) (fun c hc => hl c hc b (by simp)) hs.1
    obtain ⟨g1, g2, g3⟩ := jfold_ok t (jstep o b) h1 (fun x hx => hb x (by simp [hx])) hs.2 h2
    have hlen := jstep_len o b
    refine ⟨g1, by rw [List.foldl_cons, List.length_cons]; omega, fun p y => ?_⟩
    rw [List.foldl_cons, g3 p y, h3 p y]
    simp only [InP, List.mem_cons, List.not_mem_nil, or_false, exists_eq_or_imp, exists_eq_left, or_assoc]
theorem bandSort_le (m : List S90) : (bandSort m).Pairwise Le := by
  have h : (bandSort m).Pairwise (fun x y => (!bandLt y x) = true) := by
    unfold bandSort
    refine List.pairwise_mergeSort (le := fun x y => !bandLt y x) (fun a b c h1 h2 => ?_) (fun a b => ?_) m
    · unfold bandLt at *
      simp only [Bool.not_eq_true', decide_eq_false_iff_not] at *
      omega
    · unfold bandLt
      by_cases h : b.f0 < a.f0 ∨ b.f0 = a.f0 ∧ (b.f1 < a.f1 ∨ b.f1 = a.f1 ∧ b.f2 < a.f2)
      · have : ¬ (a.f0 < b.f0 ∨ a.f0 = b.f0 ∧ (a.f1 < b.f1 ∨ a.f1 = b.f1 ∧ a.f2 < b.f2)) := by omega
        simp [this]
      · simp [h]
  refine h.imp (fun {x y} h => ?_)
  unfold bandLt at h
  simp only [Bool.not_eq_true', decide_eq_false_iff_not] at h
  unfold Le; omega
theorem join_ev {l : List S90} (hl : l.length ≤ 1000) : ∃ o, Ev (fun k => paint_Join.f k l) o ∧ o.length ≤ l.length ∧ Td o ∧ ∀ p y, InP o p y ↔ InP l p y := by
  have hperm : (bandSort (l.filter keep)).Perm (l.filter keep) := List.mergeSort_perm _ _
  have hlen : (bandSort (l.filter keep)).length ≤ l.length := by rw [hperm.length_eq]; exact List.length_filter_le _ _
  have hne : ∀ b ∈ bandSort (l.filter keep), b.f1 < b.f2 := fun b hb => by
    have := (List.mem_filter.1 (hperm.mem_iff.1 hb)).2
    unfold keep at this; simpa using this
  obtain ⟨h1, h2, h3⟩ := jfold_ok (bandSort (l.filter keep)) [] ⟨List.Pairwise.nil, by simp⟩ hne (bandSort_le _) (by simp)
  refine ⟨_, ?_, by have : (([] : List S90)).length = 0 := rfl; omega, h1, fun p y => ?_⟩
  · unfold paint_Join.f slices_Clone.f
    refine Ev.congr (fun k => by rw [if_pos (by omega), Option.bind_some]) (Ev.bind (del_ev (by omega)) ?_)
    have hf : (l.filter keep).length ≤ l.length := List.length_filter_le _ _
    exact Ev.congr (fun k => if_pos (by omega)) (join_l0 (by omega) _ 0 [] rfl (by simp))
  · rw [h3 p y]
    constructor
    · rintro (⟨x, hx, _⟩ | ⟨x, hx, e⟩)
      · simp at hx
      · exact ⟨x, (List.mem_filter.1 (hperm.mem_iff.1 hx)).1, e⟩
    · rintro ⟨x, hx, e⟩
      refine .inr ⟨x, hperm.mem_iff.2 (List.mem_filter.2 ⟨hx, ?_⟩), e⟩
      unfold keep; rw [decide_eq_true_eq]; omega
def tb_ (d : S90) : S56 := ⟨d.f0, d.f1, d.f2⟩
theorem bands_l0 {l : List S90} (hl : l.length ≤ 100000) : ∀ (t : List S90) (i : Nat) (acc : List S56), l.drop i = t → acc.length = i → Ev (fun k => regletlaw21_bands.l0 k l acc (i : Int)) (acc ++ t.map tb_)
  | [], i, acc, h, ha => by
    have := dropN h
    exact Ev.step (fun k => by rw [regletlaw21_bands.l0, if_neg (by omega)]; simp) (Ev.now _)
  | m :: t, i, acc, h, ha => by
    obtain ⟨g1, g2, g3⟩ := d90 h
    have ih := bands_l0 hl t (i + 1) (acc ++ [tb_ m]) g3 (by simp [ha])
    rw [List.append_assoc] at ih
    refine Ev.step (fun k => ?_) ih
    rw [regletlaw21_bands.l0, if_pos (by omega), if_pos (by omega), if_pos (by omega), g2, upN (by omega)]
    rfl
theorem bands_ev {l : List S90} (hl : l.length ≤ 100000) : Ev (fun k => regletlaw21_bands.f k l) (l.map tb_) := bands_l0 hl l 0 [] rfl rfl
theorem gm {l : List S90} {i : Nat} (h : i < l.length) : rd_T56 (l.map tb_) (i : Int) = tb_ l[i] := by rw [g56 (by rw [List.length_map]; exact h), List.getElem_map]
theorem tidy_l0 {l : List S90} (hl : l.length ≤ 100000) (ht : Td l) : ∀ d i : Nat, i + d = l.length → Ev (fun k => regletref21_Tidy.l0 k (l.map tb_) (i : Int)) true
  | 0, i, h => Ev.step (fun k => by rw [regletref21_Tidy.l0, if_neg (by rw [List.length_map]; omega)]) (Ev.now true)
  | d + 1, i, h => by
    have hi : i < l.length := by omega
    have ih := tidy_l0 hl ht d (i + 1) (by omega)
    have h1 := ht.ne _ (List.getElem_mem hi)
    have hz : ∀ b : S90, (tb_ b).f0 = b.f0 ∧ (tb_ b).f1 = b.f1 ∧ (tb_ b).f2 = b.f2 := fun b => ⟨rfl, rfl, rfl⟩
    by_cases c : i = 0
    · subst c
      refine Ev.step (fun k => ?_) ih
      rw [regletref21_Tidy.l0, if_pos (by rw [List.length_map]; omega), if_pos (by omega), gm hi, if_neg (by rw [(hz _).2.1, (hz _).2.2]; omega), if_neg (by omega), upN (by omega)]
    · have hw : wrap64 ((i : Int) - 1) = ((i - 1 : Nat) : Int) := by rw [w64 (by omega) (by omega)]; omega
      have hp : Lt l[i - 1] l[i] := List.pairwise_iff_getElem.1 ht.pw (i - 1) i (by omega) hi (by omega)
      unfold Lt at hp
      refine Ev.step (fun k => ?_) ih
      rw [regletref21_Tidy.l0, if_pos (by rw [List.length_map]; omega), if_pos (by omega), gm hi, if_neg (by rw [(hz _).2.1, (hz _).2.2]; omega), if_pos (by omega), hw, if_pos (by omega), if_pos (by rw [List.length_map]; omega), gm (show i - 1 < l.length by omega), (hz _).1, (hz _).1, (hz _).2.1, (hz _).2.2, if_neg (by omega), upN (by omega)]
      by_cases c2 : l[i].f0 = l[i - 1].f0
      · rw [if_pos c2, if_neg (by omega)]
      · rw [if_neg c2]
theorem tidy_ev {l : List S90} (hl : l.length ≤ 100000) (ht : Td l) : Ev (fun k => regletref21_Tidy.f k (l.map tb_)) true := by
  unfold regletref21_Tidy.f
  exact tidy_l0 hl ht l.length 0 (by omega)
theorem in_l0 {l : List S90} (hl : l.length ≤ 100000) (p y : Int) : ∀ (t : List S90) (i : Nat), l.drop i = t → ∃ r, Ev (fun k => regletref21_In.l0 k (l.map tb_) p y (i : Int)) r ∧ (r = true ↔ InP t p y)
  | [], i, h => by
    have := dropN h
    exact ⟨false, Ev.step (fun k => by rw [regletref21_In.l0, if_neg (by rw [List.length_map]; omega)]) (Ev.now _), by simp [InP]⟩
  | b :: t, i, h => by
    obtain ⟨h1, h2, h3⟩ := d90 h
    have hb : l[i] = b := by rw [← h2, g90 h1]
    obtain ⟨r, g1, g2⟩ := in_l0 hl p y t (i + 1) h3
    have hi : InP (b :: t) p y ↔ (b.f0 = p ∧ b.f1 ≤ y ∧ y < b.f2) ∨ InP t p y := by simp [InP]
    have hz : (tb_ b).f0 = b.f0 ∧ (tb_ b).f1 = b.f1 ∧ (tb_ b).f2 = b.f2 := ⟨rfl, rfl, rfl⟩
    have hs : ∀ k, regletref21_In.l0 (k + 1) (l.map tb_) p y (i : Int) = if b.f0 = p then (if b.f1 ≤ y then (if y < b.f2 then some true else regletref21_In.l0 k (l.map tb_) p y ((i + 1 : Nat) : Int)) else regletref21_In.l0 k (l.map tb_) p y ((i + 1 : Nat) : Int)) else regletref21_In.l0 k (l.map tb_) p y ((i + 1 : Nat) : Int) := fun k => by
      rw [regletref21_In.l0, if_pos (by rw [List.length_map]; omega), if_pos (by omega), gm h1, hb, hz.1, hz.2.1, hz.2.2, upN (by omega)]
    by_cases c : b.f0 = p ∧ b.f1 ≤ y ∧ y < b.f2
    · exact ⟨true, Ev.step hs (Ev.congr (fun k => by rw [if_pos c.1, if_pos c.2.1, if_pos c.2.2]) (Ev.now true)), by rw [hi]; simp [c]⟩
    · refine ⟨r, Ev.step hs (Ev.congr (fun k => ?_) g1), by rw [hi, g2]; simp [c]⟩
      (repeat' split) <;> first | rfl | (exfalso; exact c ⟨by assumption, by assumption, by assumption⟩)
theorem in_ev {l : List S90} (hl : l.length ≤ 100000) (p y : Int) : ∃ r, Ev (fun k => regletref21_In.f k (l.map tb_) p y) r ∧ (r = true ↔ InP l p y) := by
  unfold regletref21_In.f
  exact in_l0 hl p y l 0 rfl
end Go.Proofs.Ytblmcdpfhdamjaa.PPaintClips
