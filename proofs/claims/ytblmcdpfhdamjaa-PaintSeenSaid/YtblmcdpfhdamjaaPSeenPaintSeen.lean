import Derived.Test.YtblmcdpfhdamjaaRLin3PaintSeen
/-! Our own text: what is drawn of a line, mark behind mark. -/
namespace Go.Proofs.Ytblmcdpfhdamjaa.PPaintSeen
set_option linter.unusedVariables false
set_option linter.unusedSimpArgs false
open Go.RowKit Go.Proofs.YtblmcdpfhdamjaaW.PrintWords

theorem loop_of (l : List UInt8) : ∀ (n i : Nat) (r : List UInt8), l.length - i = n → ByteArray.toList.loop ⟨l.toArray⟩ i r = r.reverse ++ l.drop i := by
  have hsz : (⟨l.toArray⟩ : ByteArray).size = l.length := by simp [ByteArray.size]
  intro n
  induction n with
  | zero =>
    intro i r h
    rw [ByteArray.toList.loop, if_neg (by rw [hsz]; omega), List.drop_eq_nil_of_le (by omega), List.append_nil]
  | succ n ih =>
    intro i r h
    have hi : i < l.length := by omega
    have hg : (⟨l.toArray⟩ : ByteArray).get! i = l[i] := by
      show l.toArray[i]! = l[i]
      simp [hi]
    rw [ByteArray.toList.loop, if_pos (by rw [hsz]; omega), ih (i + 1) _ (by omega), hg, List.drop_eq_getElem_cons hi, List.reverse_cons, List.append_assoc, List.singleton_append]
theorem toList_of (s : ByteArray) : s.toList = s.data.toList := by
  have := loop_of s.data.toList _ 0 [] rfl
  simpa [ByteArray.toList] using this
def cat_ : List S38 → ByteArray
  | [] => ⟨#[]⟩
  | m :: t => m.f3 ++ cat_ t
theorem ba_nil (a : ByteArray) : a ++ (⟨#[]⟩ : ByteArray) = a := ByteArray.append_empty
theorem nil_ba (a : ByteArray) : (⟨#[]⟩ : ByteArray) ++ a = a := ByteArray.empty_append
theorem cat_app : ∀ (a b : List S38), cat_ (a ++ b) = cat_ a ++ cat_ b
  | [], b => (nil_ba _).symm
  | m :: t, b => by
    show m.f3 ++ cat_ (t ++ b) = (m.f3 ++ cat_ t) ++ cat_ b
    rw [cat_app t b, ByteArray.append_assoc]
theorem cat_one (m : S38) : cat_ [m] = m.f3 := ba_nil _
def dx_ (s : ByteArray) : Nat → Nat → ByteArray
  | 0, _ => ⟨#[]⟩
  | f + 1, i => if i < s.size then (if dr_ (vOf s (i : Int) (rsize_ s (i : Int))) = true then s.extract i (i + (rsize_ s (i : Int)).toNat) else ⟨#[]⟩) ++ dx_ s f (i + (rsize_ s (i : Int)).toNat) else ⟨#[]⟩
theorem dx_size {s : ByteArray} : ∀ (f i : Nat), Rt s f i → i ≤ s.size → (dx_ s f i).size ≤ s.size - i
  | 0, i, h, hi => by have := h.2; omega
  | f + 1, i, h, hi => by
    by_cases q : i < s.size
    · obtain ⟨hz, g1, g2, g3, g4⟩ := rt_step h q
      have ih := dx_size f _ g4 g2
      have ed : dx_ s (f + 1) i = (if dr_ (vOf s (i : Int) (rsize_ s (i : Int))) = true then s.extract i (i + (rsize_ s (i : Int)).toNat) else ⟨#[]⟩) ++ dx_ s f (i + (rsize_ s (i : Int)).toNat) := if_pos q
      rw [ed, ByteArray.size_append]
      split
      · rw [ext_size s _ _ g2]; omega
      · rw [show (⟨#[]⟩ : ByteArray).size = 0 from rfl]; omega
    · have ed : dx_ s (f + 1) i = ⟨#[]⟩ := if_neg q
      rw [ed, show (⟨#[]⟩ : ByteArray).size = 0 from rfl]; omega
theorem stq_cat {R : List S89} {Y : Int} {s : ByteArray} {c : Option (S38 × Bool)} {r : Int} {y z : S99} {a b : Nat} (hy : y.f0 = (a : Int)) (hz : z.f0 = (b : Int)) (o : List S38) :
    cat_ (o ++ (stq_ R Y s c r y z).1 ++ lst_ (stq_ R Y s c r y z).2) = cat_ (o ++ lst_ c) ++ (if dr_ r = true then s.extract a b else ⟨#[]⟩) := by
  have hn : (new_ R Y s y z).f3 = s.extract a b := by show s.extract y.f0.toNat z.f0.toNat = _; rw [hy, hz, Int.toNat_natCast, Int.toNat_natCast]
  have hu : ∀ m, (upd_ s m y z).f3 = m.f3 ++ s.extract a b := fun m => by show m.f3 ++ s.extract y.f0.toNat z.f0.toNat = _; rw [hy, hz, Int.toNat_natCast, Int.toNat_natCast]
  have c0 : cat_ [] = ⟨#[]⟩ := rfl
  unfold stq_
  by_cases d : dr_ r = true
  · simp only [if_pos d]
    match c with
    | none => simp only [lst_, cat_app, cat_one, hn, c0, ba_nil]
    | some (m0, false) => simp only [lst_, cat_app, cat_one, hn, c0, ba_nil]
    | some (m0, true) =>
      by_cases e : m0.f4 = sa_ R y.f0
      · simp only [if_pos e]; simp only [lst_, cat_app, cat_one, hu, c0, ba_nil, ByteArray.append_assoc]
      · simp only [if_neg e]; simp only [lst_, cat_app, cat_one, hn, c0, ba_nil]
  · simp only [if_neg d]
    match c with
    | none => simp only [lst_, cat_app, c0, ba_nil, Option.map]
    | some (m0, q) => simp only [lst_, cat_app, cat_one, c0, ba_nil, Option.map]
theorem stq_all {Q : S38 → Prop} {R : List S89} {Y : Int} {s : ByteArray} {c : Option (S38 × Bool)} {r : Int} {y z : S99} {o : List S38} (hn : Q (new_ R Y s y z)) (hu : ∀ m, Q m → Q (upd_ s m y z)) (hm : ∀ m ∈ o ++ lst_ c, Q m) :
    ∀ m ∈ o ++ (stq_ R Y s c r y z).1 ++ lst_ (stq_ R Y s c r y z).2, Q m := by
  have ho : ∀ m ∈ o, Q m := fun m h => hm m (List.mem_append_left _ h)
  have fin : ∀ (p q : List S38), (∀ m ∈ p, Q m) → (∀ m ∈ q, Q m) → ∀ m ∈ o ++ p ++ q, Q m := by
    intro p q h1 h2 m h
    rcases List.mem_append.1 h with h | h
    · rcases List.mem_append.1 h with h | h
      · exact ho m h
      · exact h1 m h
    · exact h2 m h
  unfold stq_
  by_cases d : dr_ r = true
  · simp only [if_pos d]
    match c, hm with
    | none, hm => exact fin _ _ (by simp) (by intro m h; simp [lst_] at h; subst h; exact hn)
    | some (m0, false), hm =>
      have h0 : Q m0 := hm m0 (by simp [lst_])
      exact fin _ _ (by intro m h; simp at h; subst h; exact h0) (by intro m h; simp [lst_] at h; subst h; exact hn)
    | some (m0, true), hm =>
      have h0 : Q m0 := hm m0 (by simp [lst_])
      by_cases e : m0.f4 = sa_ R y.f0
      · simp only [if_pos e]
        exact fin _ _ (by simp) (by intro m h; simp [lst_] at h; subst h; exact hu _ h0)
      · simp only [if_neg e]
        exact fin _ _ (by intro m h; simp at h; subst h; exact h0) (by intro m h; simp [lst_] at h; subst h; exact hn)
  · simp only [if_neg d]
    match c, hm with
    | none, hm => exact fin _ _ (by simp) (by simp [lst_])
    | some (m0, q), hm =>
      have h0 : Q m0 := hm m0 (by simp [lst_])
      exact fin _ _ (by simp) (by intro m h; simp [lst_] at h; subst h; exact h0)
def Mk (P : Int → Prop) (Y : Int) (m : S38) : Prop := m.f1 = Y ∧ 0 < m.f3.size ∧ P m.f0
theorem drw_seen {T : List S87} {R : List S89} {sp : Int → Int} {en : Int} {Y : Int} {s : ByteArray} {P : Int → Prop} : ∀ (f i : Nat) (x : Int) (o : List S38) (c : Option (S38 × Bool)), Rt s f i → i ≤ s.size → (∀ y ∈ stl_ T R sp en s f i x, P y.f1) → (∀ m ∈ o ++ lst_ c, Mk P Y m) →
    (∀ m ∈ drw_ R Y s (rl_ s f (i : Int)) (stl_ T R sp en s f i x) o c, Mk P Y m) ∧ cat_ (drw_ R Y s (rl_ s f (i : Int)) (stl_ T R sp en s f i x) o c) = cat_ (o ++ lst_ c) ++ dx_ s f i
  | 0, i, x, o, c, h, hi, hP, hm => by have := h.2; omega
  | f + 1, i, x, o, c, h, hi, hP, hm => by
    by_cases q : i < s.size
    · obtain ⟨hz, g1, g2, g3, g4⟩ := rt_step h q
      obtain ⟨x2, e1⟩ := stl_step (T := T) (R := R) (sp := sp) (en := en) (x := x) h q
      obtain ⟨st, e2⟩ := stl_head (T := T) (R := R) (sp := sp) (en := en) (x := x2) g4 g2
      have hP2 : ∀ y ∈ stl_ T R sp en s f (i + (rsize_ s (i : Int)).toNat) x2, P y.f1 := fun y hy => hP y (by rw [e1]; exact List.mem_cons_of_mem _ hy)
      have hPx : P x := hP (⟨(i : Int), x⟩ : S99) (by rw [e1]; exact List.mem_cons_self)
      have ed : dx_ s (f + 1) i = (if dr_ (vOf s (i : Int) (rsize_ s (i : Int))) = true then s.extract i (i + (rsize_ s (i : Int)).toNat) else ⟨#[]⟩) ++ dx_ s f (i + (rsize_ s (i : Int)).toNat) := if_pos q
      rw [ed, e1, rlq_step h q]
      generalize hi' : i + (rsize_ s (i : Int)).toNat = i' at *
      generalize hr : vOf s (i : Int) (rsize_ s (i : Int)) = r at *
      have hne : 0 < (s.extract ((i : Int)).toNat ((i' : Int)).toNat).size := by
        rw [Int.toNat_natCast, Int.toNat_natCast, ext_size s _ _ g2]; omega
      have ih := drw_seen (T := T) (R := R) (sp := sp) (en := en) (Y := Y) (P := P) f i' x2 (o ++ (stq_ R Y s c r ⟨(i : Int), x⟩ ⟨(i' : Int), x2⟩).1) (stq_ R Y s c r ⟨(i : Int), x⟩ ⟨(i' : Int), x2⟩).2 g4 g2 hP2
        (stq_all (Q := Mk P Y) ⟨rfl, hne, hPx⟩ (fun m hq => ⟨hq.1, by show 0 < (m.f3 ++ s.extract ((i : Int)).toNat ((i' : Int)).toNat).size; rw [ByteArray.size_append]; omega, hq.2.2⟩) hm)
      rw [e2] at ih ⊢
      have goal_eq : drw_ R Y s (r :: rl_ s f (i' : Int)) ((⟨(i : Int), x⟩ : S99) :: ⟨(i' : Int), x2⟩ :: st) o c = drw_ R Y s (rl_ s f (i' : Int)) (⟨(i' : Int), x2⟩ :: st) (o ++ (stq_ R Y s c r ⟨(i : Int), x⟩ ⟨(i' : Int), x2⟩).1) (stq_ R Y s c r ⟨(i : Int), x⟩ ⟨(i' : Int), x2⟩).2 := rfl
      rw [goal_eq]
      refine ⟨ih.1, ?_⟩
      rw [ih.2, stq_cat (a := i) (b := i') rfl rfl, ByteArray.append_assoc]
    · have e1 : stl_ T R sp en s (f + 1) i x = [⟨(s.size : Int), x⟩] := if_neg q
      have ed : dx_ s (f + 1) i = ⟨#[]⟩ := if_neg q
      rw [e1, rlq_end q, ed, ba_nil]
      exact ⟨hm, rfl⟩
theorem ad_pos {a b : Int} (h : 0 ≤ a) (g : 0 ≤ b) : 0 ≤ ad_ a b := by
  unfold ad_ cl_ mx mn; (repeat' split) <;> omega
theorem stl_pos {T : List S87} (hT : ∀ x ∈ T, RightS x) {R : List S89} {sp : Int → Int} {en : Int} {s : ByteArray} (hsp : ∀ i, 0 ≤ sp i) : ∀ (f i : Nat) (x : Int), 0 ≤ x → ∀ y ∈ stl_ T R sp en s f i x, 0 ≤ y.f1
  | 0, i, x, h, y, hy => by
    have : stl_ T R sp en s 0 i x = [⟨(s.size : Int), x⟩] := rfl
    rw [this, List.mem_singleton] at hy; subst hy; exact h
  | f + 1, i, x, h, y, hy => by
    by_cases c : i < s.size
    · have e : stl_ T R sp en s (f + 1) i x = (⟨(i : Int), x⟩ : S99) :: stl_ T R sp en s f (i + (rsize_ s (i : Int)).toNat) (if kd_ (vOf s (i : Int) (rsize_ s (i : Int))) = 1 then (if (i : Int) < en then ad_ x (sp (sa_ R (i : Int))) else x) else ad_ x (wd_ T (sa_ R (i : Int)) (vOf s (i : Int) (rsize_ s (i : Int))))) := if_pos c
      rw [e] at hy
      rcases List.mem_cons.1 hy with e1 | e1
      · subst e1; exact h
      · refine stl_pos hT hsp f _ _ ?_ y e1
        split
        · split
          · exact ad_pos h (hsp _)
          · exact h
        · exact ad_pos h (wd_rng hT _ _).1
    · have e : stl_ T R sp en s (f + 1) i x = [⟨(s.size : Int), x⟩] := if_neg c
      rw [e, List.mem_singleton] at hy; subst hy; exact h
theorem scl_pos {a n d : Int} (h : ¬ n < 0) : 0 ≤ scl_ a n d ∧ scl_ a n d ≤ 1152921504606846976 := by
  unfold scl_ sclP
  split
  · omega
  · rw [if_neg (by simp; omega)]
    have : min (a.toNat * (cl_ n).natAbs / (cl_ d).toNat) top_ ≤ top_ := Nat.min_le_right _ _
    generalize min (a.toNat * (cl_ n).natAbs / (cl_ d).toNat) top_ = q at *
    unfold top_ at this
    omega
theorem spw_pos {T : List S87} (hT : ∀ x ∈ T, RightS x) {n d : Int} (h : ¬ n < 0) (i : Int) : 0 ≤ spw_ T n d i := by
  have hs := (stg_right hT i).sp
  unfold spw_
  split
  · have := scl_pos (a := (stg_ T i).f2) (d := d) h
    rw [v64 (by omega) (by omega)]; omega
  · omega
end Go.Proofs.Ytblmcdpfhdamjaa.PPaintSeen
