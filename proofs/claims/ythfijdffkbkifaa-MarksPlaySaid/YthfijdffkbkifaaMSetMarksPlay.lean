import Derived.Test.YthfijdffkbkifaaPMarksPlayx
/-! Our own text: the marks of a text and the document's answer, call by call. -/
namespace Go.Proofs.Ythfijdffkbkifaa.PMarksPlay
set_option linter.unusedVariables false
set_option linter.unusedSimpArgs false
open Go.RowKit hiding wrap64
open Go.Proofs.YthfijdffkbkifaaW.PrintWords hiding mx mn

theorem w64 {x : Int} (h0 : -9223372036854775808 ≤ x) (h1 : x ≤ 9223372036854775807) : wrap64 x = x := by rw [wrap64_def]; omega
theorem upN {i : Nat} (h : i < 9223372036854775807) : wrap64 ((i : Int) + 1) = ((i + 1 : Nat) : Int) := by rw [w64 (by omega) (by omega)]; omega
theorem dropI {α : Type} {l t : List α} {i : Nat} {n : α} (z : α) (h : l.drop i = n :: t) : i < l.length ∧ l.getD i z = n ∧ l.drop (i + 1) = t := by
  have h1 : i < l.length := by
    rcases Nat.lt_or_ge i l.length with h1 | h1
    · exact h1
    · rw [List.drop_eq_nil_of_le h1] at h; cases h
  rw [List.drop_eq_getElem_cons h1] at h
  injection h with h2 h3
  refine ⟨h1, ?_, h3⟩
  rw [List.getD_eq_getElem?_getD, List.getElem?_eq_getElem h1, h2]; rfl
theorem dropN {α : Type} {l : List α} {i : Nat} (h : l.drop i = []) : l.length ≤ i := by
  have := congrArg List.length h
  rw [List.length_drop, List.length_nil] at this
  omega
theorem d46 {l t : List S46} {i : Nat} {n : S46} (h : l.drop i = n :: t) : i < l.length ∧ rd_T46 l (i : Int) = n ∧ l.drop (i + 1) = t := by
  have := dropI z46 h
  unfold rd_T46; rw [Int.toNat_natCast]; exact this
theorem g46 {l : List S46} {i : Nat} (h : i < l.length) : rd_T46 l (i : Int) = l[i] := (d46 (List.drop_eq_getElem_cons h)).2.1
theorem d51 {l t : List S51} {i : Nat} {n : S51} (h : l.drop i = n :: t) : i < l.length ∧ rd_T51 l (i : Int) = n ∧ l.drop (i + 1) = t := by
  have := dropI z51 h
  unfold rd_T51; rw [Int.toNat_natCast]; exact this
theorem g51 {l : List S51} {i : Nat} (h : i < l.length) : rd_T51 l (i : Int) = l[i] := (d51 (List.drop_eq_getElem_cons h)).2.1
theorem d34 {l t : List S34} {i : Nat} {n : S34} (h : l.drop i = n :: t) : i < l.length ∧ rd_T34 l (i : Int) = n ∧ l.drop (i + 1) = t := by
  have := dropI z34 h
  unfold rd_T34; rw [Int.toNat_natCast]; exact this

/-- As the document has it. -/
def cv (x : S46) : S51 := ⟨x.f0, x.f1, x.f2⟩
/-- Where a mark stands. -/
def fi (l : List S46) (q : Int) : Option Nat := l.findIdx? (fun m => decide (m.f0 = q))
def at_ (o : Option Nat) (i : Nat) : Int := match o with | some j => ((i + j : Nat) : Int) | none => -1
theorem at_succ (o : Option Nat) (i : Nat) : at_ (o.map (· + 1)) i = at_ o (i + 1) := by
  cases o with
  | none => rfl
  | some j => simp only [Option.map_some, at_]; omega
theorem fi_cons (a : S46) (l : List S46) (q : Int) : fi (a :: l) q = if a.f0 = q then some 0 else (fi l q).map (· + 1) := by
  unfold fi
  rw [List.findIdx?_cons]
  by_cases h : a.f0 = q
  · simp [h]
  · simp [h]
theorem fi_lt {l : List S46} {q : Int} {j : Nat} (h : fi l q = some j) : j < l.length := by
  unfold fi at h
  exact (List.findIdx?_eq_some_iff_getElem.1 h).1
theorem index_l0 {l : List S46} {q : Int} (hl : l.length < 9223372036854775807) : ∀ (t : List S46) (i : Nat), l.drop i = t → Ev (fun k => slices_IndexFunc.l0 k l q (l.length : Int) (i : Int)) (at_ (fi t q) i)
  | [], i, h => by
    have := dropN h
    exact Ev.step (fun k => by rw [slices_IndexFunc.l0, if_neg (by omega)]; rfl) (Ev.now _)
  | a :: t, i, h => by
    obtain ⟨h1, h2, h3⟩ := d46 h
    rw [fi_cons]
    by_cases c : a.f0 = q
    · rw [if_pos c]
      exact Ev.step (fun k => by rw [slices_IndexFunc.l0, if_pos (by omega), if_pos (by omega), if_pos (by omega), h2]; unfold marks_Set_find_1.f; rw [decide_eq_true c]; rfl) (Ev.now _)
    · rw [if_neg c, at_succ]
      refine Ev.step (fun k => ?_) (index_l0 hl t (i + 1) h3)
      rw [slices_IndexFunc.l0, if_pos (by omega), if_pos (by omega), if_pos (by omega), h2, upN (by omega)]
      unfold marks_Set_find_1.f
      rw [decide_eq_false c]
      rfl
theorem find_ev {a b : Int} {l : List S46} {q : Int} (hl : l.length < 9223372036854775807) : Ev (fun k => marks_Set_find.f k a b l q) (at_ (fi l q) 0) := by
  unfold marks_Set_find.f slices_IndexFunc.f
  exact Ev.bind (index_l0 hl l 0 rfl) (Ev.now _)
theorem rfind_l0 {a b : Int} {l : List S46} {q : Int} (hl : l.length < 9223372036854775807) : ∀ (t : List S46) (i : Nat), l.drop i = t → Ev (fun k => regletref16_find.l0 k q (i : Int) a b (l.map cv)) (at_ (fi t q) i)
  | [], i, h => by
    have := dropN h
    exact Ev.step (fun k => by rw [regletref16_find.l0, List.length_map, if_neg (by omega)]; rfl) (Ev.now _)
  | x :: t, i, h => by
    obtain ⟨h1, _, h3⟩ := d46 h
    obtain ⟨_, h2, _⟩ := d51 (l := l.map cv) (i := i) (t := t.map cv) (n := cv x) (by rw [← List.map_drop, h]; rfl)
    rw [fi_cons]
    by_cases c : x.f0 = q
    · rw [if_pos c]
      exact Ev.step (fun k => by rw [regletref16_find.l0, List.length_map, if_pos (by omega), if_pos (by omega), h2, if_pos (show (cv x).f0 = q from c)]; rfl) (Ev.now _)
    · rw [if_neg c, at_succ]
      refine Ev.step (fun k => ?_) (rfind_l0 (a := a) (b := b) hl t (i + 1) h3)
      rw [regletref16_find.l0, List.length_map, if_pos (by omega), if_pos (by omega), h2, upN (by omega), if_neg (show ¬ (cv x).f0 = q from c)]
theorem rfind_ev {a b : Int} {l : List S46} {q : Int} (hl : l.length < 9223372036854775807) : Ev (fun k => regletref16_find.f k a b (l.map cv) q) (at_ (fi l q) 0) := by
  unfold regletref16_find.f
  exact rfind_l0 hl l 0 rfl

/-- What a set keeps: its size, its numbers given out, its marks. -/
structure Inv (N : Nat) (s : Int × Int × List S46) : Prop where
  s0 : 0 ≤ s.1
  s1 : s.1 ≤ 65536
  n0 : 0 ≤ s.2.1
  n1 : s.2.1 ≤ (N : Int)
  len : s.2.2.length ≤ 1024
  num : ∀ x ∈ s.2.2, 0 < x.f0 ∧ x.f0 ≤ s.2.1
  pos : ∀ x ∈ s.2.2, 0 ≤ x.f1 ∧ x.f1 ≤ s.1
  one : s.2.2.Pairwise (fun x y => x.f0 ≠ y.f0)
def insM (a n : Int) (x : S46) : S46 := if x.f1 > a ∨ x.f1 = a ∧ x.f2 = false then ⟨x.f0, x.f1 + n, x.f2⟩ else x
def delM (f t : Int) (x : S46) : S46 := if x.f1 ≥ t then ⟨x.f0, x.f1 - (t - f), x.f2⟩ else if x.f1 > f then ⟨x.f0, f, x.f2⟩ else x
/-- A call: what it answers, the set then. -/
def putS (s : Int × Int × List S46) (a : Int) (b : Bool) : Int × Int × Int × Int × List S46 :=
  if a < 0 ∨ a > s.1 then (0, 30, s) else if s.2.2.length ≥ 1024 then (0, 2, s) else (s.2.1 + 1, 0, s.1, s.2.1 + 1, s.2.2 ++ [⟨s.2.1 + 1, a, b⟩])
def insS (s : Int × Int × List S46) (a n : Int) : Int × Int × Int × List S46 :=
  if a < 0 ∨ a > s.1 then (30, s) else if n < 0 then (1, s) else if n > 65536 - s.1 then (31, s) else (0, s.1 + n, s.2.1, s.2.2.map (insM a n))
def delS (s : Int × Int × List S46) (f t : Int) : Int × Int × Int × List S46 :=
  if f < 0 ∨ t > s.1 ∨ f > t then (30, s) else (0, s.1 - (t - f), s.2.1, s.2.2.map (delM f t))
def movS (s : Int × Int × List S46) (q a : Int) : Int × Int × Int × List S46 :=
  match fi s.2.2 q with
  | none => (160, s)
  | some j => if a < 0 ∨ a > s.1 then (30, s) else (0, s.1, s.2.1, s.2.2.set j ⟨(s.2.2.getD j z46).f0, a, (s.2.2.getD j z46).f2⟩)
def drpS (s : Int × Int × List S46) (q : Int) : Int × Int × Int × List S46 :=
  match fi s.2.2 q with
  | none => (160, s)
  | some j => (0, s.1, s.2.1, s.2.2.take j ++ s.2.2.drop (j + 1))

theorem put_eq {N : Nat} {s : Int × Int × List S46} (h : Inv N s) (hN : N < 1000000) (a : Int) (b : Bool) : marks_Set_Put.f s.1 s.2.1 s.2.2 a b = some (putS s a b) := by
  obtain ⟨sz, nx, l⟩ := s
  have h2 := h.n0
  have h3 := h.n1
  simp only at h2 h3 ⊢
  unfold marks_Set_Put.f putS
  simp only
  by_cases c1 : a < 0
  · rw [if_pos c1, if_pos (.inl c1)]
  by_cases c2 : a > sz
  · rw [if_neg c1, if_pos c2, if_pos (.inr c2)]
  rw [if_neg c1, if_neg c2]
  by_cases c3 : l.length ≥ 1024
  · rw [if_pos (show (l.length : Int) ≥ 1024 by omega), if_neg (show ¬ (a < 0 ∨ a > sz) by omega), if_pos c3]
  · rw [if_neg (show ¬ (l.length : Int) ≥ 1024 by omega), if_neg (show ¬ (a < 0 ∨ a > sz) by omega), if_neg c3, w64 (by omega) (by omega)]
theorem rput_ev {N : Nat} {s : Int × Int × List S46} (h : Inv N s) (hN : N < 1000000) (a : Int) (b : Bool) : Ev (fun k => regletref16_Put.f k s.1 s.2.1 (s.2.2.map cv) a b) ((putS s a b).2.2.1, (putS s a b).2.2.2.1, (putS s a b).2.2.2.2.map cv, (putS s a b).1, (putS s a b).2.1) := by
  obtain ⟨sz, nx, l⟩ := s
  have h2 := h.n0
  have h3 := h.n1
  have h4 := h.len
  simp only at h2 h3 h4 ⊢
  have j0 : ∀ x17 : Bool, x17 = decide (a < 0 ∨ a > sz) → Ev (fun k => regletref16_Put.j0 k a b x17 sz nx (l.map cv)) ((putS (sz, nx, l) a b).2.2.1, (putS (sz, nx, l) a b).2.2.2.1, (putS (sz, nx, l) a b).2.2.2.2.map cv, (putS (sz, nx, l) a b).1, (putS (sz, nx, l) a b).2.1) := by
    intro x17 hx
    unfold putS
    simp only
    by_cases c : a < 0 ∨ a > sz
    · rw [if_pos c]
      rw [decide_eq_true c] at hx
      exact Ev.step (fun k => by rw [regletref16_Put.j0, hx, if_pos rfl]) (Ev.now _)
    · rw [if_neg c]
      rw [decide_eq_false c] at hx
      by_cases c3 : l.length ≥ 1024
      · rw [if_pos c3]
        exact Ev.step (fun k => by rw [regletref16_Put.j0, hx, if_neg (by simp), List.length_map, if_pos (by omega)]) (Ev.now _)
      · rw [if_neg c3]
        refine Ev.step (fun k => ?_) (Ev.now _)
        rw [regletref16_Put.j0, hx, if_neg (by simp), List.length_map, if_neg (by omega)]
        simp only [Option.bind_some, List.length_nil, List.nil_append, List.length_map]
        rw [if_pos (by omega), if_pos (by omega), w64 (by omega) (by omega)]
        simp [cv]
  unfold regletref16_Put.f
  by_cases c1 : a < 0
  · exact Ev.congr (fun k => if_pos c1) (j0 true (decide_eq_true (.inl c1)).symm)
  · refine Ev.congr (fun k => if_neg c1) (j0 _ ?_)
    by_cases c2 : a > sz
    · rw [decide_eq_true c2, decide_eq_true (.inr c2)]
    · rw [decide_eq_false c2, decide_eq_false (by omega)]
theorem ins_l0 {a n c : Int} {l : List S46} (hl : l.length ≤ 1024) (hn0 : 0 ≤ n) (hn1 : n ≤ 65536) (hb : ∀ x ∈ l, 0 ≤ x.f1 ∧ x.f1 ≤ 65536) {sz nx : Int} : ∀ (t : List S46) (i : Nat) (o : List S46), l.drop i = t → o.length = i → Ev (fun k => marks_Set_Insert.l0 k a n (l.length : Int) (i : Int) sz nx (o ++ t)) (0, sz, nx, o ++ t.map (insM a n))
  | [], i, o, h, ho => by
    have := dropN h
    exact Ev.step (fun k => by rw [marks_Set_Insert.l0, if_neg (by omega)]; rfl) (Ev.now _)
  | x :: t, i, o, h, ho => by
    obtain ⟨h1, h2, h3⟩ := d46 h
    have hx := hb x (by rw [← h2, g46 h1]; exact List.getElem_mem h1)
    have hr : rd_T46 (o ++ x :: t) (i : Int) = x := by
      rw [g46 (by simp; omega)]
      simp [List.getElem_append_right (show o.length ≤ i by omega), ho]
    have hs : ∀ y : S46, (o ++ x :: t).set ((i : Int)).toNat y = (o ++ [y]) ++ t := by
      intro y
      rw [Int.toNat_natCast, List.set_append_right _ _ (by omega), ho, Nat.sub_self]; simp
    have hlen : (i : Int) < ((o ++ x :: t).length : Int) := by simp; omega
    have ih := ins_l0 (a := a) (n := n) (c := c) hl hn0 hn1 hb (sz := sz) (nx := nx) t (i + 1) (o ++ [insM a n x]) h3 (by simp [ho])
    rw [List.append_assoc o [insM a n x] (t.map _)] at ih
    refine Ev.step (fun k => ?_) ih
    rw [marks_Set_Insert.l0, if_pos (by omega), if_pos (by omega), if_pos hlen, hr, upN (by omega)]
    unfold insM
    by_cases c1 : x.f1 > a
    · rw [if_pos c1, if_pos (.inl c1), w64 (by omega) (by omega), hs]
    · rw [if_neg c1]
      by_cases c2 : x.f1 = a
      · rw [if_pos c2]
        by_cases c3 : x.f2 = true
        · rw [if_pos c3, if_neg (by rw [c3]; simp [c1])]
          rw [List.append_assoc]; rfl
        · have c3 : x.f2 = false := by simpa using c3
          rw [if_neg (by rw [c3]; simp), if_pos (.inr ⟨c2, c3⟩), w64 (by omega) (by omega), hs]
      · rw [if_neg c2, if_neg (by simp [c1, c2])]
        rw [List.append_assoc]; rfl
theorem ins_ev {N : Nat} {s : Int × Int × List S46} (h : Inv N s) (a n : Int) : Ev (fun k => marks_Set_Insert.f k s.1 s.2.1 s.2.2 a n) (insS s a n) := by
  obtain ⟨sz, nx, l⟩ := s
  have h0 := h.s0
  have h1 := h.s1
  have h4 := h.len
  have h5 := h.pos
  simp only at h0 h1 h4 h5 ⊢
  unfold marks_Set_Insert.f insS
  simp only
  by_cases c1 : a < 0
  · exact Ev.congr (fun k => by rw [if_pos c1]) (by rw [if_pos (.inl c1)]; exact Ev.now _)
  by_cases c2 : a > sz
  · exact Ev.congr (fun k => by rw [if_neg c1, if_pos c2]) (by rw [if_pos (.inr c2)]; exact Ev.now _)
  rw [if_neg (show ¬ (a < 0 ∨ a > sz) by omega)]
  by_cases c3 : n < 0
  · exact Ev.congr (fun k => by rw [if_neg c1, if_neg c2, if_pos c3]) (by rw [if_pos c3]; exact Ev.now _)
  rw [if_neg c3]
  have hw : wrap64 (65536 - sz) = 65536 - sz := w64 (by omega) (by omega)
  by_cases c4 : n > 65536 - sz
  · exact Ev.congr (fun k => by rw [if_neg c1, if_neg c2, if_neg c3, hw, if_pos c4]) (by rw [if_pos c4]; exact Ev.now _)
  rw [if_neg c4]
  refine Ev.congr (fun k => by rw [if_neg c1, if_neg c2, if_neg c3, hw, if_neg c4, w64 (by omega) (by omega)]) ?_
  exact ins_l0 (c := 0) h4 (by omega) (by omega) (fun x hx => ⟨(h5 x hx).1, by have := (h5 x hx).2; omega⟩) l 0 [] rfl rfl
theorem del_l0 {f u : Int} {l : List S46} (hl : l.length ≤ 1024) (h0 : 0 ≤ f) (h1 : f ≤ u) (h2 : u ≤ 65536) (hb : ∀ x ∈ l, 0 ≤ x.f1 ∧ x.f1 ≤ 65536) {sz nx : Int} : ∀ (t : List S46) (i : Nat) (o : List S46), l.drop i = t → o.length = i → Ev (fun k => marks_Set_Delete.l0 k f u (l.length : Int) (i : Int) sz nx (o ++ t)) (0, sz, nx, o ++ t.map (delM f u))
  | [], i, o, h, ho => by
    have := dropN h
    exact Ev.step (fun k => by rw [marks_Set_Delete.l0, if_neg (by omega)]; rfl) (Ev.now _)
  | x :: t, i, o, h, ho => by
    obtain ⟨h1', h2', h3⟩ := d46 h
    have hx := hb x (by rw [← h2', g46 h1']; exact List.getElem_mem h1')
    have hr : rd_T46 (o ++ x :: t) (i : Int) = x := by
      rw [g46 (by simp; omega)]
      simp [List.getElem_append_right (show o.length ≤ i by omega), ho]
    have hs : ∀ y : S46, (o ++ x :: t).set ((i : Int)).toNat y = (o ++ [y]) ++ t := by
      intro y
      rw [Int.toNat_natCast, List.set_append_right _ _ (by omega), ho, Nat.sub_self]; simp
    have hlen : (i : Int) < ((o ++ x :: t).length : Int) := by simp; omega
    have ih := del_l0 (f := f) (u := u) hl h0 h1 h2 hb (sz := sz) (nx := nx) t (i + 1) (o ++ [delM f u x]) h3 (by simp [ho])
    rw [List.append_assoc o [delM f u x] (t.map _)] at ih
    refine Ev.step (fun k => ?_) ih
    rw [marks_Set_Delete.l0, if_pos (by omega), if_pos (by omega), if_pos hlen, hr, upN (by omega)]
    unfold delM
    by_cases c1 : x.f1 ≥ u
    · rw [if_pos c1, if_pos c1, w64 (x := u - f) (by omega) (by omega), w64 (by omega) (by omega), hs]
    · rw [if_neg c1, if_neg c1]
      by_cases c2 : x.f1 > f
      · rw [if_pos c2, if_pos c2, hs]
      · rw [if_neg c2, if_neg c2, List.append_assoc]; rfl
theorem del_ev {N : Nat} {s : Int × Int × List S46} (h : Inv N s) (f u : Int) : Ev (fun k => marks_Set_Delete.f k s.1 s.2.1 s.2.2 f u) (delS s f u) := by
  obtain ⟨sz, nx, l⟩ := s
  have h0 := h.s0
  have h1 := h.s1
  have h4 := h.len
  have h5 := h.pos
  simp only at h0 h1 h4 h5 ⊢
  unfold marks_Set_Delete.f delS
  simp only
  by_cases c1 : f < 0
  · exact Ev.congr (fun k => by rw [if_pos c1]) (by rw [if_pos (.inl c1)]; exact Ev.now _)
  by_cases c2 : u > sz
  · exact Ev.congr (fun k => by rw [if_neg c1, if_pos c2]) (by rw [if_pos (.inr (.inl c2))]; exact Ev.now _)
  by_cases c3 : f > u
  · exact Ev.congr (fun k => by rw [if_neg c1, if_neg c2, if_pos c3]) (by rw [if_pos (.inr (.inr c3))]; exact Ev.now _)
  rw [if_neg (show ¬ (f < 0 ∨ u > sz ∨ f > u) by omega)]
  refine Ev.congr (fun k => by rw [if_neg c1, if_neg c2, if_neg c3, w64 (x := u - f) (by omega) (by omega), w64 (x := sz - (u - f)) (by omega) (by omega)]) ?_
  exact del_l0 h4 (by omega) (by omega) (by omega) (fun x hx => ⟨(h5 x hx).1, by have := (h5 x hx).2; omega⟩) l 0 [] rfl rfl
theorem cvr {l t : List S46} {i : Nat} {x : S46} (h : l.drop i = x :: t) : rd_T51 (l.map cv) (i : Int) = cv x :=
  (d51 (l := l.map cv) (i := i) (t := t.map cv) (n := cv x) (by rw [← List.map_drop, h]; rfl)).2.1
theorem rins_l0 {a n : Int} {l : List S46} (hl : l.length ≤ 1024) (hn0 : 0 ≤ n) (hn1 : n ≤ 65536) (hb : ∀ x ∈ l, 0 ≤ x.f1 ∧ x.f1 ≤ 65536) {sz nx : Int} (hs : wrap64 (sz + n) = sz + n) : ∀ (t : List S46) (i : Nat) (o : List S51), l.drop i = t → o.length = i → Ev (fun k => regletref16_Insert.l0 k a n o (i : Int) sz nx (l.map cv)) (sz + n, nx, o ++ (t.map (insM a n)).map cv, 0)
  | [], i, o, h, ho => by
    have := dropN h
    exact Ev.step (fun k => by rw [regletref16_Insert.l0, List.length_map, if_neg (by omega), hs]; simp) (Ev.now _)
  | x :: t, i, o, h, ho => by
    obtain ⟨h1, h2, h3⟩ := d46 h
    have hx := hb x (by rw [← h2, g46 h1]; exact List.getElem_mem h1)
    have ih := rins_l0 (a := a) (n := n) hl hn0 hn1 hb (nx := nx) hs t (i + 1) (o ++ [cv (insM a n x)]) h3 (by simp [ho])
    rw [List.append_assoc o [cv (insM a n x)] _] at ih
    refine Ev.step (fun k => ?_) ih
    rw [regletref16_Insert.l0, List.length_map, if_pos (by omega), if_pos (by omega), cvr h, upN (by omega)]
    unfold insM
    by_cases c1 : x.f1 > a
    · rw [if_pos (show (cv x).f1 > a from c1), if_pos (by omega), if_pos (.inl c1)]
      show regletref16_Insert.l0 k a n (o ++ [⟨x.f0, wrap64 (x.f1 + n), x.f2⟩]) _ _ _ _ = _
      rw [w64 (by omega) (by omega)]; rfl
    · rw [if_neg (show ¬ (cv x).f1 > a from c1)]
      by_cases c2 : x.f1 = a
      · rw [if_pos (show (cv x).f1 = a from c2)]
        by_cases c3 : x.f2 = true
        · rw [if_pos (show (cv x).f2 = true from c3), if_pos (by omega), if_neg (by rw [c3]; simp [c1])]
        · have c4 : x.f2 = false := by simpa using c3
          rw [if_neg (show ¬ (cv x).f2 = true from c3), if_pos (by omega), if_pos (.inr ⟨c2, c4⟩)]
          show regletref16_Insert.l0 k a n (o ++ [⟨x.f0, wrap64 (x.f1 + n), x.f2⟩]) _ _ _ _ = _
          rw [w64 (by omega) (by omega)]; rfl
      · rw [if_neg (show ¬ (cv x).f1 = a from c2), if_pos (by omega), if_neg (by simp [c1, c2])]
theorem rins_ev {N : Nat} {s : Int × Int × List S46} (h : Inv N s) (a n : Int) : Ev (fun k => regletref16_Insert.f k s.1 s.2.1 (s.2.2.map cv) a n) ((insS s a n).2.1, (insS s a n).2.2.1, (insS s a n).2.2.2.map cv, (insS s a n).1) := by
  obtain ⟨sz, nx, l⟩ := s
  have h0 := h.s0
  have h1 := h.s1
  have h4 := h.len
  have h5 := h.pos
  simp only at h0 h1 h4 h5 ⊢
  have hw : wrap64 (65536 - sz) = 65536 - sz := w64 (by omega) (by omega)
  have j0 : ∀ x17 : Bool, x17 = decide (a < 0 ∨ a > sz) → Ev (fun k => regletref16_Insert.j0 k a n x17 sz nx (l.map cv)) ((insS (sz, nx, l) a n).2.1, (insS (sz, nx, l) a n).2.2.1, (insS (sz, nx, l) a n).2.2.2.map cv, (insS (sz, nx, l) a n).1) := by
    intro x17 hx
    unfold insS
    simp only
    by_cases c : a < 0 ∨ a > sz
    · rw [if_pos c]
      rw [decide_eq_true c] at hx
      exact Ev.step (fun k => by rw [regletref16_Insert.j0, hx, if_pos rfl]) (Ev.now _)
    rw [if_neg c]
    rw [decide_eq_false c] at hx
    by_cases c3 : n < 0
    · rw [if_pos c3]
      exact Ev.step (fun k => by rw [regletref16_Insert.j0, hx, if_neg (by simp), if_pos c3]) (Ev.now _)
    rw [if_neg c3]
    by_cases c4 : n > 65536 - sz
    · rw [if_pos c4]
      exact Ev.step (fun k => by rw [regletref16_Insert.j0, hx, if_neg (by simp), if_neg c3, hw, if_pos c4]) (Ev.now _)
    rw [if_neg c4]
    refine Ev.step (fun k => by rw [regletref16_Insert.j0, hx, if_neg (by simp), if_neg c3, hw, if_neg c4]) ?_
    exact rins_l0 h4 (by omega) (by omega) (fun x hx => ⟨(h5 x hx).1, by have := (h5 x hx).2; omega⟩) (w64 (by omega) (by omega)) l 0 [] rfl rfl
  unfold regletref16_Insert.f
  by_cases c1 : a < 0
  · exact Ev.congr (fun k => if_pos c1) (j0 true (decide_eq_true (.inl c1)).symm)
  · refine Ev.congr (fun k => if_neg c1) (j0 _ ?_)
    by_cases c2 : a > sz
    · rw [decide_eq_true c2, decide_eq_true (.inr c2)]
    · rw [decide_eq_false c2, decide_eq_false (by omega)]
theorem mx_eq (a b : Int) : mx a b = max a b := rfl
theorem rdel_l0 {f u : Int} {l : List S46} (hl : l.length ≤ 1024) (h0 : 0 ≤ f) (h1 : f ≤ u) (h2 : u ≤ 65536) (hb : ∀ x ∈ l, 0 ≤ x.f1 ∧ x.f1 ≤ 65536) {sz nx : Int} (hs : wrap64 (sz - (u - f)) = sz - (u - f)) : ∀ (t : List S46) (i : Nat) (o : List S51), l.drop i = t → o.length = i → Ev (fun k => regletref16_Delete.l0 k f u o (i : Int) sz nx (l.map cv)) (sz - (u - f), nx, o ++ (t.map (delM f u)).map cv, 0)
  | [], i, o, h, ho => by
    have := dropN h
    exact Ev.step (fun k => by rw [regletref16_Delete.l0, List.length_map, if_neg (by omega), w64 (x := u - f) (by omega) (by omega), hs]; simp) (Ev.now _)
  | x :: t, i, o, h, ho => by
    obtain ⟨h1', h2', h3⟩ := d46 h
    have hx := hb x (by rw [← h2', g46 h1']; exact List.getElem_mem h1')
    have ih := rdel_l0 (f := f) (u := u) hl h0 h1 h2 hb (nx := nx) hs t (i + 1) (o ++ [cv (delM f u x)]) h3 (by simp [ho])
    rw [List.append_assoc o [cv (delM f u x)] _] at ih
    refine Ev.step (fun k => ?_) ih
    rw [regletref16_Delete.l0, List.length_map, if_pos (by omega), if_pos (by omega), cvr h, upN (by omega)]
    unfold delM
    by_cases c1 : x.f1 > f
    · rw [if_pos (show (cv x).f1 > f from c1), if_pos (by omega)]
      show regletref16_Delete.l0 k f u (o ++ [⟨x.f0, mx f (wrap64 (x.f1 - (wrap64 (u - f)))), x.f2⟩]) _ _ _ _ = _
      rw [w64 (x := u - f) (by omega) (by omega), w64 (by omega) (by omega), mx_eq]
      by_cases c2 : x.f1 ≥ u
      · rw [if_pos c2, show max f (x.f1 - (u - f)) = x.f1 - (u - f) by omega]; rfl
      · rw [if_neg c2, if_pos c1, show max f (x.f1 - (u - f)) = f by omega]; rfl
    · rw [if_neg (show ¬ (cv x).f1 > f from c1), if_pos (by omega)]
      by_cases c2 : x.f1 ≥ u
      · rw [if_pos c2]
        have e1 : x.f1 - (u - f) = x.f1 := by omega
        rw [e1]
      · rw [if_neg c2, if_neg c1]
theorem rdel_ev {N : Nat} {s : Int × Int × List S46} (h : Inv N s) (f u : Int) : Ev (fun k => regletref16_Delete.f k s.1 s.2.1 (s.2.2.map cv) f u) ((delS s f u).2.1, (delS s f u).2.2.1, (delS s f u).2.2.2.map cv, (delS s f u).1) := by
  obtain ⟨sz, nx, l⟩ := s
  have h0 := h.s0
  have h1 := h.s1
  have h4 := h.len
  have h5 := h.pos
  simp only at h0 h1 h4 h5 ⊢
  have j0 : ∀ x17 : Bool, x17 = decide (f < 0 ∨ u > sz ∨ f > u) → Ev (fun k => regletref16_Delete.j0 k f u x17 sz nx (l.map cv)) ((delS (sz, nx, l) f u).2.1, (delS (sz, nx, l) f u).2.2.1, (delS (sz, nx, l) f u).2.2.2.map cv, (delS (sz, nx, l) f u).1) := by
    intro x17 hx
    unfold delS
    simp only
    by_cases c : f < 0 ∨ u > sz ∨ f > u
    · rw [if_pos c]
      rw [decide_eq_true c] at hx
      exact Ev.step (fun k => by rw [regletref16_Delete.j0, hx, if_pos rfl]) (Ev.now _)
    rw [if_neg c]
    rw [decide_eq_false c] at hx
    refine Ev.step (fun k => by rw [regletref16_Delete.j0, hx, if_neg (by simp)]) ?_
    exact rdel_l0 h4 (by omega) (by omega) (by omega) (fun x hx => ⟨(h5 x hx).1, by have := (h5 x hx).2; omega⟩) (w64 (by omega) (by omega)) l 0 [] rfl rfl
  unfold regletref16_Delete.f
  by_cases c1 : f < 0
  · exact Ev.congr (fun k => if_pos c1) (j0 true (decide_eq_true (.inl c1)).symm)
  by_cases c2 : u > sz
  · exact Ev.congr (fun k => by rw [if_neg c1, if_pos c2]) (j0 true (decide_eq_true (.inr (.inl c2))).symm)
  · refine Ev.congr (fun k => by rw [if_neg c1, if_neg c2]) (j0 _ ?_)
    by_cases c3 : f > u
    · rw [decide_eq_true c3, decide_eq_true (.inr (.inr c3))]
    · rw [decide_eq_false c3, decide_eq_false (by omega)]
theorem at0_none {o : Option Nat} (h : o = none) : at_ o 0 = -1 := by subst h; rfl
theorem at0_some {o : Option Nat} {j : Nat} (h : o = some j) : at_ o 0 = (j : Int) := by subst h; simp [at_]
theorem mov_ev {N : Nat} {s : Int × Int × List S46} (h : Inv N s) (q a : Int) : Ev (fun k => marks_Set_Move.f k s.1 s.2.1 s.2.2 q a) (movS s q a) := by
  obtain ⟨sz, nx, l⟩ := s
  have h4 := h.len
  simp only at h4 ⊢
  unfold marks_Set_Move.f movS
  refine Ev.bind (find_ev (by omega)) ?_
  simp only
  cases hf : fi l q with
  | none =>
    rw [at0_none rfl]
    exact Ev.congr (fun k => if_pos (by omega)) (Ev.now _)
  | some j =>
    rw [at0_some rfl]
    have hj := fi_lt hf
    simp only
    by_cases c1 : a < 0
    · rw [if_pos (show a < 0 ∨ a > sz from .inl c1)]; exact Ev.congr (fun k => by rw [if_neg (show ¬ ((j : Int) < 0) by omega), if_pos c1]) (Ev.now _)
    by_cases c2 : a > sz
    · rw [if_pos (show a < 0 ∨ a > sz from .inr c2)]; exact Ev.congr (fun k => by rw [if_neg (show ¬ ((j : Int) < 0) by omega), if_neg c1, if_pos c2]) (Ev.now _)
    rw [if_neg (show ¬ (a < 0 ∨ a > sz) by omega)]
    exact Ev.congr (fun k => by rw [if_neg (show ¬ ((j : Int) < 0) by omega), if_neg c1, if_neg c2, if_pos (by omega), Int.toNat_natCast]; rfl) (Ev.now _)
theorem rmov_ev {N : Nat} {s : Int × Int × List S46} (h : Inv N s) (q a : Int) : Ev (fun k => regletref16_Move.f k s.1 s.2.1 (s.2.2.map cv) q a) ((movS s q a).2.1, (movS s q a).2.2.1, (movS s q a).2.2.2.map cv, (movS s q a).1) := by
  obtain ⟨sz, nx, l⟩ := s
  have h4 := h.len
  simp only at h4 ⊢
  unfold regletref16_Move.f movS
  refine Ev.bind (rfind_ev (by omega)) ?_
  simp only
  cases hf : fi l q with
  | none =>
    rw [at0_none rfl]
    exact Ev.congr (fun k => if_pos (by omega)) (Ev.now _)
  | some j =>
    rw [at0_some rfl]
    have hj := fi_lt hf
    simp only
    by_cases c1 : a < 0
    · rw [if_pos (show a < 0 ∨ a > sz from .inl c1)]; exact Ev.congr (fun k => by rw [if_neg (show ¬ ((j : Int) < 0) by omega), if_pos c1]) (Ev.now _)
    by_cases c2 : a > sz
    · rw [if_pos (show a < 0 ∨ a > sz from .inr c2)]; exact Ev.congr (fun k => by rw [if_neg (show ¬ ((j : Int) < 0) by omega), if_neg c1, if_pos c2]) (Ev.now _)
    rw [if_neg (show ¬ (a < 0 ∨ a > sz) by omega)]
    refine Ev.congr (fun k => ?_) (Ev.now _)
    rw [if_neg (show ¬ ((j : Int) < 0) by omega), if_neg c1, if_neg c2]
    simp only [Option.bind_some, List.length_nil, List.nil_append, List.length_map]
    rw [if_pos (by omega), if_pos (by omega), if_pos (by omega), Int.toNat_natCast]
    have hg : rd_T51 (l.map cv) (j : Int) = cv l[j] := by rw [g51 (by simpa using hj), List.getElem_map]
    have hd : l.getD j z46 = l[j] := by rw [List.getD_eq_getElem?_getD, List.getElem?_eq_getElem hj]; rfl
    rw [hg, hd]
    simp [List.map_set, cv]
theorem drp_ev {N : Nat} {s : Int × Int × List S46} (h : Inv N s) (q : Int) : Ev (fun k => marks_Set_Drop.f k s.1 s.2.1 s.2.2 q) (drpS s q) := by
  obtain ⟨sz, nx, l⟩ := s
  have h4 := h.len
  simp only at h4 ⊢
  unfold marks_Set_Drop.f drpS
  refine Ev.bind (find_ev (by omega)) ?_
  simp only
  cases hf : fi l q with
  | none =>
    rw [at0_none rfl]
    exact Ev.congr (fun k => if_pos (by omega)) (Ev.now _)
  | some j =>
    rw [at0_some rfl]
    have hj := fi_lt hf
    simp only
    refine Ev.congr (fun k => ?_) (Ev.now _)
    rw [if_neg (by omega), upN (by omega)]
    unfold slices_Delete.f
    rw [if_pos (by omega), Int.toNat_natCast, Int.toNat_natCast]
    rfl
theorem rdrp_l0 {l : List S46} (hl : l.length ≤ 1024) {j : Nat} (hj : j < l.length) {sz nx : Int} : ∀ (t : List S46) (i : Nat) (o : List S51), l.drop i = t → o.length ≤ i → Ev (fun k => regletref16_Drop.l0 k (j : Int) o (i : Int) sz nx (l.map cv)) (sz, nx, o ++ (t.eraseIdx (j - i) |> fun z => if i ≤ j then z else t).map cv, 0)
  | [], i, o, h, ho => by
    have := dropN h
    exact Ev.step (fun k => by rw [regletref16_Drop.l0, List.length_map, if_neg (by omega)]; simp) (Ev.now _)
  | x :: t, i, o, h, ho => by
    obtain ⟨h1, h2, h3⟩ := d46 h
    by_cases c : i = j
    · subst c
      have ih := rdrp_l0 hl hj (sz := sz) (nx := nx) t (i + 1) o h3 (by omega)
      refine Ev.step (fun k => ?_) (f := fun k => regletref16_Drop.l0 k (i : Int) o ((i + 1 : Nat) : Int) sz nx (l.map cv)) ?_
      · rw [regletref16_Drop.l0, List.length_map, if_pos (by omega), if_pos rfl, upN (by omega)]
      · simp only [Nat.le_refl, if_true, Nat.sub_self, List.eraseIdx_cons_zero]
        simpa [show ¬ (i + 1 ≤ i) by omega] using ih
    · have ih := rdrp_l0 hl hj (sz := sz) (nx := nx) t (i + 1) (o ++ [cv x]) h3 (by simp; omega)
      refine Ev.step (fun k => ?_) (f := fun k => regletref16_Drop.l0 k (j : Int) (o ++ [cv x]) ((i + 1 : Nat) : Int) sz nx (l.map cv)) ?_
      · rw [regletref16_Drop.l0, List.length_map, if_pos (by omega), if_neg (by omega), if_pos (by omega), if_pos (by omega), cvr h, upN (by omega)]
      · rw [List.append_assoc] at ih
        by_cases c2 : i ≤ j
        · simp only [c2, if_true, show i + 1 ≤ j by omega] at ih ⊢
          rw [show j - i = (j - (i + 1)) + 1 by omega, List.eraseIdx_cons_succ]
          exact ih
        · simp only [c2, if_false, show ¬ i + 1 ≤ j by omega] at ih ⊢
          exact ih
theorem rdrp_ev {N : Nat} {s : Int × Int × List S46} (h : Inv N s) (q : Int) : Ev (fun k => regletref16_Drop.f k s.1 s.2.1 (s.2.2.map cv) q) ((drpS s q).2.1, (drpS s q).2.2.1, (drpS s q).2.2.2.map cv, (drpS s q).1) := by
  obtain ⟨sz, nx, l⟩ := s
  have h4 := h.len
  simp only at h4 ⊢
  unfold regletref16_Drop.f drpS
  refine Ev.bind (rfind_ev (by omega)) ?_
  simp only
  cases hf : fi l q with
  | none =>
    rw [at0_none rfl]
    exact Ev.congr (fun k => if_pos (by omega)) (Ev.now _)
  | some j =>
    rw [at0_some rfl]
    have hj := fi_lt hf
    simp only
    refine Ev.congr (fun k => if_neg (by omega)) ?_
    have := rdrp_l0 h4 hj (sz := sz) (nx := nx) l 0 [] rfl (Nat.le_refl _)
    simpa [List.eraseIdx_eq_take_drop_succ] using this
def stepS (s : Int × Int × List S46) (o : S34) : Int × Int × List S46 :=
  if o.f0 = 0 then (putS s o.f1 o.f3).2.2 else if o.f0 = 1 then (insS s o.f1 o.f2).2 else if o.f0 = 2 then (delS s o.f1 o.f2).2 else if o.f0 = 3 then (movS s o.f1 o.f2).2 else if o.f0 = 4 then (drpS s o.f1).2 else s
theorem Inv.mono {N M : Nat} {s : Int × Int × List S46} (h : Inv N s) (hm : N ≤ M) : Inv M s := ⟨h.s0, h.s1, h.n0, by have := h.n1; omega, h.len, h.num, h.pos, h.one⟩
theorem inv_put {N : Nat} {s : Int × Int × List S46} (h : Inv N s) (a : Int) (b : Bool) : Inv (N + 1) (putS s a b).2.2 := by
  unfold putS
  by_cases c1 : a < 0 ∨ a > s.1
  · rw [if_pos c1]; exact h.mono (by omega)
  rw [if_neg c1]
  by_cases c2 : s.2.2.length ≥ 1024
  · rw [if_pos c2]; exact h.mono (by omega)
  rw [if_neg c2]
  have h3 := h.n0
  have h4 := h.n1
  refine ⟨h.s0, h.s1, by show (0 : Int) ≤ s.2.1 + 1; omega, by show s.2.1 + 1 ≤ ((N + 1 : Nat) : Int); omega, by show (s.2.2 ++ [_]).length ≤ 1024; simp; omega, fun x hx => ?_, fun x hx => ?_, ?_⟩
  · rcases List.mem_append.1 hx with hx | hx
    · have := h.num x hx; exact ⟨this.1, by show x.f0 ≤ s.2.1 + 1; omega⟩
    · rw [List.mem_singleton] at hx; subst hx; exact ⟨by show (0 : Int) < s.2.1 + 1; omega, Int.le_refl _⟩
  · rcases List.mem_append.1 hx with hx | hx
    · exact h.pos x hx
    · rw [List.mem_singleton] at hx; subst hx; exact ⟨by show 0 ≤ a; omega, by show a ≤ s.1; omega⟩
  · refine List.pairwise_append.2 ⟨h.one, List.pairwise_singleton _ _, fun x hx y hy => ?_⟩
    rw [List.mem_singleton] at hy; subst hy
    have := (h.num x hx).2
    show x.f0 ≠ s.2.1 + 1
    omega
theorem inv_map {N : Nat} {s : Int × Int × List S46} (h : Inv N s) {sz : Int} (g : S46 → S46) (h0 : 0 ≤ sz) (h1 : sz ≤ 65536) (hg : ∀ x, (g x).f0 = x.f0) (hp : ∀ x ∈ s.2.2, 0 ≤ (g x).f1 ∧ (g x).f1 ≤ sz) : Inv N (sz, s.2.1, s.2.2.map g) := by
  refine ⟨h0, h1, h.n0, h.n1, by show (s.2.2.map g).length ≤ 1024; rw [List.length_map]; exact h.len, fun x hx => ?_, fun x hx => ?_, ?_⟩
  · obtain ⟨y, hy, rfl⟩ := List.mem_map.1 hx; rw [hg]; exact h.num y hy
  · obtain ⟨y, hy, rfl⟩ := List.mem_map.1 hx; exact hp y hy
  · refine List.pairwise_map.2 (h.one.imp (fun {a b} hab => ?_)); rw [hg, hg]; exact hab
theorem insM_f0 (a n : Int) (x : S46) : (insM a n x).f0 = x.f0 := by unfold insM; split <;> rfl
theorem delM_f0 (f u : Int) (x : S46) : (delM f u x).f0 = x.f0 := by unfold delM; split <;> (try split) <;> rfl
theorem inv_ins {N : Nat} {s : Int × Int × List S46} (h : Inv N s) (a n : Int) : Inv N (insS s a n).2 := by
  unfold insS
  by_cases c1 : a < 0 ∨ a > s.1
  · rw [if_pos c1]; exact h
  rw [if_neg c1]
  by_cases c2 : n < 0
  · rw [if_pos c2]; exact h
  rw [if_neg c2]
  by_cases c3 : n > 65536 - s.1
  · rw [if_pos c3]; exact h
  rw [if_neg c3]
  have h0 := h.s0
  refine inv_map h _ (by omega) (by omega) (insM_f0 a n) (fun x hx => ?_)
  have := h.pos x hx
  unfold insM
  split
  · show 0 ≤ x.f1 + n ∧ x.f1 + n ≤ s.1 + n; omega
  · omega
theorem inv_del {N : Nat} {s : Int × Int × List S46} (h : Inv N s) (f u : Int) : Inv N (delS s f u).2 := by
  unfold delS
  by_cases c1 : f < 0 ∨ u > s.1 ∨ f > u
  · rw [if_pos c1]; exact h
  rw [if_neg c1]
  have h0 := h.s0
  have h1 := h.s1
  refine inv_map h _ (by omega) (by omega) (delM_f0 f u) (fun x hx => ?_)
  have := h.pos x hx
  unfold delM
  split
  · show 0 ≤ x.f1 - (u - f) ∧ x.f1 - (u - f) ≤ s.1 - (u - f); omega
  · split
    · show 0 ≤ f ∧ f ≤ s.1 - (u - f); omega
    · omega
theorem inv_sub {N : Nat} {s : Int × Int × List S46} (h : Inv N s) {l : List S46} (hl : l.Sublist s.2.2) : Inv N (s.1, s.2.1, l) :=
  ⟨h.s0, h.s1, h.n0, h.n1, Nat.le_trans hl.length_le h.len, fun x hx => h.num x (hl.subset hx), fun x hx => h.pos x (hl.subset hx), h.one.sublist hl⟩
theorem inv_drp {N : Nat} {s : Int × Int × List S46} (h : Inv N s) (q : Int) : Inv N (drpS s q).2 := by
  unfold drpS
  split
  · exact h
  · rename_i j hj
    refine inv_sub h ?_
    rw [← List.eraseIdx_eq_take_drop_succ]
    exact List.eraseIdx_sublist ..
theorem inv_mov {N : Nat} {s : Int × Int × List S46} (h : Inv N s) (q a : Int) : Inv N (movS s q a).2 := by
  unfold movS
  split
  · exact h
  · rename_i j hj
    by_cases c : a < 0 ∨ a > s.1
    · rw [if_pos c]; exact h
    rw [if_neg c]
    have hlt := fi_lt hj
    have hd : s.2.2.getD j z46 = s.2.2[j] := by rw [List.getD_eq_getElem?_getD, List.getElem?_eq_getElem hlt]; rfl
    have hmem : s.2.2[j] ∈ s.2.2 := List.getElem_mem hlt
    rw [hd]
    refine ⟨h.s0, h.s1, h.n0, h.n1, by show (s.2.2.set j _).length ≤ 1024; rw [List.length_set]; exact h.len, fun x hx => ?_, fun x hx => ?_, ?_⟩
    · rcases List.mem_or_eq_of_mem_set hx with hx | rfl
      · exact h.num x hx
      · have := h.num _ hmem; exact this
    · rcases List.mem_or_eq_of_mem_set hx with hx | rfl
      · exact h.pos x hx
      · exact ⟨by show 0 ≤ a; omega, by show a ≤ s.1; omega⟩
    · have e : (s.2.2.set j ⟨s.2.2[j].f0, a, s.2.2[j].f2⟩).map S46.f0 = s.2.2.map S46.f0 := by
        rw [List.map_set]
        apply List.ext_getElem
        · simp
        · intro i h1 h2
          rw [List.getElem_set]
          split
          · rename_i hij; subst hij; simp
          · rfl
      have h1 : (s.2.2.map S46.f0).Pairwise (· ≠ ·) := List.pairwise_map.2 h.one
      rw [← e] at h1
      exact List.pairwise_map.1 h1
theorem inv_step {N : Nat} {s : Int × Int × List S46} (h : Inv N s) (o : S34) : Inv (N + 1) (stepS s o) := by
  unfold stepS
  repeat' split
  · exact inv_put h _ _
  · exact (inv_ins h _ _).mono (by omega)
  · exact (inv_del h _ _).mono (by omega)
  · exact (inv_mov h _ _).mono (by omega)
  · exact (inv_drp h _).mono (by omega)
  · exact h.mono (by omega)
theorem step_ev {N : Nat} {s : Int × Int × List S46} (h : Inv N s) (hN : N < 1000000) (o : S34) : Ev (fun k => regletlaw16_step.f k s.1 s.2.1 s.2.2 s.1 s.2.1 (s.2.2.map cv) o.f0 o.f1 o.f2 o.f3) ((stepS s o).1, (stepS s o).2.1, (stepS s o).2.2.map cv, true, (stepS s o).1, (stepS s o).2.1, (stepS s o).2.2) := by
  unfold regletlaw16_step.f stepS
  by_cases c0 : o.f0 = 0
  · refine Ev.congr (fun k => if_pos c0) ?_
    rw [if_pos c0]
    refine Ev.bind (rput_ev h hN o.f1 o.f3) ?_
    rw [put_eq h hN]
    exact Ev.congr (fun k => by rw [Option.bind_some, if_pos rfl]) (by rw [decide_eq_true rfl]; exact Ev.now _)
  refine Ev.congr (fun k => if_neg c0) ?_
  rw [if_neg c0]
  by_cases c1 : o.f0 = 1
  · refine Ev.congr (fun k => if_pos c1) ?_
    rw [if_pos c1]
    refine Ev.bind (rins_ev h o.f1 o.f2) (Ev.bind (ins_ev h o.f1 o.f2) ?_)
    rw [decide_eq_true rfl]; exact Ev.now _
  refine Ev.congr (fun k => if_neg c1) ?_
  rw [if_neg c1]
  by_cases c2 : o.f0 = 2
  · refine Ev.congr (fun k => if_pos c2) ?_
    rw [if_pos c2]
    refine Ev.bind (rdel_ev h o.f1 o.f2) (Ev.bind (del_ev h o.f1 o.f2) ?_)
    rw [decide_eq_true rfl]; exact Ev.now _
  refine Ev.congr (fun k => if_neg c2) ?_
  rw [if_neg c2]
  by_cases c3 : o.f0 = 3
  · refine Ev.congr (fun k => if_pos c3) ?_
    rw [if_pos c3]
    refine Ev.bind (rmov_ev h o.f1 o.f2) (Ev.bind (mov_ev h o.f1 o.f2) ?_)
    rw [decide_eq_true rfl]; exact Ev.now _
  refine Ev.congr (fun k => if_neg c3) ?_
  rw [if_neg c3]
  by_cases c4 : o.f0 = 4
  · refine Ev.congr (fun k => if_pos c4) ?_
    rw [if_pos c4]
    refine Ev.bind (rdrp_ev h o.f1) (Ev.bind (drp_ev h o.f1) ?_)
    rw [decide_eq_true rfl]; exact Ev.now _
  refine Ev.congr (fun k => if_neg c4) ?_
  rw [if_neg c4]
  exact Ev.now _
/-- A script, played. -/
def playS (n : Int) (l : List S34) : Int × Int × List S46 := (l.take 80).foldl stepS (n, 0, [])
theorem inv_fold : ∀ (l : List S34) {N : Nat} {s : Int × Int × List S46}, Inv N s → Inv (N + l.length) (l.foldl stepS s)
  | [], N, s, h => h
  | o :: l, N, s, h => by
    have := inv_fold l (inv_step h o)
    rw [List.foldl_cons, List.length_cons]
    exact this.mono (by omega)
theorem played_l0 {l : List S34} : ∀ (d i : Nat) (s : Int × Int × List S46), i + d = 80 → Inv i s → Ev (fun k => regletlaw16_played.l0 k l (i : Int) s.1 s.2.1 (s.2.2.map cv) s.1 s.2.1 s.2.2) (some ((((l.drop i).take d).foldl stepS s).1, (((l.drop i).take d).foldl stepS s).2.1, (((l.drop i).take d).foldl stepS s).2.2), (((l.drop i).take d).foldl stepS s).1, (((l.drop i).take d).foldl stepS s).2.1, (((l.drop i).take d).foldl stepS s).2.2.map cv)
  | 0, i, s, hd, h => by
    rw [List.take_zero, List.foldl_nil]
    by_cases c : (i : Int) < (l.length : Int)
    · exact Ev.step (fun k => by rw [regletlaw16_played.l0, if_pos c, if_neg (by omega)]) (Ev.now _)
    · exact Ev.step (fun k => by rw [regletlaw16_played.l0, if_neg c]) (Ev.now _)
  | d + 1, i, s, hd, h => by
    cases e : l.drop i with
    | nil =>
      have := dropN e
      rw [List.take_nil, List.foldl_nil]
      exact Ev.step (fun k => by rw [regletlaw16_played.l0, if_neg (by omega)]) (Ev.now _)
    | cons o t =>
      obtain ⟨h1, h2, h3⟩ := d34 e
      have ih := played_l0 (l := l) d (i + 1) (stepS s o) (by omega) (inv_step h o)
      rw [List.take_succ_cons, List.foldl_cons, ← h3]
      refine Ev.step (fun k => by rw [regletlaw16_played.l0, if_pos (by omega), if_pos (by omega), if_pos (by omega), h2]) (Ev.bind (step_ev h (by omega) o) ?_)
      refine Ev.congr (fun k => by rw [if_pos rfl, upN (by omega)]) ih
theorem inv0 {n : Int} (h0 : 0 ≤ n) (h1 : n ≤ 65536) : Inv 0 (n, 0, []) := ⟨h0, h1, Int.le_refl _, Int.le_refl _, Nat.zero_le _, fun x hx => by simp at hx, fun x hx => by simp at hx, List.Pairwise.nil⟩
theorem new_eq {n : Int} (h0 : 0 ≤ n) (h1 : n ≤ 65536) : marks_New.f n = some (some (n, 0, []), 0) := by
  unfold marks_New.f
  rw [if_neg (by omega), if_neg (by omega)]
theorem played_ev {n : Int} (h0 : 0 ≤ n) (h1 : n ≤ 65536) (l : List S34) : Ev (fun k => regletlaw16_played.f k n l) (some ((playS n l).1, (playS n l).2.1, (playS n l).2.2), (playS n l).1, (playS n l).2.1, (playS n l).2.2.map cv) := by
  unfold regletlaw16_played.f
  rw [new_eq h0 h1]
  refine Ev.congr (fun k => by rw [Option.bind_some]) ?_
  exact Ev.congr (fun k => if_pos rfl) (played_l0 (l := l) 80 0 (n, 0, []) rfl (inv0 h0 h1))
theorem playS_inv {n : Int} (h0 : 0 ≤ n) (h1 : n ≤ 65536) (l : List S34) : Inv 80 (playS n l) :=
  (inv_fold (l.take 80) (inv0 h0 h1)).mono (by simp; omega)
/-- A mark, told. -/
def getS (s : Int × Int × List S46) (q : Int) : Int × Int × Bool × Int := match fi s.2.2 q with
  | none => (0, 0, false, 160)
  | some j => ((s.2.2.getD j z46).f0, (s.2.2.getD j z46).f1, (s.2.2.getD j z46).f2, 0)
theorem get_ev {N : Nat} {s : Int × Int × List S46} (h : Inv N s) (q : Int) : Ev (fun k => marks_Set_Get.f k s.1 s.2.1 s.2.2 q) (getS s q) := by
  obtain ⟨sz, nx, l⟩ := s
  have h4 := h.len
  simp only at h4 ⊢
  unfold marks_Set_Get.f getS
  refine Ev.bind (find_ev (by omega)) ?_
  simp only
  cases hf : fi l q with
  | none =>
    rw [at0_none rfl]
    exact Ev.congr (fun k => if_pos (by omega)) (Ev.now _)
  | some j =>
    rw [at0_some rfl]
    have hj := fi_lt hf
    exact Ev.congr (fun k => by rw [if_neg (by omega), if_pos (by omega)]; rfl) (Ev.now _)
def script0 : List S34 := [⟨0, 3, 0, false⟩, ⟨0, 3, 0, true⟩, ⟨1, 3, 2, false⟩]
theorem play0 : playS 5 script0 = (7, 2, [⟨1, 5, false⟩, ⟨2, 3, true⟩]) := by rfl
theorem awake_ev : Ev (fun k => regletlaw16_awake.f k) true := by
  unfold regletlaw16_awake.f
  refine Ev.bind (played_ev (n := 5) (by omega) (by omega) script0) ?_
  have hi := playS_inv (n := 5) (by omega) (by omega) script0
  rw [play0] at hi ⊢
  refine Ev.bind (get_ev hi 1) (Ev.bind (get_ev hi 2) ?_)
  exact Ev.now _
end Go.Proofs.Ythfijdffkbkifaa.PMarksPlay
