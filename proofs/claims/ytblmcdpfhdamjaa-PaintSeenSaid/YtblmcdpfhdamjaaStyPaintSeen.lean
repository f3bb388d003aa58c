import Derived.Test.YtblmcdpfhdamjaaPPaintSeenx
/-! Our own text: kinds of runes, styles and their widths, as the program reckons them. -/
namespace Go.Proofs.Ytblmcdpfhdamjaa.PPaintSeen
set_option linter.unusedVariables false
open Go.RowKit Go.Proofs.YtblmcdpfhdamjaaW.PrintWords

theorem v64 {x : Int} (h0 : -9223372036854775808 ≤ x) (h1 : x ≤ 9223372036854775807) : wrap64 x = x := by rw [wrap64_def]; omega
theorem vup {i : Nat} (h : i < 9223372036854775807) : wrap64 ((i : Int) + 1) = ((i + 1 : Nat) : Int) := by rw [v64 (by omega) (by omega)]; omega
def kd_ (r : Int) : Int :=
  if r = 32 then 1 else if r = 9 then 1 else if r = 160 then 2 else if r = 8239 then 2 else if r = 173 then 3 else if r = 8203 then 4 else
  if r = 8288 then 5 else if r = 65279 then 5 else if r = 45 then 6 else if r = 8208 then 6 else if r = 8232 then 7 else if r = 10 then 8 else 0
theorem kind_ev (r : Int) : Ev (fun k => runes_Kind.f k r) (kd_ r) := by
  refine Ev.of (fun k => runes_Kind.mono _ k) (k := 5) ?_
  unfold runes_Kind.f kd_
  simp only [runes_Kind.j0, runes_Kind.j1, runes_Kind.j2, runes_Kind.j3]
  by_cases h1 : r = 32
  · subst h1; rfl
  by_cases h2 : r = 9
  · subst h2; rfl
  by_cases h3 : r = 160
  · subst h3; rfl
  by_cases h4 : r = 8239
  · subst h4; rfl
  by_cases h5 : r = 173
  · subst h5; rfl
  by_cases h6 : r = 8203
  · subst h6; rfl
  by_cases h7 : r = 8288
  · subst h7; rfl
  by_cases h8 : r = 65279
  · subst h8; rfl
  by_cases h9 : r = 45
  · subst h9; rfl
  by_cases h10 : r = 8208
  · subst h10; rfl
  by_cases h11 : r = 8232
  · subst h11; rfl
  by_cases h12 : r = 10
  · subst h12; rfl
  simp [h1, h2, h3, h4, h5, h6, h7, h8, h9, h10, h11, h12]
def stg_ (T : List S87) (i : Int) : S87 := if i < 0 then z87 else if i ≥ (T.length : Int) then z87 else rd_T87 T i
def up_ (x : S87) : Int × Int × Int × Int × Int × Int × List S134 × Bool := (x.f0, x.f1, x.f2, x.f3, x.f4, x.f5, x.f6, x.f7)
theorem of_f (T : List S87) (i : Int) : metrics_Table_of.f [⟨T⟩] i = some (up_ (stg_ T i)) := by
  have e : (rd_T124 [⟨T⟩] 0).f0 = T := rfl
  have e2 : (0 : Int) < (([⟨T⟩] : List S124).length : Int) := by simp
  unfold metrics_Table_of.f metrics_Table_Check.f stg_
  rw [e]
  by_cases h : i < 0
  · rw [if_pos h, if_pos h, Option.bind_some, if_neg (by decide)]; rfl
  rw [if_neg h, if_neg h, if_pos e2]
  by_cases h2 : i ≥ (T.length : Int)
  · rw [if_pos h2, if_pos h2, Option.bind_some, if_neg (by decide)]; rfl
  rw [if_neg h2, if_neg h2, Option.bind_some, if_pos rfl, if_pos e2, if_pos (by omega), if_pos (by omega)]
  rfl
/-- Ranges one behind the other. -/
structure Srt (l : List S134) : Prop where
  len : l.length ≤ 64
  le : ∀ i : Nat, i < l.length → (rd_T134 l (i : Int)).f0 ≤ (rd_T134 l (i : Int)).f1
  lt : ∀ i j : Nat, i < j → j < l.length → (rd_T134 l (i : Int)).f1 < (rd_T134 l (j : Int)).f0
def lk_ (o r : Int) : List S134 → Int
  | [] => o
  | x :: t => if x.f0 ≤ r ∧ r ≤ x.f1 then x.f2 else lk_ o r t
theorem lk_drop {o r : Int} : ∀ (n : Nat) (l : List S134), n ≤ l.length → (∀ i : Nat, i < n → (rd_T134 l (i : Int)).f1 < r) → lk_ o r l = lk_ o r (l.drop n)
  | 0, l, _, _ => rfl
  | n + 1, [], h, _ => by simp at h
  | n + 1, x :: t, h, g => by
    have g0 := g 0 (by omega)
    have e0 : rd_T134 (x :: t) ((0 : Nat) : Int) = x := rfl
    rw [e0] at g0
    rw [List.drop_succ_cons, ← lk_drop n t (by simpa using h) (fun i hi => by
      have := g (i + 1) (by omega)
      have e : rd_T134 (x :: t) ((i + 1 : Nat) : Int) = rd_T134 t (i : Int) := by unfold rd_T134; rw [Int.toNat_natCast, Int.toNat_natCast, List.getD_cons_succ]
      rwa [e] at this)]
    show (if x.f0 ≤ r ∧ r ≤ x.f1 then x.f2 else lk_ o r t) = _
    rw [if_neg (by omega)]
theorem lk_none {o r : Int} : ∀ (l : List S134), (∀ x ∈ l, r < x.f0) → lk_ o r l = o
  | [], _ => rfl
  | x :: t, h => by
    show (if x.f0 ≤ r ∧ r ≤ x.f1 then x.f2 else lk_ o r t) = _
    have := h x List.mem_cons_self
    rw [if_neg (by omega), lk_none t (fun y hy => h y (List.mem_cons_of_mem _ hy))]
theorem rd110 {l : List S134} {i : Nat} (h : i < l.length) : rd_T134 l (i : Int) = l[i] := by
  unfold rd_T134
  rw [Int.toNat_natCast, List.getD_eq_getElem?_getD, List.getElem?_eq_getElem h]
  rfl
theorem look_l0 {l : List S134} (hl : Srt l) {r : Int} (b0 b1 b2 b3 b4 o : Int) (b7 : Bool) : ∀ (d lo hi : Nat), hi - lo ≤ d → lo ≤ hi → hi ≤ l.length → (∀ i : Nat, i < lo → (rd_T134 l (i : Int)).f1 < r) → (∀ i : Nat, hi ≤ i → i < l.length → r ≤ (rd_T134 l (i : Int)).f1) →
    Ev (fun k => metrics_lookup.l0 k r (lo : Int) (hi : Int) b0 b1 b2 b3 b4 o l b7) (lk_ o r l)
  | d, lo, hi, hd, h1, h2, ha, hb => by
    have hlen := hl.len
    by_cases c : lo < hi
    case neg =>
      have e : lo = hi := by omega
      subst e
      rw [lk_drop lo l h2 ha]
      by_cases c2 : lo < l.length
      · have hr := rd110 c2
        have hd2 : l.drop lo = l[lo] :: l.drop (lo + 1) := List.drop_eq_getElem_cons c2
        have hbl := hb lo (Nat.le_refl _) c2
        rw [hr] at hbl
        rw [hd2]
        have e3 : lk_ o r (l[lo] :: l.drop (lo + 1)) = if l[lo].f0 ≤ r then l[lo].f2 else o := by
          show (if l[lo].f0 ≤ r ∧ r ≤ l[lo].f1 then l[lo].f2 else lk_ o r (l.drop (lo + 1))) = _
          by_cases c3 : l[lo].f0 ≤ r
          · rw [if_pos ⟨c3, hbl⟩, if_pos c3]
          · rw [if_neg (by omega), if_neg c3]
            refine lk_none _ (fun x hx => ?_)
            obtain ⟨j, hj, rfl⟩ := List.mem_iff_getElem.1 hx
            rw [List.length_drop] at hj
            rw [List.getElem_drop]
            have h4 := hl.lt lo (lo + 1 + j) (by omega) (by omega)
            rw [rd110 c2, rd110 (i := lo + 1 + j) (by omega)] at h4
            omega
        rw [e3]
        refine Ev.step (f := fun _ => some (if l[lo].f0 ≤ r then l[lo].f2 else o)) (fun k => ?_) (Ev.now _)
        rw [metrics_lookup.l0, if_neg (by omega), if_pos (by omega), if_pos (by omega), hr]
        split <;> rfl
      · rw [List.drop_of_length_le (by omega)]
        refine Ev.step (f := fun _ => some o) (fun k => ?_) (Ev.now _)
        rw [metrics_lookup.l0, if_neg (by omega), if_neg (by omega)]
    have w1 : wrap64 ((lo : Int) + (hi : Int)) = ((lo + hi : Nat) : Int) := by rw [v64 (by omega) (by omega)]; omega
    have w2 : wrap64 (Int.tdiv ((lo + hi : Nat) : Int) 2) = (((lo + hi) / 2 : Nat) : Int) := by
      rw [Int.tdiv_eq_ediv_of_nonneg (by omega), v64 (by omega) (by omega)]; omega
    have m1 : lo ≤ (lo + hi) / 2 := by omega
    have m2 : (lo + hi) / 2 < hi := by omega
    generalize (lo + hi) / 2 = m at *
    match d, hd with
    | 0, hd => omega
    | d + 1, hd =>
      by_cases c3 : (rd_T134 l (m : Int)).f1 < r
      · have ih := look_l0 hl b0 b1 b2 b3 b4 o b7 d (m + 1) hi (by omega) (by omega) h2 (fun i hi2 => by
          rcases Nat.lt_or_ge i m with f | f
          · have f1 := hl.lt i m f (by omega)
            have f2 := hl.le m (by omega)
            omega
          · have : i = m := by omega
            subst this; exact c3) hb
        refine Ev.step (fun k => ?_) ih
        rw [metrics_lookup.l0, if_pos (by omega), w1, w2, if_pos (by omega), if_pos (by omega), if_pos c3, vup (by omega)]
      · have ih := look_l0 hl b0 b1 b2 b3 b4 o b7 d lo m (by omega) m1 (by omega) ha (fun i i1 i2 => by
          rcases Nat.eq_or_lt_of_le i1 with f | f
          · subst f; omega
          · have f1 := hl.lt m i f i2
            have f2 := hl.le i i2
            omega)
        refine Ev.step (fun k => ?_) ih
        rw [metrics_lookup.l0, if_pos (by omega), w1, w2, if_pos (by omega), if_pos (by omega), if_neg c3]
theorem look_ev {l : List S134} (hl : Srt l) (r b0 b1 b2 b3 b4 o : Int) (b7 : Bool) : Ev (fun k => metrics_lookup.f k b0 b1 b2 b3 b4 o l b7 r) (lk_ o r l) :=
  look_l0 hl b0 b1 b2 b3 b4 o b7 l.length 0 l.length (by omega) (by omega) (Nat.le_refl _) (fun i h => by omega) (fun i h1 h2 => by omega)
/-- Styles that are right. -/
structure RightS (x : S87) : Prop where
  sp : 0 ≤ x.f1 ∧ x.f1 ≤ 1048576
  st : 0 ≤ x.f2 ∧ x.f2 ≤ 1048576
  sh : 0 ≤ x.f3 ∧ x.f3 ≤ 1048576
  hy : 0 ≤ x.f4 ∧ x.f4 ≤ 1048576
  ot : 0 ≤ x.f5 ∧ x.f5 ≤ 1048576
  srt : Srt x.f6
  wd : ∀ y ∈ x.f6, 0 ≤ y.f2 ∧ y.f2 ≤ 1048576
theorem z73_right : RightS z87 :=
  ⟨by decide, by decide, by decide, by decide, by decide, ⟨by decide, fun i h => absurd h (by simp [z87]), fun i j h1 h => absurd h (by simp [z87])⟩, fun y hy => by simp [z87] at hy⟩
theorem stg_right {T : List S87} (h : ∀ x ∈ T, RightS x) (i : Int) : RightS (stg_ T i) := by
  unfold stg_
  split
  · exact z73_right
  split
  · exact z73_right
  · refine h _ ?_
    unfold rd_T87
    rw [List.getD_eq_getElem?_getD, List.getElem?_eq_getElem (by omega)]
    exact List.getElem_mem _
theorem lk_rng {o r : Int} (ho : 0 ≤ o ∧ o ≤ 1048576) : ∀ (l : List S134), (∀ y ∈ l, 0 ≤ y.f2 ∧ y.f2 ≤ 1048576) → 0 ≤ lk_ o r l ∧ lk_ o r l ≤ 1048576
  | [], _ => ho
  | x :: t, h => by
    show 0 ≤ (if x.f0 ≤ r ∧ r ≤ x.f1 then x.f2 else lk_ o r t) ∧ (if x.f0 ≤ r ∧ r ≤ x.f1 then x.f2 else lk_ o r t) ≤ 1048576
    split
    · exact h x List.mem_cons_self
    · exact lk_rng ho t (fun y hy => h y (List.mem_cons_of_mem _ hy))
def wd_ (T : List S87) (i r : Int) : Int :=
  if kd_ r = 1 then (stg_ T i).f1 else if kd_ r = 2 then (stg_ T i).f1 else if kd_ r = 3 then 0 else if kd_ r = 4 then 0 else if kd_ r = 5 then 0 else if kd_ r = 7 then 0 else if kd_ r = 8 then 0 else lk_ (stg_ T i).f5 r (stg_ T i).f6
theorem wd_rng {T : List S87} (h : ∀ x ∈ T, RightS x) (i r : Int) : 0 ≤ wd_ T i r ∧ wd_ T i r ≤ 1048576 := by
  have hs := stg_right h i
  have h1 := hs.sp
  have h2 := lk_rng (r := r) hs.ot _ hs.wd
  unfold wd_
  (repeat' split) <;> omega
theorem width_ev {T : List S87} (h : ∀ x ∈ T, RightS x) {i r : Int} (hr : 0 ≤ r ∧ r ≤ 2097151) : Ev (fun k => metrics_Table_Width.f k [⟨T⟩] i r) (wd_ T i r) := by
  have hs := stg_right h i
  unfold metrics_Table_Width.f
  rw [of_f]
  simp only [Option.bind_some]
  refine Ev.bind (kind_ev r) ?_
  have key : ∀ b : Bool, (b = true ↔ kd_ r = 1 ∨ kd_ r = 2) → Ev (fun k => metrics_Table_Width.j0 k r (kd_ r) b (up_ (stg_ T i)).1 (up_ (stg_ T i)).2.1 (up_ (stg_ T i)).2.2.1 (up_ (stg_ T i)).2.2.2.1 (up_ (stg_ T i)).2.2.2.2.1 (up_ (stg_ T i)).2.2.2.2.2.1 (up_ (stg_ T i)).2.2.2.2.2.2.1 (up_ (stg_ T i)).2.2.2.2.2.2.2) (wd_ T i r) := by
    intro b hb
    unfold wd_
    by_cases c : kd_ r = 1 ∨ kd_ r = 2
    · have e : (if kd_ r = 1 then (stg_ T i).f1 else if kd_ r = 2 then (stg_ T i).f1 else if kd_ r = 3 then 0 else if kd_ r = 4 then 0 else if kd_ r = 5 then 0 else if kd_ r = 7 then 0 else if kd_ r = 8 then 0 else lk_ (stg_ T i).f5 r (stg_ T i).f6) = (stg_ T i).f1 := by
        rcases c with c | c
        · rw [if_pos c]
        · rw [if_neg (by omega), if_pos c]
      rw [e, hb.2 c]
      exact Ev.step (fun k => by rw [metrics_Table_Width.j0, if_pos rfl]; rfl) (Ev.now _)
    · have hb' : ¬ b = true := fun x => c (hb.1 x)
      have c1 : ¬ kd_ r = 1 := fun x => c (.inl x)
      have c2 : ¬ kd_ r = 2 := fun x => c (.inr x)
      rw [if_neg c1, if_neg c2]
      by_cases c3 : kd_ r = 3
      · rw [if_pos c3]; exact Ev.step (fun k => by rw [metrics_Table_Width.j0, if_neg hb', if_pos c3]) (Ev.now _)
      by_cases c4 : kd_ r = 4
      · rw [if_neg c3, if_pos c4]; exact Ev.step (fun k => by rw [metrics_Table_Width.j0, if_neg hb', if_neg c3, if_pos c4]) (Ev.now _)
      by_cases c5 : kd_ r = 5
      · rw [if_neg c3, if_neg c4, if_pos c5]; exact Ev.step (fun k => by rw [metrics_Table_Width.j0, if_neg hb', if_neg c3, if_neg c4, if_pos c5]) (Ev.now _)
      by_cases c7 : kd_ r = 7
      · rw [if_neg c3, if_neg c4, if_neg c5, if_pos c7]; exact Ev.step (fun k => by rw [metrics_Table_Width.j0, if_neg hb', if_neg c3, if_neg c4, if_neg c5, if_pos c7]) (Ev.now _)
      by_cases c8 : kd_ r = 8
      · rw [if_neg c3, if_neg c4, if_neg c5, if_neg c7, if_pos c8]; exact Ev.step (fun k => by rw [metrics_Table_Width.j0, if_neg hb', if_neg c3, if_neg c4, if_neg c5, if_neg c7, if_pos c8]) (Ev.now _)
      rw [if_neg c3, if_neg c4, if_neg c5, if_neg c7, if_neg c8]
      refine Ev.step (fun k => by rw [metrics_Table_Width.j0, if_neg hb', if_neg c3, if_neg c4, if_neg c5, if_neg c7, if_neg c8, v64 (by omega) (by omega)]) ?_
      exact Ev.bind (look_ev hs.srt r _ _ _ _ _ _ _) (Ev.now _)
  by_cases c : kd_ r = 1
  · exact Ev.congr (fun k => by rw [if_pos c]) (key (kd_ r == 1) (by simp [c]))
  · exact Ev.congr (fun k => by rw [if_neg c]) (key (kd_ r == 2) (by simp [c]))
def sa_ : List S89 → Int → Int
  | [], _ => 0
  | y :: t, a => if y.f0 ≤ 0 then sa_ t a else if a < y.f0 then y.f1 else sa_ t (a - y.f0)
theorem sa_l0 {l : List S89} (hl : l.length ≤ 1000) : ∀ (t : List S89) (i : Nat) (a : Int), l.drop i = t → 0 ≤ a → a ≤ 1000000 →
    Ev (fun k => locate_styleAt.l0 k a l (l.length : Int) (i : Int)) (sa_ t a)
  | [], i, a, h, h0, h1 => by
    have : l.length ≤ i := by
      have := congrArg List.length h
      rw [List.length_drop, List.length_nil] at this
      omega
    exact Ev.step (fun k => by rw [locate_styleAt.l0, if_neg (by omega)]; rfl) (Ev.now _)
  | y :: t, i, a, h, h0, h1 => by
    have hi : i < l.length := by
      have := congrArg List.length h
      rw [List.length_drop, List.length_cons] at this
      omega
    have hd : l.drop i = l[i] :: l.drop (i + 1) := List.drop_eq_getElem_cons hi
    rw [hd] at h
    obtain ⟨e1, e2⟩ := List.cons.inj h
    have e : rd_T89 l (i : Int) = y := by
      unfold rd_T89
      rw [Int.toNat_natCast, List.getD_eq_getElem?_getD, List.getElem?_eq_getElem hi]
      exact e1
    show Ev _ (if y.f0 ≤ 0 then sa_ t a else if a < y.f0 then y.f1 else sa_ t (a - y.f0))
    by_cases c : y.f0 ≤ 0
    · rw [if_pos c]
      refine Ev.step (fun k => ?_) (sa_l0 hl t (i + 1) a e2 h0 h1)
      rw [locate_styleAt.l0, if_pos (by omega), if_pos (by omega), if_pos (by omega), e, if_pos c, vup (by omega)]
    rw [if_neg c]
    by_cases d : a < y.f0
    · rw [if_pos d]
      refine Ev.step (f := fun _ => some y.f1) (fun k => ?_) (Ev.now _)
      rw [locate_styleAt.l0, if_pos (by omega), if_pos (by omega), if_pos (by omega), e, if_neg c, if_pos d]
    · rw [if_neg d]
      refine Ev.step (fun k => ?_) (sa_l0 hl t (i + 1) (a - y.f0) e2 (by omega) (by omega))
      rw [locate_styleAt.l0, if_pos (by omega), if_pos (by omega), if_pos (by omega), e, if_neg c, if_neg d, vup (by omega), v64 (x := a - y.f0) (by omega) (by omega)]
theorem sa_ev {l : List S89} (hl : l.length ≤ 1000) {a : Int} (h0 : 0 ≤ a) (h1 : a ≤ 1000000) : Ev (fun k => locate_styleAt.f k l a) (sa_ l a) :=
  sa_l0 hl l 0 a rfl h0 h1
def cl_ (a : Int) : Int := mx (-1152921504606846976) (mn 1152921504606846976 a)
theorem cl_rng (a : Int) : -1152921504606846976 ≤ cl_ a ∧ cl_ a ≤ 1152921504606846976 := by unfold cl_ mx mn; (repeat' split) <;> omega
theorem cl_id {a : Int} (h0 : -1152921504606846976 ≤ a) (h1 : a ≤ 1152921504606846976) : cl_ a = a := by unfold cl_ mx mn; (repeat' split) <;> omega
def ad_ (a b : Int) : Int := cl_ (cl_ a + cl_ b)
theorem add_f (a b : Int) : scaled_Add.f a b = some (ad_ a b) := by
  have h1 := cl_rng a
  have h2 := cl_rng b
  unfold scaled_Add.f scaled_Clamp.f ad_
  simp only [Option.bind_some]
  rw [v64 (x := mx (-1152921504606846976) (mn 1152921504606846976 a) + mx (-1152921504606846976) (mn 1152921504606846976 b)) (by unfold cl_ at h1 h2; omega) (by unfold cl_ at h1 h2; omega)]
  rfl
end Go.Proofs.Ytblmcdpfhdamjaa.PPaintSeen
