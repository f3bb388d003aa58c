import Derived.Test.YtblmcdpfhdamjaaStpPaintSeen
import Derived.Test.YtblmcdpfhdamjaaBig2PaintSeen
/-! Our own text: the reference's kinds, styles and places of a right line are the program's. -/
namespace Go.Proofs.Ytblmcdpfhdamjaa.PPaintSeen
set_option linter.unusedVariables false
open Go.RowKit Go.Proofs.YtblmcdpfhdamjaaW.PrintWords

def sel_ (r : Int) : List (List Int) → Nat → Int
  | [], _ => 0
  | L :: T, i => if r ∈ L then (i : Int) else sel_ r T (i + 1)
theorem rdL9 {x : List (List Int)} {i : Nat} (h : i < x.length) : rd_L12 x (i : Int) = x[i] := by
  unfold rd_L12
  rw [Int.toNat_natCast, List.getD_eq_getElem?_getD, List.getElem?_eq_getElem h]; rfl
theorem rdI {x : List Int} {i : Nat} (h : i < x.length) : rd x (i : Int) = x[i] := by
  unfold rd
  rw [Int.toNat_natCast, List.getD_eq_getElem?_getD, List.getElem?_eq_getElem h]; rfl
theorem rk_l1 {r : Int} {x : List (List Int)} {i : Nat} {R : Int} (hx : x.length ≤ 100) (hi : i < x.length) (hl : x[i].length ≤ 100) (h1 : r ∈ x[i] → R = (i : Int)) (h2 : ¬ r ∈ x[i] → Ev (fun k => regletref02_Kind.l0 k r x ((i + 1 : Nat) : Int)) R) : ∀ d j : Nat, j + d = x[i].length → (∀ q (hq : q < x[i].length), q < j → x[i][q] ≠ r) →
    Ev (fun k => regletref02_Kind.l1 k r x (i : Int) (j : Int)) R
  | 0, j, e, hn => by
    have hnot : ¬ r ∈ x[i] := fun h => by
      obtain ⟨q, hq, e2⟩ := List.mem_iff_getElem.1 h
      exact hn q hq (by omega) e2
    refine Ev.step (fun k => ?_) (h2 hnot)
    rw [regletref02_Kind.l1, if_pos (by omega), if_pos (by omega), rdL9 hi, if_neg (by omega), vup (by omega)]
  | d + 1, j, e, hn => by
    have hj : j < x[i].length := by omega
    by_cases c : x[i][j] = r
    · have hR := h1 (by rw [← c]; exact List.getElem_mem hj)
      refine Ev.step (f := fun _ => some R) (fun k => ?_) (Ev.now R)
      rw [regletref02_Kind.l1, if_pos (by omega), if_pos (by omega), rdL9 hi, if_pos (by omega), if_pos (by omega), rdI hj, if_pos c, hR]
    · have ih := rk_l1 hx hi hl h1 h2 d (j + 1) (by omega) (fun q hq hq2 => by
        rcases Nat.lt_or_ge q j with f | f
        · exact hn q hq f
        · have : q = j := by omega
          subst this; exact c)
      refine Ev.step (fun k => ?_) ih
      rw [regletref02_Kind.l1, if_pos (by omega), if_pos (by omega), rdL9 hi, if_pos (by omega), if_pos (by omega), rdI hj, if_neg c, vup (by omega)]
theorem rk_l0 {r : Int} {x : List (List Int)} (hx : x.length ≤ 100) (hl : ∀ L ∈ x, L.length ≤ 100) : ∀ d i : Nat, i + d = x.length → Ev (fun k => regletref02_Kind.l0 k r x (i : Int)) (sel_ r (x.drop i) i)
  | 0, i, e => by
    rw [List.drop_of_length_le (by omega)]
    exact Ev.step (fun k => by rw [regletref02_Kind.l0, if_neg (by omega)]; rfl) (Ev.now _)
  | d + 1, i, e => by
    have hi : i < x.length := by omega
    have ih := rk_l0 (r := r) hx hl d (i + 1) (by omega)
    rw [List.drop_eq_getElem_cons hi]
    refine Ev.step (fun k => by rw [regletref02_Kind.l0, if_pos (by omega)]) ?_
    refine rk_l1 hx hi (hl _ (List.getElem_mem hi)) (fun h => ?_) (fun h => ?_) x[i].length 0 (by omega) (fun q _ hq => by omega)
    · show (if r ∈ x[i] then (i : Int) else _) = _
      rw [if_pos h]
    · show Ev _ (if r ∈ x[i] then (i : Int) else sel_ r (x.drop (i + 1)) (i + 1))
      rw [if_neg h]; exact ih
theorem rkind_ev (r : Int) : Ev (fun k => regletref02_Kind.f k r) (kd_ r) := by
  have h := rk_l0 (r := r) (x := [([] : List Int), [32, 9], [160, 8239], [173], [8203], [8288, 65279], [45, 8208], [8232], [10]]) (by decide) (by decide) 8 1 rfl
  have e : sel_ r ([([] : List Int), [32, 9], [160, 8239], [173], [8203], [8288, 65279], [45, 8208], [8232], [10]].drop 1) 1 = kd_ r := by
    unfold kd_
    simp only [List.drop_succ_cons, List.drop_zero, sel_, List.mem_cons, List.not_mem_nil, or_false]
    by_cases h1 : r = 32
    · subst h1; rfl
    by_cases h2 : r = 9
    · subst h2; rfl
    by_cases h3 : r = 160
    · subst h3; rfl
    by_cases h4 : r = 8239
    · subst h4; rfl
    by_cases h5 : r = 173
    · subst h5; rfl
    by_cases h6 : r = 8203
    · subst h6; rfl
    by_cases h7 : r = 8288
    · subst h7; rfl
    by_cases h8 : r = 65279
    · subst h8; rfl
    by_cases h9 : r = 45
    · subst h9; rfl
    by_cases h10 : r = 8208
    · subst h10; rfl
    by_cases h11 : r = 8232
    · subst h11; rfl
    by_cases h12 : r = 10
    · subst h12; rfl
    simp [h1, h2, h3, h4, h5, h6, h7, h8, h9, h10, h11, h12]
  rw [e] at h
  exact h
theorem rof_f (T : List S87) (i : Int) : regletref04_Of.f T i = some (up_ (stg_ T i)) := by
  unfold regletref04_Of.f stg_
  by_cases h : i < 0
  · rw [if_pos h, if_pos h]; rfl
  rw [if_neg h, if_neg h]
  by_cases h2 : i ≥ (T.length : Int)
  · rw [if_pos h2, if_pos h2]; rfl
  rw [if_neg h2, if_neg h2, if_pos (by omega), if_pos (by omega)]
  rfl
theorem radd_f (a b : Int) : regletref01_Add.f a b = some (ad_ a b) := by
  have h1 := cl_rng a
  have h2 := cl_rng b
  unfold regletref01_Add.f ad_
  simp only [clamp_f, Option.bind_some]
  rw [v64 (by omega) (by omega)]
theorem rs_l0 {l : List S89} (hl : l.length ≤ 1000) : ∀ (t : List S89) (i : Nat) (a : Int), l.drop i = t → 0 ≤ a → a ≤ 1000000 →
    Ev (fun k => regletref15_style.l0 k l a (i : Int)) (sa_ t a)
  | [], i, a, h, h0, h1 => by
    have := dropN h
    exact Ev.step (fun k => by rw [regletref15_style.l0, if_neg (by omega)]; rfl) (Ev.now _)
  | y :: t, i, a, h, h0, h1 => by
    obtain ⟨hi, e, e2⟩ := d75 h
    show Ev _ (if y.f0 ≤ 0 then sa_ t a else if a < y.f0 then y.f1 else sa_ t (a - y.f0))
    by_cases c : y.f0 ≤ 0
    · rw [if_pos c]
      refine Ev.step (fun k => ?_) (rs_l0 hl t (i + 1) a e2 h0 h1)
      rw [regletref15_style.l0, if_pos (by omega), if_pos (by omega), e, if_pos c, vup (by omega)]
    rw [if_neg c]
    by_cases d : a < y.f0
    · rw [if_pos d]
      refine Ev.step (f := fun _ => some y.f1) (fun k => ?_) (Ev.now _)
      rw [regletref15_style.l0, if_pos (by omega), if_pos (by omega), e, if_neg c, if_pos d]
    · rw [if_neg d]
      refine Ev.step (fun k => ?_) (rs_l0 hl t (i + 1) (a - y.f0) e2 (by omega) (by omega))
      rw [regletref15_style.l0, if_pos (by omega), if_pos (by omega), e, if_neg c, if_neg d, vup (by omega), v64 (x := a - y.f0) (by omega) (by omega)]
theorem rs_ev {l : List S89} (hl : l.length ≤ 1000) {a : Int} (h0 : 0 ≤ a) (h1 : a ≤ 1000000) : Ev (fun k => regletref15_style.f k l a) (sa_ l a) := rs_l0 hl l 0 a rfl h0 h1
theorem rw_l0 {l : List S134} (hl : l.length ≤ 64) {r b0 b1 b2 b3 b4 o : Int} {b7 : Bool} : ∀ (t : List S134) (i : Nat), l.drop i = t → Ev (fun k => regletref04_Width.l0 k r (i : Int) b0 b1 b2 b3 b4 o l b7) (lk_ o r t)
  | [], i, h => by
    have := dropN h
    exact Ev.step (fun k => by rw [regletref04_Width.l0, if_neg (by omega)]; rfl) (Ev.now _)
  | y :: t, i, h => by
    obtain ⟨hi, e, e2⟩ := dropI z134 h
    have e' : rd_T134 l (i : Int) = y := by unfold rd_T134; rw [Int.toNat_natCast]; exact e
    have ih := rw_l0 hl (r := r) (b0 := b0) (b1 := b1) (b2 := b2) (b3 := b3) (b4 := b4) (o := o) (b7 := b7) t (i + 1) e2
    show Ev _ (if y.f0 ≤ r ∧ r ≤ y.f1 then y.f2 else lk_ o r t)
    by_cases c : y.f0 ≤ r
    · by_cases d : r ≤ y.f1
      · rw [if_pos ⟨c, d⟩]
        refine Ev.step (f := fun _ => some y.f2) (fun k => ?_) (Ev.now _)
        rw [regletref04_Width.l0, if_pos (by omega), if_pos (by omega), e', if_pos c, if_pos d]
      · rw [if_neg (fun x => d x.2)]
        refine Ev.step (fun k => ?_) ih
        rw [regletref04_Width.l0, if_pos (by omega), if_pos (by omega), e', if_pos c, if_neg d, vup (by omega)]
    · rw [if_neg (fun x => c x.1)]
      refine Ev.step (fun k => ?_) ih
      rw [regletref04_Width.l0, if_pos (by omega), if_pos (by omega), e', if_neg c, vup (by omega)]
theorem rwidth_ev {T : List S87} (h : ∀ x ∈ T, RightS x) (i r : Int) : Ev (fun k => regletref04_Width.f k T i r) (wd_ T i r) := by
  have hs := stg_right h i
  unfold regletref04_Width.f
  rw [rof_f]
  simp only [Option.bind_some]
  refine Ev.bind (rkind_ev r) ?_
  have key : ∀ b : Bool, (b = true ↔ kd_ r = 1 ∨ kd_ r = 2) → Ev (fun k => regletref04_Width.j0 k r (kd_ r) b (up_ (stg_ T i)).1 (up_ (stg_ T i)).2.1 (up_ (stg_ T i)).2.2.1 (up_ (stg_ T i)).2.2.2.1 (up_ (stg_ T i)).2.2.2.2.1 (up_ (stg_ T i)).2.2.2.2.2.1 (up_ (stg_ T i)).2.2.2.2.2.2.1 (up_ (stg_ T i)).2.2.2.2.2.2.2) (wd_ T i r) := by
    intro b hb
    unfold wd_
    by_cases c : kd_ r = 1 ∨ kd_ r = 2
    · have e : (if kd_ r = 1 then (stg_ T i).f1 else if kd_ r = 2 then (stg_ T i).f1 else if kd_ r = 3 then 0 else if kd_ r = 4 then 0 else if kd_ r = 5 then 0 else if kd_ r = 7 then 0 else if kd_ r = 8 then 0 else lk_ (stg_ T i).f5 r (stg_ T i).f6) = (stg_ T i).f1 := by
        rcases c with c | c
        · rw [if_pos c]
        · rw [if_neg (by omega), if_pos c]
      rw [e, hb.2 c]
      exact Ev.step (fun k => by rw [regletref04_Width.j0, if_pos rfl]; rfl) (Ev.now _)
    · have hb' : ¬ b = true := fun x => c (hb.1 x)
      have c1 : ¬ kd_ r = 1 := fun x => c (.inl x)
      have c2 : ¬ kd_ r = 2 := fun x => c (.inr x)
      rw [if_neg c1, if_neg c2]
      by_cases c3 : kd_ r = 3
      · rw [if_pos c3]; exact Ev.step (fun k => by rw [regletref04_Width.j0, if_neg hb', if_pos c3]) (Ev.now _)
      by_cases c4 : kd_ r = 4
      · rw [if_neg c3, if_pos c4]; exact Ev.step (fun k => by rw [regletref04_Width.j0, if_neg hb', if_neg c3, if_pos c4]) (Ev.now _)
      by_cases c5 : kd_ r = 5
      · rw [if_neg c3, if_neg c4, if_pos c5]; exact Ev.step (fun k => by rw [regletref04_Width.j0, if_neg hb', if_neg c3, if_neg c4, if_pos c5]) (Ev.now _)
      by_cases c7 : kd_ r = 7
      · rw [if_neg c3, if_neg c4, if_neg c5, if_pos c7]; exact Ev.step (fun k => by rw [regletref04_Width.j0, if_neg hb', if_neg c3, if_neg c4, if_neg c5, if_pos c7]) (Ev.now _)
      by_cases c8 : kd_ r = 8
      · rw [if_neg c3, if_neg c4, if_neg c5, if_neg c7, if_pos c8]; exact Ev.step (fun k => by rw [regletref04_Width.j0, if_neg hb', if_neg c3, if_neg c4, if_neg c5, if_neg c7, if_pos c8]) (Ev.now _)
      rw [if_neg c3, if_neg c4, if_neg c5, if_neg c7, if_neg c8]
      refine Ev.step (fun k => by rw [regletref04_Width.j0, if_neg hb', if_neg c3, if_neg c4, if_neg c5, if_neg c7, if_neg c8]) ?_
      exact rw_l0 hs.srt.len _ 0 rfl
  by_cases c : kd_ r = 1
  · exact Ev.congr (fun k => by rw [if_pos c]) (key (kd_ r == 1) (by simp [c]))
  · exact Ev.congr (fun k => by rw [if_neg c]) (key (kd_ r == 2) (by simp [c]))
/-- How wide a space of a line is. -/
def spw_ (T : List S87) (num den i : Int) : Int :=
  if num > 0 then wrap64 ((stg_ T i).f1 + scl_ (stg_ T i).f2 num den) else if num < 0 then wrap64 ((stg_ T i).f1 + scl_ (stg_ T i).f3 num den) else (stg_ T i).f1
theorem spw_ev {T : List S87} (h : ∀ x ∈ T, RightS x) {s : ByteArray} {R : List S89} {b2 b3 b4 b6 : Int} {b5 b7 b8 : Bool} (i : Int) : Ev (fun k => locate_space.f k [⟨T⟩] s R b2 b3 b4 b5 b6 b7 b8 i) (spw_ T b2 b3 i) := by
  have hs := stg_right h i
  unfold locate_space.f metrics_Table_Space.f spw_
  rw [of_f]
  simp only [Option.bind_some]
  by_cases c : b2 > 0
  · rw [if_pos c]
    refine Ev.congr (f := fun k => (scaled_Scale.f k (stg_ T i).f2 b2 b3).bind fun t => some (wrap64 ((stg_ T i).f1 + t))) (fun k => by rw [if_pos c]; rfl) ?_
    exact Ev.bind (scale_ev (num := b2) (den := b3) hs.st.1 hs.st.2) (Ev.now _)
  rw [if_neg c]
  by_cases d : b2 < 0
  · rw [if_pos d]
    refine Ev.congr (f := fun k => (scaled_Scale.f k (stg_ T i).f3 b2 b3).bind fun t => some (wrap64 ((stg_ T i).f1 + t))) (fun k => by rw [if_neg c, if_pos d]; rfl) ?_
    exact Ev.bind (scale_ev (num := b2) (den := b3) hs.sh.1 hs.sh.2) (Ev.now _)
  · rw [if_neg d]
    exact Ev.congr (fun k => by rw [if_neg c, if_neg d]; rfl) (Ev.now _)
end Go.Proofs.Ytblmcdpfhdamjaa.PPaintSeen
