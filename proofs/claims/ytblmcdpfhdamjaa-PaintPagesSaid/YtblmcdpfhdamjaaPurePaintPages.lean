/-
What is drawn of a page is what is drawn of its lines, and how far down they reach is told: the pure statement of the law PaintPages. No condition.
-/
import Derived.Test.YtblmcdpfhdamjaaOpensPaintPages
import Derived.Test.YtblmcdpfhdamjaaRLin3PaintPages
import Derived.Test.YtblmcdpfhdamjaaTabPaintPages
namespace Go.Proofs.Ytblmcdpfhdamjaa.Pure
set_option linter.unusedVariables false
set_option linter.unusedSimpArgs false
open Go.RowKit hiding wrap64
open Go.Proofs.Ytblmcdpfhdamjaa.PPaintPages
open Go.Proofs.YtblmcdpfhdamjaaW.PrintWords hiding mx mn

theorem awake_ev : Ev (fun k => regletlaw21_awake.f k) true :=
  Ev.of (fun k => regletlaw21_awake.mono k) (k := 60) (by decide +kernel)
/-- What the program draws of lines. -/
def Drs (T : List S87) : List S25 → List S38 → Prop
  | [], o => o = []
  | x :: r, o => ∃ a b, o = a ++ b ∧ a.length ≤ 1002 ∧ Ev (fun k => paint_Line.f k [⟨T⟩] x.f0 x.f1 x.f2 x.f3 x.f4 x.f5 x.f6 x.f7 x.f8) a ∧ Drs T r b
theorem drs_snoc {T : List S87} {x : S25} {a : List S38} (ha : a.length ≤ 1002) (h : Ev (fun k => paint_Line.f k [⟨T⟩] x.f0 x.f1 x.f2 x.f3 x.f4 x.f5 x.f6 x.f7 x.f8) a) : ∀ (l : List S25) (o : List S38), Drs T l o → Drs T (l ++ [x]) (o ++ a)
  | [], o, ho => by
    have : o = [] := ho
    subst this
    exact ⟨a, [], by simp, ha, h, rfl⟩
  | y :: r, o, ho => by
    obtain ⟨p, q, rfl, h1, h2, h3⟩ := ho
    exact ⟨p, q ++ a, by simp, h1, h2, drs_snoc ha h r q h3⟩
theorem drs_len {T : List S87} : ∀ (l : List S25) (o : List S38), Drs T l o → o.length ≤ 1002 * l.length
  | [], o, h => by have : o = [] := h; subst this; simp
  | x :: r, o, h => by
    obtain ⟨a, b, rfl, h1, _, h3⟩ := h
    have := drs_len r b h3
    rw [List.length_append, List.length_cons]; omega
theorem page_l0 {T : List S87} {L : List S25} (hL : L.length ≤ 30) : ∀ (t : List S25) (i : Nat) (acc o : List S38), L.drop i = t → acc.length ≤ 1002 * i → Drs T t o → Ev (fun k => paint_Page.l0 k [⟨T⟩] acc L (L.length : Int) (i : Int)) (acc ++ o)
  | [], i, acc, o, h, ha, ho => by
    have h1 : o = [] := ho
    have := dropN h
    subst h1
    exact Ev.step (fun k => by rw [paint_Page.l0, if_neg (by omega)]; simp) (Ev.now _)
  | x :: t, i, acc, o, h, ha, ho => by
    obtain ⟨g1, g2, g3⟩ := d28 h
    obtain ⟨a, b, rfl, h1, h2, h3⟩ := ho
    have ih := page_l0 (T := T) hL t (i + 1) (acc ++ a) b g3 (by rw [List.length_append]; omega) h3
    rw [List.append_assoc] at ih
    refine Ev.step (fun k => by rw [paint_Page.l0, if_pos (by omega), if_pos (by omega), if_pos (by omega), g2]) (Ev.bind h2 ?_)
    exact Ev.congr (fun k => by rw [if_pos (by omega), upN (by omega)]) ih
def hgh : List S25 → Int → Int
  | [], a => a
  | x :: t, a => hgh t (mx a (ad_ x.f6 x.f4))
theorem hgh_snoc (x : S25) : ∀ (l : List S25) (a : Int), hgh (l ++ [x]) a = mx (hgh l a) (ad_ x.f6 x.f4)
  | [], a => rfl
  | y :: r, a => by
    show hgh (r ++ [x]) (mx a (ad_ y.f6 y.f4)) = _
    rw [hgh_snoc x r]; rfl
theorem high_l0 {L : List S25} (hL : L.length ≤ 30) : ∀ (t : List S25) (i : Nat) (a : Int), L.drop i = t → Ev (fun k => paint_High.l0 k a L (L.length : Int) (i : Int)) (hgh t a)
  | [], i, a, h => by
    have := dropN h
    exact Ev.step (fun k => by rw [paint_High.l0, if_neg (by omega)]; rfl) (Ev.now _)
  | x :: t, i, a, h => by
    obtain ⟨g1, g2, g3⟩ := d28 h
    have ih := high_l0 hL t (i + 1) (mx a (ad_ x.f6 x.f4)) g3
    refine Ev.step (fun k => by rw [paint_High.l0, if_pos (by omega), if_pos (by omega), if_pos (by omega), g2, add_f, Option.bind_some, upN (by omega)]) ih
theorem law_l0 {T : List S87} (hT : ∀ x ∈ T, RightS x) {L : List S25} (hL : L.length ≤ 30) : ∀ (t : List S25) (i : Nat) (o : List S38), L.drop i = t → i ≤ L.length → Drs T (L.take i) o →
    Ev (fun k => regletlaw21_PaintPages.l0 k T [⟨T⟩] (o.map tm) (hgh (L.take i) 0) (i : Int) L) true
  | [], i, o, h, hi, ho => by
    have hn := dropN h
    have hi2 : i = L.length := by omega
    subst hi2
    rw [List.take_length] at ho ⊢
    have hlen := drs_len L o ho
    have hp : Ev (fun k => paint_Page.f k [⟨T⟩] L) o := by
      have := page_l0 (T := T) hL L 0 [] o rfl (by simp) ho
      exact this
    have hh : Ev (fun k => paint_High.f k L) (hgh L 0) := high_l0 hL L 0 0 rfl
    refine Ev.step (fun k => by rw [regletlaw21_PaintPages.l0, if_neg (by omega)]) ?_
    refine Ev.bind hp (Ev.bind (marks_ev (by omega)) (Ev.bind (same_ev (by rw [List.length_map]; omega)) ?_))
    refine Ev.congr (fun k => by rw [if_pos rfl]) (Ev.bind hh ?_)
    exact Ev.congr (fun k => by rw [show (hgh L 0 == hgh L 0) = true from by simp]) (Ev.now true)
  | x :: t, i, o, h, hi, ho => by
    obtain ⟨g1, g2, g3⟩ := d28 h
    obtain ⟨b, hb, hb2⟩ := line_ev x
    refine Ev.step (fun k => by rw [regletlaw21_PaintPages.l0, if_pos (by omega), if_pos (by omega), g2]) (Ev.bind hb ?_)
    cases b with
    | false => exact Ev.congr (fun k => by rw [if_neg (by simp)]) (Ev.now true)
    | true =>
      obtain ⟨out, h0, h1, h2⟩ := lines2_ev hT (hb2 rfl)
      have hx : L.take (i + 1) = L.take i ++ [x] := by
        rw [List.take_add_one]
        have : L[i]? = some x := by
          have e : (L.drop i)[0]? = some x := by rw [h]; rfl
          rw [List.getElem?_drop] at e; simpa using e
        rw [this]; rfl
      have hlen := drs_len _ o ho
      rw [List.length_take] at hlen
      have ih := law_l0 hT hL t (i + 1) (o ++ out) g3 (by omega) (by rw [hx]; exact drs_snoc h0 h1 _ _ ho)
      rw [hx, hgh_snoc, List.map_append] at ih
      refine Ev.congr (fun k => by rw [if_pos rfl]) (Ev.bind h2 ?_)
      exact Ev.congr (fun k => by rw [if_pos (by rw [List.length_map, List.length_map]; omega), radd_f, Option.bind_some, upN (by omega)]) ih
theorem PaintPages : regletlaw21_PaintPages.PureX := by
  intro t p ht hx
  apply Ev.rounds
  unfold regletlaw21_PaintPages.f
  refine Ev.bind awake_ev ?_
  refine Ev.congr (fun k => by rw [if_pos rfl]) ?_
  obtain ⟨T, hT1, hT2⟩ := table_ev t
  refine Ev.bind hT1 ?_
  have stop : ∀ U, Ev (fun k => regletlaw21_PaintPages.j0 k t U true p.f0) true := fun U => Ev.step (fun k => by rw [regletlaw21_PaintPages.j0, if_pos rfl]) (Ev.now true)
  rcases hT2 with e | ⟨e, hr⟩
  · subst e
    exact Ev.congr (fun k => by rw [if_pos (by rfl)]) (stop _)
  subst e
  refine Ev.congr (fun k => by rw [if_neg (by simp)]) ?_
  by_cases c : (p.f0.length : Int) > 30
  · exact Ev.congr (fun k => by rw [decide_eq_true c]) (stop _)
  · refine Ev.step (fun k => by rw [decide_eq_false c, regletlaw21_PaintPages.j0, if_neg (by decide)]) ?_
    exact law_l0 hr (by omega) p.f0 0 [] rfl (Nat.zero_le _) rfl
end Go.Proofs.Ytblmcdpfhdamjaa.Pure
