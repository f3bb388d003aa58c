/-
The byte at any spot is what the reference says: the pure statement of the law LocateHits. No condition.
-/
import Derived.Test.YtiabffkfabmlpaaOpensLocateHits
import Derived.Test.YtiabffkfabmlpaaSpotPLocateHits
import Derived.Test.YtiabffkfabmlpaaOffsLocateHits
import Derived.Test.YtiabffkfabmlpaaTabLocateHits
namespace Go.Proofs.Ytiabffkfabmlpaa.Pure
set_option linter.unusedVariables false
open Go.RowKit hiding wrap64
open Go.Proofs.Ytiabffkfabmlpaa.PLocateHits
open Go.Proofs.YtiabffkfabmlpaaW.PrintWords hiding mx mn

theorem awake_ev : Ev (fun k => regletlaw15_awake.f k) true :=
  Ev.of (fun k => regletlaw15_awake.mono k) (k := 60) (by decide +kernel)
/-- A number brought into a row. -/
def clN (a : Int) (n : Nat) : Nat := (min (max a 0) ((n : Int) - 1)).toNat
theorem clN_lt {a : Int} {n : Nat} (h : 0 < n) : clN a n < n := by unfold clN; omega
theorem cl_p {a : Int} {n : Nat} (h : 0 < n) (h2 : n ≤ 1000) : mx 0 (mn a (wrap64 ((n : Int) - 1))) = (clN a n : Int) := by
  rw [v64 (by omega) (by omega)]; unfold clN mx mn; omega
theorem cl_r {a : Int} {n : Nat} (h : 0 < n) (h2 : n ≤ 1000) : mn (mx a 0) (wrap64 ((n : Int) - 1)) = (clN a n : Int) := by
  rw [v64 (by omega) (by omega)]; unfold clN mx mn; omega
/-- What is told of a spot on a line. -/
def hit_ (fr x e : Int) : List S43 → Int
  | y :: z :: t => if z.f1 > x then wrap64 (fr + y.f0) else hit_ fr x e (z :: t)
  | _ => wrap64 (fr + e)
theorem hit_l0 {S : List S43} (hS : S.length ≤ 10000) {fr x : Int} {a b : Int} {s : ByteArray} (hs : s.size ≤ 1000) (hr : right_ s = true) {R : List S75} {b2 b3 b4 b6 : Int} {b5 b7 b8 : Bool} : ∀ (t : List S43) (y : S43) (i : Nat), S.drop i = y :: t →
    Ev (fun k => locate_Hit.l0 k fr S (i : Int) a b x s R b2 b3 b4 b5 b6 b7 b8) (hit_ fr x (shn_ s) (y :: t), 0)
  | [], y, i, h => by
    obtain ⟨h1, h2, h3⟩ := d43 h
    have := dropN h3
    refine Ev.step (fun k => by rw [locate_Hit.l0, upN (by omega), if_neg (by omega)]) ?_
    exact Ev.bind (shown_ev (by omega) hr) (Ev.now _)
  | z :: t, y, i, h => by
    obtain ⟨h1, h2, h3⟩ := d43 h
    obtain ⟨g1, g2, g3⟩ := d43 h3
    by_cases c : z.f1 > x
    · simp only [hit_, if_pos c]
      exact Ev.step (fun k => by rw [locate_Hit.l0, upN (by omega), if_pos (by omega), if_pos (by omega), g2, if_pos c, if_pos (by omega), if_pos (by omega), h2]) (Ev.now _)
    · have ih := hit_l0 hS (fr := fr) (x := x) (a := a) (b := b) hs hr (R := R) (b2 := b2) (b3 := b3) (b4 := b4) (b6 := b6) (b5 := b5) (b7 := b7) (b8 := b8) t z (i + 1) h3
      simp only [hit_, if_neg c]
      exact Ev.step (fun k => by rw [locate_Hit.l0, upN (by omega), if_pos (by omega), if_pos (by omega), g2, if_neg c]) ih
theorem rhit_l0 {S : List S43} (hS : S.length ≤ 10000) {L : List S24} {p n : Nat} (hp : p < L.length) (hn : n < (rd_T24 L (p : Int)).f0.length) (hg : GoodL (ln_ L p n)) {fr x a b : Int} : ∀ (t : List S43) (y : S43) (i : Nat), S.drop i = y :: t →
    Ev (fun k => regletref15_Hit.l0 k L (p : Int) (n : Int) fr (S.map t44) (((i + 1 : Nat)) : Int) a b x) (hit_ fr x (shn_ (ln_ L p n).f0) (y :: t), true)
  | [], y, i, h => by
    obtain ⟨h1, h2, h3⟩ := d43 h
    have := dropN h3
    refine Ev.step (fun k => by rw [regletref15_Hit.l0, if_neg (by rw [List.length_map]; omega), if_pos (by omega), if_pos (by omega), if_pos (by omega), if_pos (by omega)]) ?_
    exact Ev.bind (rend_ev (s := (ln_ L p n).f0) (by have := hg.1; omega) hg.2.2.1) (Ev.now _)
  | z :: t, y, i, h => by
    obtain ⟨h1, h2, h3⟩ := d43 h
    obtain ⟨g1, g2, g3⟩ := d43 h3
    obtain ⟨f1, f2⟩ := d44 h
    obtain ⟨f3, f4⟩ := d44 h3
    have e1 : wrap64 (((i + 1 : Nat) : Int) - 1) = (i : Int) := by rw [v64 (by omega) (by omega)]; omega
    have hx : (t44 z).f1 = z.f1 := rfl
    have hy : (t44 y).f0 = y.f0 := rfl
    by_cases c : z.f1 > x
    · simp only [hit_, if_pos c]
      exact Ev.step (fun k => by rw [regletref15_Hit.l0, if_pos (by omega), if_pos (by omega), f4, hx, if_pos c, e1, if_pos (by omega), if_pos (by omega), f2, hy]) (Ev.now _)
    · have ih := rhit_l0 hS hp hn hg (fr := fr) (x := x) (a := a) (b := b) t z (i + 1) h3
      simp only [hit_, if_neg c]
      exact Ev.step (fun k => by rw [regletref15_Hit.l0, if_pos (by omega), if_pos (by omega), f4, hx, if_neg c, upN (by omega)]) ih
theorem LocateHits : regletlaw15_LocateHits.PureX := by
  intro t L q ht hL hq
  apply Ev.rounds
  unfold regletlaw15_LocateHits.f
  refine Ev.bind awake_ev ?_
  refine Ev.congr (fun k => by rw [if_pos rfl]) ?_
  obtain ⟨T, hT1, hT2⟩ := table_ev t
  refine Ev.bind hT1 ?_
  have stop : ∀ U, Ev (fun k => regletlaw15_LocateHits.j0 k t L U true q.f0 q.f1 q.f2) true := fun U => Ev.step (fun k => by rw [regletlaw15_LocateHits.j0, if_pos rfl]) (Ev.now true)
  rcases hT2 with e | ⟨e, hr⟩
  · subst e
    exact Ev.congr (fun k => by rw [if_pos (by rfl)]) (stop _)
  subst e
  obtain ⟨b, hb, hb2⟩ := few_ev (L := L) hL.1
  refine Ev.congr (fun k => by rw [if_neg (by simp)]) (Ev.bind hb ?_)
  cases b with
  | false => exact stop _
  | true =>
    have few := hb2 rfl
    have hl20 := few.2.2
    refine Ev.step (g := fun k => regletlaw15_LocateHits.j0 k t L [⟨t⟩] (!true) q.f0 q.f1 q.f2) (fun k => by rw [regletlaw15_LocateHits.j0, if_neg (by decide)]) ?_
    -- neither finds a spot
    have none_ : Ev (fun k => locate_Hit.f k [⟨t⟩] L q.f0 q.f1 q.f2) (0, 30) → Ev (fun k => regletref15_Hit.f k t L q.f0 q.f1 q.f2) (0, false) → Ev (fun k => (locate_Hit.f k [⟨t⟩] L q.f0 q.f1 q.f2).bind fun bt538 => ((regletref15_Hit.f k t L q.f0 q.f1 q.f2).bind fun bt540 => (if bt538.1 = bt540.1 then (if ((bt538.2 == 0) == bt540.2) = true then (some ((bt538.2 == 30) == (!bt540.2))) else (some false)) else (some false)))) true := fun h1 h2 =>
      Ev.bind h1 (Ev.bind h2 (Ev.congr (fun k => (if_pos rfl).trans (if_pos rfl)) (Ev.now true)))
    by_cases c : L.length = 0
    · refine none_ ?_ ?_
      · unfold locate_Hit.f; exact Ev.congr (fun k => by rw [if_pos (by omega)]) (Ev.now _)
      · unfold regletref15_Hit.f; exact Ev.congr (fun k => by rw [if_pos (by omega)]) (Ev.now _)
    have hP : clN q.f0 L.length < L.length := clN_lt (by omega)
    have c1 := cl_p (a := q.f0) (n := L.length) (by omega) (by omega)
    have c2 := cl_r (a := q.f0) (n := L.length) (by omega) (by omega)
    generalize clN q.f0 L.length = p at *
    by_cases d : (rd_T24 L (p : Int)).f0.length = 0
    · refine none_ ?_ ?_
      · unfold locate_Hit.f
        exact Ev.congr (fun k => by rw [if_neg (by omega), c1, if_pos (by omega), if_pos (by omega), if_pos (by omega)]) (Ev.now _)
      · unfold regletref15_Hit.f
        exact Ev.congr (fun k => by rw [if_neg (by omega), c2, if_pos (by omega), if_pos (by omega), if_pos (by omega)]) (Ev.now _)
    have hlen : (rd_T24 L (p : Int)).f0.length ≤ 60 := by
      rw [rd24s hP]; exact few_len few _ (List.getElem_mem hP)
    have hN : clN q.f1 (rd_T24 L (p : Int)).f0.length < (rd_T24 L (p : Int)).f0.length := clN_lt (by omega)
    have n1 := cl_p (a := q.f1) (n := (rd_T24 L (p : Int)).f0.length) (by omega) (by omega)
    have n2 := cl_r (a := q.f1) (n := (rd_T24 L (p : Int)).f0.length) (by omega) (by omega)
    generalize clN q.f1 (rd_T24 L (p : Int)).f0.length = n at *
    obtain ⟨hg, _⟩ := goodln few hP hN
    obtain ⟨hs1, hs2⟩ := sto_len (T := t) few hP hN
    obtain ⟨fr, o1, o2⟩ := off_ev few (p : Int) (n : Int)
    have s1 := psto_ev hr few hP hN
    have s2 := rsto_ev hr few hP hN
    obtain ⟨y, tt, hS⟩ : ∃ y tt, sto_ t L p n = y :: tt := by
      cases h : sto_ t L p n with
      | nil => rw [h] at hs1; simp at hs1
      | cons y tt => exact ⟨y, tt, rfl⟩
    have h1 : Ev (fun k => locate_Hit.f k [⟨t⟩] L q.f0 q.f1 q.f2) (hit_ fr.1 q.f2 (shn_ (ln_ L p n).f0) (sto_ t L p n), 0) := by
      unfold locate_Hit.f
      refine Ev.congr (fun k => by rw [if_neg (by omega), c1, if_pos (by omega), if_pos (by omega), if_neg (by omega), n1]) (Ev.bind o1 ?_)
      refine Ev.congr (fun k => by rw [if_pos (by omega), if_pos (by omega)]; rfl) (Ev.bind s1 ?_)
      have hh := hit_l0 (S := sto_ t L p n) (by omega) (fr := fr.1) (x := q.f2) (a := q.f0) (b := q.f1) (s := (ln_ L p n).f0) (by have := hg.1; omega) hg.2.2.1 (R := (ln_ L p n).f1) (b2 := (ln_ L p n).f2) (b3 := (ln_ L p n).f3) (b4 := (ln_ L p n).f4) (b6 := (ln_ L p n).f6) (b5 := (ln_ L p n).f5) (b7 := (ln_ L p n).f7) (b8 := (ln_ L p n).f8) tt y 0 hS
      rw [← hS] at hh
      exact hh
    have h2 : Ev (fun k => regletref15_Hit.f k t L q.f0 q.f1 q.f2) (hit_ fr.1 q.f2 (shn_ (ln_ L p n).f0) (sto_ t L p n), true) := by
      unfold regletref15_Hit.f
      refine Ev.congr (fun k => by rw [if_neg (by omega), c2, if_pos (by omega), if_pos (by omega), if_neg (by omega), n2]) (Ev.bind o2 ?_)
      refine Ev.congr (fun k => by rw [if_pos (by omega), if_pos (by omega)]; rfl) (Ev.bind s2 ?_)
      have hh := rhit_l0 (S := sto_ t L p n) (by omega) hP hN hg (fr := fr.1) (x := q.f2) (a := q.f0) (b := q.f1) tt y 0 hS
      rw [← hS] at hh
      exact hh
    exact Ev.bind h1 (Ev.bind h2 (Ev.congr (fun k => (if_pos rfl).trans (if_pos rfl)) (Ev.now true)))
end Go.Proofs.Ytiabffkfabmlpaa.Pure
