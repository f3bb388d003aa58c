/-
Where each rune of any line stands is what the page says, and how wide the line is: the pure statement of the law LocateStops. No condition.
-/
import Derived.Test.YtiabffkfabmlpaaOpensLocateStops
import Derived.Test.YtiabffkfabmlpaaRfs2LocateStops
import Derived.Test.YtiabffkfabmlpaaTabLocateStops
namespace Go.Proofs.Ytiabffkfabmlpaa.Pure
set_option linter.unusedVariables false
open Go.RowKit hiding wrap64
open Go.Proofs.Ytiabffkfabmlpaa.PLocateStops Go.Proofs.YtiabffkfabmlpaaW.PrintWords

theorem awake_ev : Ev (fun k => regletlaw15_awake.f k) true :=
  Ev.of (fun k => regletlaw15_awake.mono k) (k := 60) (by decide +kernel)
def ls_ : List S75 → Int → Int
  | [], a => a
  | y :: t, a => ls_ t (if y.f0 > 0 then y.f1 else a)
theorem pw_l0 {T : List S73} {l : List S75} (hl : l.length ≤ 1000) {x : Int} : ∀ (t : List S75) (i : Nat) (a : Int), l.drop i = t →
    Ev (fun k => locate_Width.l0 k [⟨T⟩] x a l (l.length : Int) (i : Int)) (ad_ x (stg_ T (ls_ t a)).f4)
  | [], i, a, h => by
    have := dropN h
    refine Ev.step (fun k => ?_) (Ev.now _)
    rw [locate_Width.l0, if_neg (by omega)]
    unfold metrics_Table_Hyphen.f
    rw [of_f, Option.bind_some, Option.bind_some, add_f, Option.bind_some]
    rfl
  | y :: t, i, a, h => by
    obtain ⟨h1, h2, h3⟩ := d75 h
    have ih := pw_l0 hl (T := T) (x := x) t (i + 1) (if y.f0 > 0 then y.f1 else a) h3
    refine Ev.step (fun k => ?_) ih
    rw [locate_Width.l0, if_pos (by omega), if_pos (by omega), if_pos (by omega), h2, vup (by omega)]
    split <;> rfl
theorem rw2_l0 {T : List S73} {s : ByteArray} {l : List S75} (hl : l.length ≤ 1000) {x b2 b3 b4 b6 : Int} {b5 b7 b8 : Bool} : ∀ (t : List S75) (i : Nat) (a : Int), l.drop i = t →
    Ev (fun k => regletref15_Width.l0 k T x a (i : Int) s l b2 b3 b4 b5 b6 b7 b8) (ad_ x (stg_ T (ls_ t a)).f4)
  | [], i, a, h => by
    have := dropN h
    refine Ev.step (fun k => ?_) (Ev.now _)
    rw [regletref15_Width.l0, if_neg (by omega), rof_f, Option.bind_some, radd_f, Option.bind_some]
    rfl
  | y :: t, i, a, h => by
    obtain ⟨h1, h2, h3⟩ := d75 h
    have ih := rw2_l0 hl (T := T) (s := s) (x := x) (b2 := b2) (b3 := b3) (b4 := b4) (b6 := b6) (b5 := b5) (b7 := b7) (b8 := b8) t (i + 1) (if y.f0 > 0 then y.f1 else a) h3
    refine Ev.step (fun k => ?_) ih
    rw [regletref15_Width.l0, if_pos (by omega), if_pos (by omega), h2, vup (by omega)]
    split <;> rfl
theorem cmp_l0_ {S : List S43} (hS : S.length ≤ 10000) : ∀ d i : Nat, i + d = S.length → Ev (fun k => regletlaw15_LocateStops.l0 k S (S.map t44) (i : Int)) true
  | 0, i, e => Ev.step (fun k => by rw [regletlaw15_LocateStops.l0, if_neg (by omega)]) (Ev.now true)
  | d + 1, i, e => by
    have ih := cmp_l0_ hS d (i + 1) (by omega)
    have hi : i < S.length := by omega
    have r1 : rd_T43 S (i : Int) = S[i] := by
      unfold rd_T43
      rw [Int.toNat_natCast, List.getD_eq_getElem?_getD, List.getElem?_eq_getElem hi]; rfl
    have r2 : rd_T44 (S.map t44) (i : Int) = t44 S[i] := by
      unfold rd_T44
      rw [Int.toNat_natCast, List.getD_eq_getElem?_getD, List.getElem?_map, List.getElem?_eq_getElem hi]; rfl
    refine Ev.step (fun k => ?_) ih
    rw [regletlaw15_LocateStops.l0, if_pos (by omega), if_pos (by omega), if_pos (by rw [List.length_map]; omega), r1, r2, if_pos (show S[i].f0 = (t44 S[i]).f0 from rfl), if_pos (show S[i].f1 = (t44 S[i]).f1 from rfl), vup (by omega)]
theorem LocateStops : regletlaw15_LocateStops.PureX := by
  intro t x ht hx
  apply Ev.rounds
  unfold regletlaw15_LocateStops.f
  refine Ev.bind awake_ev ?_
  refine Ev.congr (fun k => by rw [if_pos rfl]) ?_
  obtain ⟨T, hT1, hT2⟩ := table_ev t
  refine Ev.bind hT1 ?_
  have stop : ∀ U, Ev (fun k => regletlaw15_LocateStops.j0 k t U true x.f0 x.f1 x.f2 x.f3 x.f4 x.f5 x.f6 x.f7 x.f8) true := fun U => Ev.step (fun k => by rw [regletlaw15_LocateStops.j0, if_pos rfl]) (Ev.now true)
  rcases hT2 with e | ⟨e, hr⟩
  · subst e
    exact Ev.congr (fun k => by rw [if_pos (by rfl)]) (stop _)
  subst e
  obtain ⟨b, hb, hb2⟩ := line_ev x
  refine Ev.congr (fun k => by rw [if_neg (by simp)]) (Ev.bind hb ?_)
  cases b with
  | false => exact stop _
  | true =>
    obtain ⟨g1, g2, g3, g4⟩ := hb2 rfl
    have hR : x.f1.length ≤ 1000 := by omega
    have hs : x.f0.size ≤ 1000 := by omega
    have hp := stops_ev hr hR hs g3 (b2 := x.f2) (b3 := x.f3) (b4 := x.f4) (b5 := x.f5) (b6 := x.f6) (b7 := x.f7) (b8 := x.f8) (fun i => spw_ev hr i)
    have hq := rstops_ev hr hR hs g3 (b2 := x.f2) (b3 := x.f3) (b4 := x.f4) (b5 := x.f5) (b6 := x.f6) (b7 := x.f7) (b8 := x.f8)
    have hl := stl_len (T := t) (R := x.f1) (sp := spw_ t x.f2 x.f3) (en := shn_ x.f0) (s := x.f0) (x.f0.size + 1) 0 0 (rt_all g3) (Nat.zero_le _)
    have hS1 : 1 ≤ (sts_ t x.f1 (spw_ t x.f2 x.f3) x.f0).length := hl.2
    have hS2 : (sts_ t x.f1 (spw_ t x.f2 x.f3) x.f0).length ≤ 1001 := by unfold sts_; omega
    generalize sts_ t x.f1 (spw_ t x.f2 x.f3) x.f0 = S at *
    have hc := cmp_l0_ (S := S) (by omega) S.length 0 (by omega)
    have w1 : wrap64 ((S.length : Int) - 1) = ((S.length - 1 : Nat) : Int) := by rw [v64 (by omega) (by omega)]; omega
    have hi : S.length - 1 < S.length := by omega
    have r1 : rd_T43 S ((S.length - 1 : Nat) : Int) = S[S.length - 1] := by
      unfold rd_T43
      rw [Int.toNat_natCast, List.getD_eq_getElem?_getD, List.getElem?_eq_getElem hi]; rfl
    have r2 : rd_T44 (S.map t44) ((S.length - 1 : Nat) : Int) = t44 S[S.length - 1] := by
      unfold rd_T44
      rw [Int.toNat_natCast, List.getD_eq_getElem?_getD, List.getElem?_map, List.getElem?_eq_getElem hi]; rfl
    have hw : Ev (fun k => locate_Width.f k [⟨t⟩] x.f0 x.f1 x.f2 x.f3 x.f4 x.f5 x.f6 x.f7 x.f8) (if x.f5 = true then ad_ S[S.length - 1].f1 (stg_ t (ls_ x.f1 0)).f4 else S[S.length - 1].f1) := by
      unfold locate_Width.f
      refine Ev.bind hp ?_
      refine Ev.congr (fun k => by rw [w1, if_pos (Int.natCast_nonneg _), if_pos (Int.ofNat_lt.2 hi), r1]) ?_
      by_cases c : x.f5 = true
      · rw [if_pos c]
        exact Ev.congr (fun k => by rw [if_pos c]; rfl) (pw_l0 (T := t) (x := S[S.length - 1].f1) hR x.f1 0 0 rfl)
      · rw [if_neg c]
        exact Ev.congr (fun k => by rw [if_neg c]) (Ev.now _)
    have hv : Ev (fun k => regletref15_Width.f k t x.f0 x.f1 x.f2 x.f3 x.f4 x.f5 x.f6 x.f7 x.f8) (if x.f5 = true then ad_ S[S.length - 1].f1 (stg_ t (ls_ x.f1 0)).f4 else S[S.length - 1].f1) := by
      unfold regletref15_Width.f
      refine Ev.bind hq ?_
      refine Ev.congr (fun k => by rw [List.length_map, w1, if_pos (Int.natCast_nonneg _), if_pos (Int.ofNat_lt.2 hi), r2]) ?_
      by_cases c : x.f5 = true
      · rw [if_pos c]
        exact Ev.congr (fun k => by rw [if_pos c]; rfl) (rw2_l0 (T := t) (s := x.f0) (x := S[S.length - 1].f1) (b2 := x.f2) (b3 := x.f3) (b4 := x.f4) (b5 := x.f5) (b6 := x.f6) (b7 := x.f7) (b8 := x.f8) hR x.f1 0 0 rfl)
      · rw [if_neg c]
        exact Ev.congr (fun k => by rw [if_neg c]; rfl) (Ev.now _)
    have hj : Ev (fun k => regletlaw15_LocateStops.j1 k S (S.map t44) false) true := Ev.step (fun k => by rw [regletlaw15_LocateStops.j1, if_neg (by decide)]; rfl) hc
    refine Ev.step (g := fun k => regletlaw15_LocateStops.j0 k t [⟨t⟩] (!true) x.f0 x.f1 x.f2 x.f3 x.f4 x.f5 x.f6 x.f7 x.f8) (fun k => by rw [regletlaw15_LocateStops.j0, if_neg (by decide)]) (Ev.bind hp (Ev.bind hq ?_))
    refine Ev.congr (fun k => by rw [if_pos (by rw [List.length_map])]) (Ev.bind hw (Ev.bind hv ?_))
    refine Ev.congr (fun k => ?_) hj
    rw [show ∀ a : Int, (a != a) = false from fun a => by simp]
end Go.Proofs.Ytiabffkfabmlpaa.Pure
