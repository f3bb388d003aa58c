/-
Where any byte stands is told, or that there is none, or that it lies within a rune, as the reference tells: the pure statement of the law LocateSpots. No condition.
-/
import Derived.Test.YtiabffkfabmlpaaOpensLocateSpots
import Derived.Test.YtiabffkfabmlpaaSpotPLocateSpots
import Derived.Test.YtiabffkfabmlpaaTabLocateSpots
namespace Go.Proofs.Ytiabffkfabmlpaa.Pure
set_option linter.unusedVariables false
open Go.RowKit hiding wrap64
open Go.Proofs.Ytiabffkfabmlpaa.PLocateSpots Go.Proofs.YtiabffkfabmlpaaW.PrintWords

theorem awake_ev : Ev (fun k => regletlaw15_awake.f k) true :=
  Ev.of (fun k => regletlaw15_awake.mono k) (k := 60) (by decide +kernel)
theorem lit64 {n : Int} (h : (Lit.int .i64 n).wf = true) : -9223372036854775808 ≤ n ∧ n ≤ 9223372036854775807 := by
  simp [Lit.wf, IntKind.min, IntKind.max, IntKind.signed, IntKind.bits] at h
  exact ⟨by omega, by omega⟩
/-- What is told of a place on a line. -/
def spr_ (p n w : Int) : List S43 → Int × Int × Int × Int
  | [] => (0, 0, 0, 21)
  | y :: t => if y.f0 = w then (p, n, y.f1, 0) else spr_ p n w t
theorem spot_l0 {S : List S43} (hS : S.length ≤ 10000) {p n w : Int} : ∀ (t : List S43) (i : Nat), S.drop i = t → Ev (fun k => locate_Spot.l0 k p n w S (S.length : Int) (i : Int)) (spr_ p n w t)
  | [], i, h => by
    have := dropN h
    exact Ev.step (fun k => by rw [locate_Spot.l0, if_neg (by omega)]; rfl) (Ev.now _)
  | y :: t, i, h => by
    obtain ⟨h1, h2, h3⟩ := d43 h
    by_cases c : y.f0 = w
    · refine Ev.step (fun k => by rw [locate_Spot.l0, if_pos (by omega), if_pos (by omega), if_pos (by omega), h2, if_pos c]) ?_
      simp only [spr_, if_pos c]
      exact Ev.now _
    · have ih := spot_l0 hS (p := p) (n := n) (w := w) t (i + 1) h3
      refine Ev.step (fun k => by rw [locate_Spot.l0, if_pos (by omega), if_pos (by omega), if_pos (by omega), h2, if_neg c, upN (by omega)]) ?_
      simp only [spr_, if_neg c]
      exact ih
theorem law_l0 {S : List S43} (hS : S.length ≤ 10000) {p n w : Int} : ∀ (t : List S43) (i : Nat), S.drop i = t →
    Ev (fun k => regletlaw15_LocateSpots.l0 k (spr_ p n w t).2.2.2 (S.map t44) (i : Int) (spr_ p n w t).1 (spr_ p n w t).2.1 (spr_ p n w t).2.2.1 p n w) true
  | [], i, h => by
    have := dropN h
    exact Ev.step (fun k => by rw [regletlaw15_LocateSpots.l0, if_neg (by rw [List.length_map]; omega)]; rfl) (Ev.now true)
  | y :: t, i, h => by
    obtain ⟨h1, h2, h3⟩ := d43 h
    obtain ⟨h4, h5⟩ := d44 h
    have hf : (t44 y).f0 = y.f0 := rfl
    have hx : (t44 y).f1 = y.f1 := rfl
    by_cases c : y.f0 = w
    · simp only [spr_, if_pos c]
      exact Ev.step (fun k => by rw [regletlaw15_LocateSpots.l0, if_pos (by omega), if_pos (by omega), h5, hf, hx, if_pos c, if_pos rfl]; simp) (Ev.now true)
    · have ih := law_l0 hS (p := p) (n := n) (w := w) t (i + 1) h3
      simp only [spr_, if_neg c]
      exact Ev.step (fun k => by rw [regletlaw15_LocateSpots.l0, if_pos (by omega), if_pos (by omega), h5, hf, if_neg c, upN (by omega)]) ih
theorem LocateSpots : regletlaw15_LocateSpots.PureX := by
  intro t L a ht hL ha
  obtain ⟨a0, a1⟩ := lit64 ha
  apply Ev.rounds
  unfold regletlaw15_LocateSpots.f
  refine Ev.bind awake_ev ?_
  refine Ev.congr (fun k => by rw [if_pos rfl]) ?_
  obtain ⟨T, hT1, hT2⟩ := table_ev t
  refine Ev.bind hT1 ?_
  have stop : ∀ U, Ev (fun k => regletlaw15_LocateSpots.j0 k t L a U true) true := fun U => Ev.step (fun k => by rw [regletlaw15_LocateSpots.j0, if_pos rfl]) (Ev.now true)
  rcases hT2 with e | ⟨e, hr⟩
  · subst e
    exact Ev.congr (fun k => by rw [if_pos (by rfl)]) (stop _)
  subst e
  obtain ⟨b, hb, hb2⟩ := few_ev (L := L) hL.1
  refine Ev.congr (fun k => by rw [if_neg (by simp)]) (Ev.bind hb ?_)
  cases b with
  | false => exact stop _
  | true =>
    have few := hb2 rfl
    have hin := lineP_in L a
    have h1 := pline_ev few a1
    have h2 := rline_ev few a
    generalize lineP L a = q at *
    obtain ⟨p, n, w, ok⟩ := q
    cases ok with
    | false =>
      refine Ev.step (g := fun k => regletlaw15_LocateSpots.j0 k t L a [⟨t⟩] (!true)) (fun k => by rw [regletlaw15_LocateSpots.j0, if_neg (by decide)]) ?_
      have hs : Ev (fun k => locate_Spot.f k [⟨t⟩] L a) (0, 0, 0, 30) := by
        unfold locate_Spot.f
        exact Ev.bind h1 (Ev.congr (fun k => by rw [if_neg (by simp)]) (Ev.now _))
      refine Ev.bind hs (Ev.bind h2 ?_)
      exact Ev.congr (fun k => by rw [if_neg (by simp), if_pos rfl]; rfl) (Ev.now true)
    | true =>
      obtain ⟨p', n', e1, e2, hp, hn⟩ := hin rfl
      simp only at e1 e2
      subst e1 e2
      obtain ⟨hl1, hl2⟩ := sto_len (T := t) few hp hn
      have hc : Ev (fun k => locate_Spot.f k [⟨t⟩] L a) (spr_ (p' : Int) (n' : Int) w (sto_ t L p' n')) := by
        unfold locate_Spot.f
        refine Ev.bind h1 ?_
        refine Ev.congr (fun k => by rw [if_pos rfl, if_pos (show (0 : Int) ≤ (p' : Int) by omega), if_pos (show (p' : Int) < (L.length : Int) by omega), if_pos (show (0 : Int) ≤ (n' : Int) by omega), if_pos (show (n' : Int) < ((rd_T24 L (p' : Int)).f0.length : Int) by omega)]) ?_
        exact Ev.bind (psto_ev hr few hp hn) (spot_l0 (by omega) _ 0 rfl)
      refine Ev.step (g := fun k => regletlaw15_LocateSpots.j0 k t L a [⟨t⟩] (!true)) (fun k => by rw [regletlaw15_LocateSpots.j0, if_neg (by decide)]) ?_
      refine Ev.bind hc (Ev.bind h2 ?_)
      refine Ev.congr (fun k => by rw [if_pos rfl, if_pos (show (0 : Int) ≤ (p' : Int) by omega), if_pos (show (p' : Int) < (L.length : Int) by omega), if_pos (show (0 : Int) ≤ (n' : Int) by omega), if_pos (show (n' : Int) < ((rd_T24 L (p' : Int)).f0.length : Int) by omega)]) ?_
      exact Ev.bind (rsto_ev hr few hp hn) (law_l0 (by omega) _ 0 rfl)
end Go.Proofs.Ytiabffkfabmlpaa.Pure
