/-
The first byte of any line that has one stands at its left, and each of its bytes is on it; the byte that is hit at a rune's own place is that rune's, if it is wider than nothing: the pure statement of the law LocateBack. No condition.
-/
import Derived.Test.YtiabffkfabmlpaaOpensLocateBack
import Derived.Test.YtiabffkfabmlpaaBackPLocateBack
namespace Go.Proofs.Ytiabffkfabmlpaa.Pure
set_option linter.unusedVariables false
open Go.RowKit Go.Proofs.Ytiabffkfabmlpaa.PLocateBack Go.Proofs.YtiabffkfabmlpaaW.PrintWords

theorem awake_ev : Ev (fun k => regletlaw15_awake.f k) true :=
  Ev.of (fun k => regletlaw15_awake.mono k) (k := 60) (by decide +kernel)
theorem l3_ev {T : List S73} {L : List S24} {p n : Nat} (h : Ln T L p n) {r : Bool} (hc : Ev (fun k => regletlaw15_LocateBack.l1 k L [⟨T⟩] (p : Int) ((n + 1 : Nat) : Int)) r) : ∀ d j : Nat, j + 1 + d = (pl_ T L p n).length →
    Ev (fun k => regletlaw15_LocateBack.l3 k L [⟨T⟩] (p : Int) (n : Int) ((offN L p n : Nat) : Int) (pl_ T L p n) (j : Int)) r
  | 0, j, e => by
    have hl := (pl_pl h).len
    have g := (good_ h.few h.hp h.hn).2
    have hn := h.hn
    refine Ev.step (fun k => ?_) hc
    rw [regletlaw15_LocateBack.l3, vup (by omega), if_neg (by omega), vup (by omega)]
  | d + 1, j, e => by
    have hP := pl_pl h
    have hl := hP.len
    have hj : j < (pl_ T L p n).length := by omega
    have hj2 : j + 1 < (pl_ T L p n).length := by omega
    have ih := l3_ev h hc d (j + 1) (by omega)
    have hsp := spot_ev h hj hj2
    obtain ⟨⟨v, b⟩, hh, hb, hv⟩ := hit_ev h hj hj2
    have h1 := hP.lt j hj hj2
    have h2 := hP.nn _ (List.getElem_mem hj)
    have ho := off_le2 h.few h.hp (n := n)
    have g := (good_ h.few h.hp h.hn).1.1
    have r0 := rd43 hj
    have r1 := rd43 hj2
    have wa : wrap64 (((offN L p n : Nat) : Int) + (pl_ T L p n)[j].f0) = ((offN L p n : Nat) : Int) + (pl_ T L p n)[j].f0 := v64 (by omega) (by omega)
    have hb' : b = 0 := hb
    subst hb'
    have hj6 : Ev (fun k => regletlaw15_LocateBack.j6 k L [⟨T⟩] (p : Int) (n : Int) ((offN L p n : Nat) : Int) (pl_ T L p n) (j : Int) false (p : Int) (n : Int) (pl_ T L p n)[j].f1) r := by
      refine Ev.step (fun k => by rw [regletlaw15_LocateBack.j6, if_neg (by decide)]) (Ev.bind hh ?_)
      refine Ev.congr (fun k => ?_) ih
      dsimp only
      rw [if_pos rfl, vup (by omega), if_pos (by omega), if_pos (by omega), if_pos (by omega), if_pos (by omega), r1, r0]
      by_cases c : (pl_ T L p n)[j + 1].f1 > (pl_ T L p n)[j].f1
      · have hv2 : v = ((offN L p n : Nat) : Int) + (pl_ T L p n)[j].f0 := hv c
        rw [if_pos c, wa, if_pos hv2]
      · rw [if_neg c]
    refine Ev.step (fun k => by rw [regletlaw15_LocateBack.l3, vup (by omega), if_pos (by omega), if_pos (by omega), if_pos (by omega), r0, wa]) (Ev.bind hsp ?_)
    refine Ev.congr (fun k => ?_) hj6
    dsimp only
    rw [if_pos rfl, if_pos rfl, if_pos rfl, if_pos rfl]
    by_cases c : (j : Int) = 0
    · have ej : j = 0 := by omega
      subst ej
      have hz := hP.zero hP.pos
      rw [if_pos c, hz]
      rfl
    · rw [if_neg c]
theorem l2_ev {T : List S73} {L : List S24} {p n : Nat} (h : Ln T L p n) {r : Bool} (hc : Ev (fun k => regletlaw15_LocateBack.l1 k L [⟨T⟩] (p : Int) ((n + 1 : Nat) : Int)) r) : ∀ d i : Nat, i + d = (li_ L p n).f0.size →
    Ev (fun k => regletlaw15_LocateBack.l2 k L [⟨T⟩] (p : Int) (n : Int) ((offN L p n : Nat) : Int) (i : Int) (li_ L p n).f0 (li_ L p n).f1 (li_ L p n).f2 (li_ L p n).f3 (li_ L p n).f4 (li_ L p n).f5 (li_ L p n).f6 (li_ L p n).f7 (li_ L p n).f8) r
  | 0, i, e => by
    have hpos := (pl_pl h).pos
    refine Ev.step (fun k => by rw [regletlaw15_LocateBack.l2, if_neg (by omega)]) (Ev.bind (lstops_ev h) ?_)
    exact l3_ev h hc ((pl_ T L p n).length - 1) 0 (by omega)
  | d + 1, i, e => by
    have ih := l2_ev h hc d (i + 1) (by omega)
    have hl := lline_ev h (i := i) (by omega)
    have ho := off_le2 h.few h.hp (n := n)
    have g := (good_ h.few h.hp h.hn).1.1
    have wa : wrap64 (((offN L p n : Nat) : Int) + (i : Int)) = ((offN L p n + i : Nat) : Int) := by rw [v64 (by omega) (by omega)]; omega
    refine Ev.step (fun k => by rw [regletlaw15_LocateBack.l2, if_pos (by omega), wa]) (Ev.bind hl ?_)
    refine Ev.congr (fun k => ?_) ih
    dsimp only
    rw [if_pos rfl, if_pos rfl, if_pos rfl, if_pos rfl, vup (by omega)]
theorem l1_ev {T : List S73} {L : List S24} {p : Nat} (hT : ∀ x ∈ T, RightS x) (few : Few L) (hp : p < L.length) (hc : Ev (fun k => regletlaw15_LocateBack.l0 k L [⟨T⟩] ((p + 1 : Nat) : Int)) true) : ∀ d n : Nat, n + d = (rd_T24 L (p : Int)).f0.length →
    Ev (fun k => regletlaw15_LocateBack.l1 k L [⟨T⟩] (p : Int) (n : Int)) true
  | 0, n, e => by
    have hL := few.2.2
    refine Ev.step (fun k => ?_) hc
    rw [regletlaw15_LocateBack.l1, if_pos (by omega), if_pos (by omega), if_neg (by omega), vup (by omega)]
  | d + 1, n, e => by
    have hn : n < (rd_T24 L (p : Int)).f0.length := by omega
    have ih := l1_ev hT few hp hc d (n + 1) (by omega)
    have hl : rd_T28 (rd_T24 L (p : Int)).f0 (n : Int) = li_ L p n := rfl
    refine Ev.step (fun k => by rw [regletlaw15_LocateBack.l1, if_pos (by omega), if_pos (by omega), if_pos (by omega), if_pos (by omega), hl]) (Ev.bind (loff_ev few hp hn) ?_)
    by_cases c : (li_ L p n).f2 = 0
    · have h : Ln T L p n := ⟨hT, few, hp, hn, c⟩
      have h2 := l2_ev h ih (li_ L p n).f0.size 0 (by omega)
      refine Ev.congr (fun k => by dsimp only; rw [if_pos rfl]) (Ev.step (g := fun k => regletlaw15_LocateBack.j3 k L [⟨T⟩] (p : Int) (n : Int) ((offN L p n : Nat) : Int) true ((li_ L p n).f2 != 0) (li_ L p n).f0 (li_ L p n).f1 (li_ L p n).f2 (li_ L p n).f3 (li_ L p n).f4 (li_ L p n).f5 (li_ L p n).f6 (li_ L p n).f7 (li_ L p n).f8) (fun k => ?_) h2)
      rw [regletlaw15_LocateBack.j3, if_neg (by simp [c])]
      rfl
    · refine Ev.congr (fun k => by dsimp only; rw [if_pos rfl]) (Ev.step (g := fun k => regletlaw15_LocateBack.j3 k L [⟨T⟩] (p : Int) (n : Int) ((offN L p n : Nat) : Int) true ((li_ L p n).f2 != 0) (li_ L p n).f0 (li_ L p n).f1 (li_ L p n).f2 (li_ L p n).f3 (li_ L p n).f4 (li_ L p n).f5 (li_ L p n).f6 (li_ L p n).f7 (li_ L p n).f8) (f := fun _ => some true) (fun k => ?_) (Ev.now true))
      rw [regletlaw15_LocateBack.j3, if_pos (by simp [c])]
theorem l0_ev {T : List S73} {L : List S24} (hT : ∀ x ∈ T, RightS x) (few : Few L) : ∀ d p : Nat, p + d = L.length → Ev (fun k => regletlaw15_LocateBack.l0 k L [⟨T⟩] (p : Int)) true
  | 0, p, e => Ev.step (fun k => by rw [regletlaw15_LocateBack.l0, if_neg (by omega)]) (Ev.now true)
  | d + 1, p, e => by
    have ih := l0_ev hT few d (p + 1) (by omega)
    refine Ev.step (fun k => by rw [regletlaw15_LocateBack.l0, if_pos (by omega)]) ?_
    exact l1_ev hT few (by omega) ih (rd_T24 L (p : Int)).f0.length 0 (by omega)
theorem LocateBack : regletlaw15_LocateBack.PureX := by
  intro t L ht hL
  apply Ev.rounds
  unfold regletlaw15_LocateBack.f
  refine Ev.bind awake_ev ?_
  refine Ev.congr (fun k => by rw [if_pos rfl]) ?_
  obtain ⟨T, hT1, hT2⟩ := table_ev t
  refine Ev.bind hT1 ?_
  have stop : ∀ U, Ev (fun k => regletlaw15_LocateBack.j0 k L U true) true := fun U => Ev.step (fun k => by rw [regletlaw15_LocateBack.j0, if_pos rfl]) (Ev.now true)
  rcases hT2 with e | ⟨e, hr⟩
  · subst e
    exact Ev.congr (fun k => by rw [if_pos (by rfl)]) (stop _)
  · subst e
    have hlen : L.length ≤ 9223372036854775807 := Nat.le_trans hL.1 (by decide)
    obtain ⟨b, hb, hb2⟩ := few_ev hlen
    refine Ev.congr (fun k => by rw [if_neg (by simp)]) (Ev.bind hb ?_)
    cases b with
    | false => exact stop _
    | true =>
      refine Ev.step (g := fun k => regletlaw15_LocateBack.j0 k L [⟨t⟩] (!true)) (f := fun k => regletlaw15_LocateBack.l0 k L [⟨t⟩] ((0 : Nat) : Int)) (fun k => ?_) (l0_ev hr (hb2 rfl) L.length 0 (by omega))
      rw [regletlaw15_LocateBack.j0, if_neg (by decide)]
      rfl
end Go.Proofs.Ytiabffkfabmlpaa.Pure
