/-
Where pages lie in a window, which of them is at any height, and what is seen of them, are what the page says: the pure statement of the law PaintWindow. No condition.
-/
import Derived.Test.YtblmcdpfhdamjaaOpensPaintWindow
import Derived.Test.YtblmcdpfhdamjaaWinPaintWindow
namespace Go.Proofs.Ytblmcdpfhdamjaa.Pure
open Go.RowKit Go.Proofs.Ytblmcdpfhdamjaa.PPaintWindow Go.Proofs.YtblmcdpfhdamjaaW.PrintWords

theorem awake_ev : Ev (fun k => regletlaw21_awake.f k) true :=
  Ev.of (fun k => regletlaw21_awake.mono k) (k := 60) (by decide +kernel)
theorem lit64 {x : Int} (h : (Lit.int .i64 x).wf = true) : -9223372036854775808 ≤ x ∧ x ≤ 9223372036854775807 := by
  simp [Lit.wf, IntKind.min, IntKind.max, IntKind.signed, IntKind.bits] at h
  exact h
theorem right_f (h g m : Int) : paint_Right.f h g m = some (if 1 ≤ h ∧ h ≤ 1073741824 ∧ 0 ≤ g ∧ g ≤ 1073741824 ∧ 0 ≤ m ∧ m ≤ 65536 then 0 else 1) := by
  unfold paint_Right.f
  by_cases c1 : h < 1
  · rw [if_pos c1, if_neg (by omega)]
  by_cases c2 : h > 1073741824
  · rw [if_neg c1, if_pos c2, if_neg (by omega)]
  by_cases c3 : g < 0
  · rw [if_neg c1, if_neg c2, if_pos c3, if_neg (by omega)]
  by_cases c4 : g > 1073741824
  · rw [if_neg c1, if_neg c2, if_neg c3, if_pos c4, if_neg (by omega)]
  by_cases c5 : m < 0
  · rw [if_neg c1, if_neg c2, if_neg c3, if_neg c4, if_pos c5, if_neg (by omega)]
  by_cases c6 : m > 65536
  · rw [if_neg c1, if_neg c2, if_neg c3, if_neg c4, if_neg c5, if_pos c6, if_neg (by omega)]
  · rw [if_neg c1, if_neg c2, if_neg c3, if_neg c4, if_neg c5, if_neg c6, if_pos (by omega)]
theorem PaintWindow : regletlaw21_PaintWindow.PureX := by
  intro x a y hx ha hy
  obtain ⟨h, g, m⟩ := x
  obtain ⟨a0, a1⟩ := a
  obtain ⟨hx1, hx2, hx3⟩ := hx
  obtain ⟨ha1, ha2⟩ := ha
  replace hx1 := lit64 hx1
  replace hx2 := lit64 hx2
  replace hx3 := lit64 hx3
  replace ha1 := lit64 ha1
  replace ha2 := lit64 ha2
  replace hy := lit64 hy
  simp only at *
  apply Ev.rounds
  unfold regletlaw21_PaintWindow.f
  refine Ev.bind awake_ev ?_
  refine Ev.congr (fun k => by rw [if_pos rfl]) ?_
  have stop : ¬ (1 ≤ h ∧ h ≤ 1073741824 ∧ 0 ≤ g ∧ g ≤ 1073741824 ∧ 0 ≤ m ∧ m ≤ 65536) → ∀ b : Bool, b = true → Ev (fun k => regletlaw21_PaintWindow.j0 k y b h g m a0 a1) true := fun hn b hb => by
    subst hb
    exact Ev.step (fun k => by rw [regletlaw21_PaintWindow.j0, if_pos rfl, right_f, if_neg hn]; rfl) (Ev.now true)
  by_cases c1 : h < 1
  · exact Ev.congr (fun k => by rw [if_pos c1]) (stop (by omega) true rfl)
  by_cases c2 : h > 1073741824
  · exact Ev.congr (fun k => by rw [if_neg c1, if_pos c2]) (stop (by omega) true rfl)
  by_cases c3 : g < 0
  · exact Ev.congr (fun k => by rw [if_neg c1, if_neg c2, if_pos c3]) (stop (by omega) true rfl)
  by_cases c4 : g > 1073741824
  · exact Ev.congr (fun k => by rw [if_neg c1, if_neg c2, if_neg c3, if_pos c4]) (stop (by omega) true rfl)
  by_cases c5 : m < 0
  · exact Ev.congr (fun k => by rw [if_neg c1, if_neg c2, if_neg c3, if_neg c4, if_pos c5]) (stop (by omega) true rfl)
  by_cases c6 : m > 65536
  · exact Ev.congr (fun k => by rw [if_neg c1, if_neg c2, if_neg c3, if_neg c4, if_neg c5]) (stop (by omega) (decide (m > 65536)) (decide_eq_true c6))
  refine Ev.congr (fun k => by rw [if_neg c1, if_neg c2, if_neg c3, if_neg c4, if_neg c5, decide_eq_false c6]) ?_
  have hr := right_f h g m
  rw [if_pos (by omega)] at hr
  refine Ev.step (g := fun k => regletlaw21_PaintWindow.j0 k y false h g m a0 a1) (f := fun k => regletlaw21_PaintWindow.j1 k y (decide (m > 50)) h g m a0 a1) (fun k => by rw [regletlaw21_PaintWindow.j0, if_neg (by decide), hr, Option.bind_some, if_pos rfl]) ?_
  by_cases c7 : m > 50
  · refine Ev.step (f := fun _ => some true) (fun k => ?_) (Ev.now true)
    rw [regletlaw21_PaintWindow.j1, decide_eq_true c7, if_pos rfl]
  obtain ⟨M, rfl⟩ : ∃ M : Nat, m = (M : Int) := ⟨m.toNat, by omega⟩
  have w : Win h g M := ⟨by omega, by omega, by omega, by omega, by omega⟩
  have hsz := size_ev w
  have esz : mx 0 (wrap64 (wrap64 ((M : Int) * h) + wrap64 (wrap64 ((M : Int) - 1) * g))) = sz_ h g M := by
    by_cases e : M = 0
    · subst e
      have e1 : wrap64 (((0 : Nat) : Int) * h) = 0 := by rw [show ((0 : Nat) : Int) * h = 0 by simp]; exact w64 (by decide) (by decide)
      have e2 : wrap64 (((0 : Nat) : Int) - 1) = -1 := w64 (by decide) (by decide)
      rw [e1, e2, w64 (x := -1 * g) (by omega) (by omega), w64 (by omega) (by omega)]
      unfold mx sz_
      rw [if_pos rfl]
      split <;> omega
    · unfold paint_Window_Size.f at hsz
      rw [if_neg (by omega)] at hsz
      rw [Option.some.inj hsz]
      have := top_in w (p := 0) (by omega)
      unfold mx
      split <;> omega
  refine Ev.step (g := fun k => regletlaw21_PaintWindow.j1 k y (decide ((M : Int) > 50)) h g M a0 a1) (f := fun k => regletlaw21_PaintWindow.l0 k y (sz_ h g M) [] (mx a0 (-1073741824)) (mn a1 281474976710656) (0 : Int) (0 : Int) false ((0 : Nat) : Int) h g M a0 a1) (fun k => by rw [regletlaw21_PaintWindow.j1, decide_eq_false c7, if_neg (by decide), esz]; rfl) ?_
  have f1 := mx_ge (a := a0) (b := -1073741824)
  have f2 := mn_le (a := a1) (b := 281474976710656)
  have f3 : mx a0 (-1073741824) ≤ 9223372036854775807 := by unfold mx; split <;> omega
  have wll := wl_len (fr := mx a0 (-1073741824)) (hi := mn a1 281474976710656) (h := h) (s := h + g) M 0
  have hM := w.m
  refine l0_ev w hy.2 f1.2 f3 f2.2 M 0 [] (0, 0, false) (by omega) (Nat.le_refl _) ?_
  rw [List.nil_append]
  refine Ev.step (fun k => by rw [regletlaw21_PaintWindow.l0, if_neg (by omega)]) (Ev.bind (seen_ev w ha1.1 ha1.2) (Ev.bind (bands_ev (l := wl_ (mx a0 (-1073741824)) (mn a1 281474976710656) h (h + g) M 0) (by omega)) ?_))
  have h1 := l1_ev w hy.1 hy.2 (l := (wl_ (mx a0 (-1073741824)) (mn a1 281474976710656) h (h + g) M 0).map t56) (by rw [List.length_map]; omega) (a := (pg_ h (h + g) y M 0 (0, 0, false)).1) (b := (pg_ h (h + g) y M 0 (0, 0, false)).2.1) (c := (pg_ h (h + g) y M 0 (0, 0, false)).2.2) rfl _ 0 (by rw [Nat.zero_add])
  have h2 : Ev (fun k => regletlaw21_PaintWindow.j7 k y ((wl_ (mx a0 (-1073741824)) (mn a1 281474976710656) h (h + g) M 0).map t56) (pg_ h (h + g) y M 0 (0, 0, false)).1 (pg_ h (h + g) y M 0 (0, 0, false)).2.1 (pg_ h (h + g) y M 0 (0, 0, false)).2.2 ((wl_ (mx a0 (-1073741824)) (mn a1 281474976710656) h (h + g) M 0).map t56) false h g (M : Int)) true := by
    refine Ev.step (fun k => ?_) h1
    rw [regletlaw21_PaintWindow.j7, if_neg (by decide)]
    rfl
  refine Ev.congr (fun k => ?_) h2
  rw [if_pos rfl, hsz, Option.bind_some, show (sz_ h g M != sz_ h g M) = false by simp]
end Go.Proofs.Ytblmcdpfhdamjaa.Pure
