import Derived.Test.YtblmcdpfhdamjaaRunesPaintSeen
/-! Our own text: pages that are tried. -/
namespace Go.Proofs.Ytblmcdpfhdamjaa.PPaintSeen
set_option linter.unusedVariables false
open Go.RowKit Go.Proofs.YtblmcdpfhdamjaaW.PrintWords

theorem dropI {α : Type} {l t : List α} {i : Nat} {n : α} (z : α) (h : l.drop i = n :: t) : i < l.length ∧ l.getD i z = n ∧ l.drop (i + 1) = t := by
  have h1 : i < l.length := by
    rcases Nat.lt_or_ge i l.length with h1 | h1
    · exact h1
    · rw [List.drop_eq_nil_of_le h1] at h; cases h
  rw [List.drop_eq_getElem_cons h1] at h
  injection h with h2 h3
  refine ⟨h1, ?_, h3⟩
  rw [List.getD_eq_getElem?_getD, List.getElem?_eq_getElem h1, h2]; rfl
theorem dropN {α : Type} {l : List α} {i : Nat} (h : l.drop i = []) : l.length ≤ i := by
  have := congrArg List.length h
  rw [List.length_drop, List.length_nil] at this
  omega
theorem d75 {l t : List S89} {i : Nat} {n : S89} (h : l.drop i = n :: t) : i < l.length ∧ rd_T89 l (i : Int) = n ∧ l.drop (i + 1) = t := by
  have := dropI z89 h
  unfold rd_T89; rw [Int.toNat_natCast]; exact this
theorem upN {i : Nat} (h : i < 9223372036854775807) : wrap64 ((i : Int) + 1) = ((i + 1 : Nat) : Int) := by rw [w64 (by omega) (by omega)]; omega
def GoodL (x : S25) : Prop := x.f0.size ≤ 200 ∧ x.f1.length ≤ 40 ∧ right_ x.f0 = true ∧ ∀ y ∈ x.f1, y.f0 ≤ 1099511627776
theorem line_l0 {x : S25} (hl : x.f1.length ≤ 40) : ∀ (t : List S89) (i : Nat), x.f1.drop i = t →
    ∃ r, Ev (fun k => regletlaw21_line.l0 k (i : Int) x.f0 x.f1 x.f2 x.f3 x.f4 x.f5 x.f6 x.f7 x.f8) r ∧ (r = true → ∀ y ∈ t, y.f0 ≤ 1099511627776)
  | [], i, h => by
    have := dropN h
    exact ⟨true, Ev.step (fun k => by rw [regletlaw21_line.l0, if_neg (by omega)]) (Ev.now _), fun _ y hy => by cases hy⟩
  | y :: t, i, h => by
    obtain ⟨h1, h2, h3⟩ := d75 h
    obtain ⟨r, p, q⟩ := line_l0 hl t (i + 1) h3
    by_cases c : y.f0 > 1099511627776
    · exact ⟨false, Ev.step (fun k => by rw [regletlaw21_line.l0, if_pos (by omega), if_pos (by omega), h2, if_pos c]) (Ev.now _), fun h => by cases h⟩
    · refine ⟨r, Ev.step (fun k => by rw [regletlaw21_line.l0, if_pos (by omega), if_pos (by omega), h2, if_neg c, upN (by omega)]) p, fun hr z hz => ?_⟩
      rcases List.mem_cons.1 hz with e | e
      · rw [e]; omega
      · exact q hr z e
theorem line_ev (x : S25) : ∃ r, Ev (fun k => regletlaw21_line.f k x.f0 x.f1 x.f2 x.f3 x.f4 x.f5 x.f6 x.f7 x.f8) r ∧ (r = true → GoodL x) := by
  have stop : Ev (fun k => regletlaw21_line.j0 k true x.f0 x.f1 x.f2 x.f3 x.f4 x.f5 x.f6 x.f7 x.f8) false := Ev.step (fun k => by rw [regletlaw21_line.j0, if_pos rfl]) (Ev.now _)
  unfold regletlaw21_line.f
  by_cases c1 : (x.f0.size : Int) > 200
  · simp only [if_pos c1]; exact ⟨false, stop, fun h => by cases h⟩
  by_cases c2 : (x.f1.length : Int) > 40
  · simp only [if_neg c1, if_pos c2]; exact ⟨false, stop, fun h => by cases h⟩
  simp only [if_neg c1, if_neg c2]
  have hr := right_ev (s := x.f0) (by omega)
  cases hc : right_ x.f0 with
  | false => rw [hc] at hr; exact ⟨false, Ev.bind hr stop, fun h => by cases h⟩
  | true =>
    rw [hc] at hr
    obtain ⟨r, p, q⟩ := line_l0 (x := x) (by omega) x.f1 0 rfl
    exact ⟨r, Ev.bind hr (Ev.step (fun k => by rw [regletlaw21_line.j0, if_neg (by decide)]; rfl) p), fun h => ⟨by omega, by omega, hc, q h⟩⟩
end Go.Proofs.Ytblmcdpfhdamjaa.PPaintSeen
