import Derived.Test.YtiabffkfabmlpaaFewLLocateHits
/-! Our own text: pages that are tried. -/
namespace Go.Proofs.Ytiabffkfabmlpaa.PLocateHits
set_option linter.unusedVariables false
open Go.RowKit Go.Proofs.YtiabffkfabmlpaaW.PrintWords

theorem d24 {l t : List S24} {i : Nat} {n : S24} (h : l.drop i = n :: t) : i < l.length ∧ rd_T24 l (i : Int) = n ∧ l.drop (i + 1) = t := by
  have := dropI z24 h
  unfold rd_T24; rw [Int.toNat_natCast]; exact this
def tots : List S24 → Nat
  | [] => 0
  | x :: t => x.f0.length + tots t
theorem few_l1 {L : List S24} {p : Nat} {Q : Nat → Prop} (hp : p < L.length) : ∀ (t : List S28) (i n : Nat), (rd_T24 L (p : Int)).f0.drop i = t → i ≤ n → n ≤ 60 →
    (∀ n' : Nat, n' ≤ 60 → ∃ r, Ev (fun k => regletlaw15_few.l0 k L (n' : Int) (wrap64 ((p : Int) + 1))) r ∧ (r = true → Q n')) →
    ∃ r, Ev (fun k => regletlaw15_few.l1 k L (n : Int) (p : Int) (i : Int)) r ∧ (r = true → (∀ x ∈ t, GoodL x) ∧ Q (n + t.length))
  | [], i, n, h, hi, hn, hc => by
    have := dropN h
    obtain ⟨r, pr, q⟩ := hc n hn
    exact ⟨r, Ev.step (fun k => by rw [regletlaw15_few.l1, if_pos (by omega), if_pos (by omega), if_neg (by omega)]) pr, fun hr => ⟨fun x hx => (by cases hx), q hr⟩⟩
  | x :: t, i, n, h, hi, hn, hc => by
    obtain ⟨h1, h2, h3⟩ := d28 h
    by_cases c : n + 1 ≤ 60
    · obtain ⟨r1, p1, q1⟩ := line_ev x
      have e1 : wrap64 ((n : Int) + 1) = ((n + 1 : Nat) : Int) := upN (by omega)
      cases r1 with
      | false =>
        refine ⟨false, Ev.step (fun k => by rw [regletlaw15_few.l1, if_pos (by omega), if_pos (by omega), if_pos (by omega), e1, if_neg (by omega), if_pos (by omega), h2]) ?_, fun h => by cases h⟩
        exact Ev.bind p1 (Ev.now _)
      | true =>
        obtain ⟨r, p2, q2⟩ := few_l1 hp t (i + 1) (n + 1) h3 (by omega) c hc
        refine ⟨r, Ev.step (fun k => by rw [regletlaw15_few.l1, if_pos (by omega), if_pos (by omega), if_pos (by omega), e1, if_neg (by omega), if_pos (by omega), h2, upN (show i < 9223372036854775807 by omega)]) ?_, fun hr => ?_⟩
        · exact Ev.bind p1 p2
        · obtain ⟨q3, q4⟩ := q2 hr
          refine ⟨fun y hy => ?_, by rw [List.length_cons, show n + (t.length + 1) = n + 1 + t.length by omega]; exact q4⟩
          rcases List.mem_cons.1 hy with e | e
          · rw [e]; exact q1 rfl
          · exact q3 y e
    · have e1 : wrap64 ((n : Int) + 1) = ((n + 1 : Nat) : Int) := upN (by omega)
      exact ⟨false, Ev.step (fun k => by rw [regletlaw15_few.l1, if_pos (by omega), if_pos (by omega), if_pos (by omega), e1, if_pos (by omega)]) (Ev.now _), fun h => by cases h⟩
theorem few_l0 {L : List S24} (hL : L.length ≤ 9223372036854775807) : ∀ (t : List S24) (p n : Nat), L.drop p = t → n ≤ 60 →
    ∃ r, Ev (fun k => regletlaw15_few.l0 k L (n : Int) (p : Int)) r ∧ (r = true → (∀ x ∈ t, ∀ y ∈ x.f0, GoodL y) ∧ n + tots t ≤ 60 ∧ L.length ≤ 20)
  | [], p, n, h, hn => by
    have := dropN h
    refine ⟨decide ((L.length : Int) ≤ 20), Ev.step (fun k => by rw [regletlaw15_few.l0, if_neg (by omega)]) (Ev.now _), fun hr => ⟨fun x hx => (by cases hx), by unfold tots; omega, ?_⟩⟩
    have := of_decide_eq_true hr
    omega
  | x :: t, p, n, h, hn => by
    obtain ⟨h1, h2, h3⟩ := d24 h
    have ih := fun n' (hn' : n' ≤ 60) => few_l0 hL t (p + 1) n' h3 hn'
    rw [← upN (show p < 9223372036854775807 by omega)] at ih
    obtain ⟨r, pr, q⟩ := few_l1 (L := L) (p := p) (Q := fun n' => (∀ x ∈ t, ∀ y ∈ x.f0, GoodL y) ∧ n' + tots t ≤ 60 ∧ L.length ≤ 20) h1 x.f0 0 n (by rw [h2]; rfl) (Nat.zero_le _) hn ih
    refine ⟨r, Ev.step (fun k => by rw [regletlaw15_few.l0, if_pos (by omega)]; rfl) pr, fun hr => ?_⟩
    obtain ⟨g1, g2, g3, g4⟩ := q hr
    refine ⟨fun y hy => ?_, by unfold tots; omega, g4⟩
    rcases List.mem_cons.1 hy with e | e
    · rw [e]; exact g1
    · exact g2 y e
def Few (L : List S24) : Prop := (∀ x ∈ L, ∀ y ∈ x.f0, GoodL y) ∧ tots L ≤ 60 ∧ L.length ≤ 20
theorem few_ev {L : List S24} (hL : L.length ≤ 9223372036854775807) : ∃ r, Ev (fun k => regletlaw15_few.f k L) r ∧ (r = true → Few L) := by
  obtain ⟨r, p, q⟩ := few_l0 hL L 0 0 rfl (Nat.zero_le _)
  exact ⟨r, p, fun hr => ⟨(q hr).1, by have := (q hr).2.1; omega, (q hr).2.2⟩⟩
end Go.Proofs.Ytiabffkfabmlpaa.PLocateHits
