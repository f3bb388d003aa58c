/-
Numbers that rise are told as the reference tells them, no two spans follow one another, and they hold as many numbers as there were: the pure statement of the law OutlineSpans. No condition.
-/
import Derived.Test.YtmgflcepgbgcmaaSpansOutlineSpans
namespace Go.Proofs.Ytmgflcepgbgcmaa.Pure
open Go.RowKit Go.Proofs.Ytmgflcepgbgcmaa.POutlineSpans Go.Proofs.YtmgflcepgbgcmaaW.PrintWords Go.Proofs.YtmgflcepgbgcmaaW.PrintLast

theorem awake_ev : Ev (fun k => regletlaw22_awake.f k) true :=
  Ev.of (fun k => regletlaw22_awake.mono k) (k := 40) (by decide +kernel)
theorem stop_ev (l : List Int) : Ev (fun k => regletlaw22_OutlineSpans.j0 k l true) true := Ev.step (fun k => by rw [regletlaw22_OutlineSpans.j0, if_pos rfl]) (Ev.now _)
theorem rd38_at {s : List S38} {i : Nat} (h : i < s.length) : rd_T38 s (i : Int) = s[i] := by
  unfold rd_T38
  rw [Int.toNat_natCast, List.getD_eq_getElem?_getD, List.getElem?_eq_getElem h]; rfl
theorem loop_ev {l : List Int} {s : List S38} (hl : s.length ≤ 1000) (hin : ∀ x ∈ s, In_ x) (hp : List.Pairwise Ap_ s) (ht : tot_ s = (l.length : Int)) : ∀ (d i : Nat), i + d = s.length → 
    0 ≤ tot_ (s.take i) → tot_ (s.take i) ≤ 1099511627776 * i →
    Ev (fun k => regletlaw22_OutlineSpans.l0 k l s s (tot_ (s.take i)) (i : Int)) true
  | 0, i, hi, _, _ => by
    have e : i = s.length := by omega
    subst e
    rw [List.take_length, ht]
    refine Ev.step (fun k => by rw [regletlaw22_OutlineSpans.l0, if_neg (by omega)]) ?_
    rw [show ((l.length : Int) == (l.length : Int)) = true by simp]
    exact Ev.now _
  | d + 1, i, hi, h0, h1 => by
    have hlt : i < s.length := by omega
    have hx := hin _ (List.getElem_mem hlt)
    unfold In_ at hx
    have hr := rd38_at hlt
    have hw : wrap64 ((i : Int) + 1) = ((i + 1 : Nat) : Int) := by rw [w64s (by omega) (by omega)]; omega
    have htk : tot_ (s.take (i + 1)) = tot_ (s.take i) + (s[i].f1 - s[i].f0 + 1) := by
      rw [List.take_succ_eq_append_getElem hlt, tot_app, tot_one]
    have ih := loop_ev hl hin hp ht d (i + 1) (by omega)
    rw [htk] at ih
    have hap : (i : Int) > 0 → ∃ j, (i : Int) - 1 = (j : Nat) ∧ j < s.length ∧ (rd_T38 s (j : Int)).f1 + 1 < s[i].f0 ∧ 0 ≤ (rd_T38 s (j : Int)).f1 := fun c => by
      refine ⟨i - 1, by omega, by omega, ?_⟩
      have h2 : i - 1 < s.length := by omega
      rw [rd38_at h2]
      have h3 := hin _ (List.getElem_mem h2)
      unfold In_ at h3
      exact ⟨List.pairwise_iff_getElem.1 hp (i - 1) i h2 hlt (by omega), by omega⟩
    generalize tot_ (s.take i) = a at *
    generalize s[i] = z at *
    have hs : wrap64 (wrap64 (wrap64 (a + z.f1) - z.f0) + 1) = a + (z.f1 - z.f0 + 1) := by
      rw [w64s (x := a + z.f1) (by omega) (by omega), w64s (x := a + z.f1 - z.f0) (by omega) (by omega), w64s (by omega) (by omega)]; omega
    have ih := ih (by omega) (by omega)
    by_cases c : (i : Int) > 0
    · obtain ⟨j, hj, hjl, hq, hq0⟩ := hap c
      have hw1 : wrap64 ((i : Int) - 1) = (j : Int) := by rw [w64s (by omega) (by omega)]; exact hj
      have hw2 : wrap64 ((rd_T38 s (j : Int)).f1 + 1) = (rd_T38 s (j : Int)).f1 + 1 := w64s (by omega) (by omega)
      refine Ev.step (fun k => by rw [regletlaw22_OutlineSpans.l0, if_pos (by omega), if_pos (by omega), if_pos (by omega), hr, if_neg (by simp), if_pos c, hw1, if_pos (by omega), if_pos (by omega), hw2, if_neg (by omega), hw]) ?_
      rw [hs]
      exact ih
    · refine Ev.step (fun k => by rw [regletlaw22_OutlineSpans.l0, if_pos (by omega), if_pos (by omega), if_pos (by omega), hr, if_neg (by simp), if_neg c, hw]) ?_
      rw [hs]
      exact ih
theorem OutlineSpans : regletlaw22_OutlineSpans.Pure := by
  intro l hm hl8 hb
  apply Ev.rounds
  unfold regletlaw22_OutlineSpans.f
  refine Ev.bind awake_ev ?_
  simp only [if_true]
  by_cases h1 : (l.length : Int) > 300
  · simp only [if_pos h1]; exact stop_ev l
  simp only [if_neg h1]
  have hl : l.length ≤ 1000 := by omega
  obtain ⟨r, p, q⟩ := rising_ev hl (fun x hx => lit64s (hb x hx))
  refine Ev.bind p ?_
  cases r with
  | false => exact stop_ev l
  | true =>
    obtain ⟨f1, f2, f3, f4⟩ := spansOf_facts (q rfl)
    refine Ev.step (fun k => by rw [regletlaw22_OutlineSpans.j0, if_neg (by decide)]) ?_
    refine Ev.bind (pspans_ev hl (q rfl)) ?_
    refine Ev.bind (rspans_ev hl (q rfl)) ?_
    simp only [if_true]
    exact loop_ev (by omega) f1 f2 f3 (spansOf l).length 0 (by omega) (Int.le_refl _) (by simp [tot_])
end Go.Proofs.Ytmgflcepgbgcmaa.Pure
