/-
An index is told as rows as the reference tells them: each word, and its pages' labels: the pure statement of the law OutlineEntries. No condition.
-/
import Derived.Test.YtmgflcepgbgcmaaOpensOutlineEntries
import Derived.Test.YtmgflcepgbgcmaaEntsOutlineEntries
namespace Go.Proofs.Ytmgflcepgbgcmaa.Pure
open Go.RowKit Go.Proofs.Ytmgflcepgbgcmaa.POutlineEntries Go.Proofs.YtmgflcepgbgcmaaW.PrintWords Go.Proofs.YtmgflcepgbgcmaaW.PrintLast

theorem awake_ev : Ev (fun k => regletlaw22_awake.f k) true :=
  Ev.of (fun k => regletlaw22_awake.mono k) (k := 40) (by decide +kernel)
theorem stop_ev (a : List ByteArray) (b : List (List Int)) (c : Int) : Ev (fun k => regletlaw22_OutlineEntries.j0 k a b c true) true := Ev.step (fun k => by rw [regletlaw22_OutlineEntries.j0, if_pos rfl]) (Ev.now _)
theorem comp_ev {l : List ByteArray} (hl : l.length ≤ 100) : ∀ (d i : Nat), i + d = l.length → Ev (fun k => regletlaw22_OutlineEntries.l1 k l l (i : Int)) true
  | 0, i, hi => Ev.step (fun k => by rw [regletlaw22_OutlineEntries.l1, if_neg (by omega)]) (Ev.now _)
  | d + 1, i, hi => by
    have ih := comp_ev hl d (i + 1) (by omega)
    exact Ev.step (fun k => by rw [regletlaw22_OutlineEntries.l1, if_pos (by omega), if_pos (by omega), if_pos (by omega), if_pos rfl, up64 (by omega)]) ih
theorem fin_ev {x0 : List ByteArray} {x1 : List (List Int)} {f i : Int} {l : List WP} (hl : l.length ≤ 100) (hg : ∀ x ∈ l, GoodP x) : Ev (fun k => regletlaw22_OutlineEntries.j2 k x0 x1 f (l.map m44) (l.map m45) i false) true := by
  refine Ev.step (fun k => by rw [regletlaw22_OutlineEntries.j2, if_neg (by decide)]) ?_
  have p := pents_l0 (f := f) hl hg l 0 [] (Nat.zero_le _) rfl (Nat.zero_le _)
  have q := rents_l0 (f := f) hl hg l 0 [] (Nat.zero_le _) rfl (Nat.zero_le _)
  unfold outline_Entries.f regletref22_Entries.f
  refine Ev.bind p ?_
  refine Ev.bind q ?_
  simp only [if_true]
  exact comp_ev (by rw [List.nil_append, List.length_map]; exact hl) _ 0 (Nat.zero_add _)
theorem loop_ev {x0 : List ByteArray} {x1 : List (List Int)} {f : Int} (h0 : x0.length ≤ 100) (h1 : ∀ y ∈ x1, ∀ z ∈ y, (Lit.int .i64 z).wf = true) : ∀ (d i : Nat) (l : List WP), i + d = x0.length → l.length = i → (∀ x ∈ l, GoodP x) →
    Ev (fun k => regletlaw22_OutlineEntries.l0 k x0 x1 f (l.map m44) (l.map m45) (i : Int)) true
  | 0, i, l, hi, hl, hg => Ev.step (fun k => by rw [regletlaw22_OutlineEntries.l0, if_neg (by omega)]) (fin_ev (by omega) hg)
  | d + 1, i, l, hi, hl, hg => by
    refine Ev.step (fun k => by rw [regletlaw22_OutlineEntries.l0, if_pos (by omega)]) ?_
    by_cases c : (i : Int) < (x1.length : Int)
    · rw [decide_eq_true c]
      obtain ⟨y, hy, hyr⟩ : ∃ y, y ∈ x1 ∧ rd_L3 x1 (i : Int) = y := ⟨x1[i]'(by omega), List.getElem_mem _, by
        unfold rd_L3
        rw [Int.toNat_natCast, List.getD_eq_getElem?_getD, List.getElem?_eq_getElem (by omega)]; rfl⟩
      by_cases c1 : (y.length : Int) > 100
      · exact Ev.step (fun k => by rw [regletlaw22_OutlineEntries.j2, if_pos rfl, if_pos (by omega), if_pos c, hyr, if_pos c1]) (Ev.now _)
      obtain ⟨r, p, q⟩ := rising_ev (l := y) (by omega) (fun z hz => lit64s (h1 y hy z hz))
      refine Ev.step (fun k => by rw [regletlaw22_OutlineEntries.j2, if_pos rfl, if_pos (by omega), if_pos c, hyr, if_neg c1]) ?_
      refine Ev.bind p ?_
      cases r with
      | false => exact Ev.now _
      | true =>
        generalize hw : rdOf ByteArray.empty x0 (i : Int) = w
        simp only [if_true, if_pos (show (i : Int) < (x0.length : Int) by omega)]
        by_cases c2 : (w.size : Int) > 200
        · simp only [if_pos c2]; exact Ev.now _
        have e1 : (l.map m44).length = l.length := List.length_map _
        have e2 : (l.map m45).length = l.length := List.length_map _
        simp only [if_neg c2, if_pos (show (l.map m44).length < 3518437208883 by omega), if_pos (show (l.map m45).length < 3518437208883 by omega), up64 (show i ≤ 1000 by omega)]
        have := loop_ev (f := f) h0 h1 d (i + 1) (l ++ [(w, y)]) (by omega) (by rw [List.length_append, List.length_singleton]; omega) (fun x hx => by
          rcases List.mem_append.1 hx with h | h
          · exact hg x h
          · rw [List.mem_singleton.1 h]; exact ⟨by dsimp only; omega, by dsimp only; omega, q rfl⟩)
        rw [List.map_append, List.map_append] at this
        exact this
    · rw [decide_eq_false c]
      exact fin_ev (by omega) hg
theorem OutlineEntries : regletlaw22_OutlineEntries.PureX := by
  intro x0 x1 x2 hx0 hx1 hx2
  apply Ev.rounds
  unfold regletlaw22_OutlineEntries.f
  refine Ev.bind awake_ev ?_
  simp only [if_true]
  by_cases c1 : (x0.length : Int) > 40
  · simp only [if_pos c1]; exact stop_ev ..
  simp only [if_neg c1]
  by_cases c2 : x2 ≥ 1099511627776
  · rw [decide_eq_true c2]; exact stop_ev ..
  rw [decide_eq_false c2]
  refine Ev.step (fun k => by rw [regletlaw22_OutlineEntries.j0, if_neg (by decide)]) ?_
  exact loop_ev (by omega) (fun y hy z hz => (hx1.2 y hy).2 z hz) x0.length 0 [] (by omega) rfl (fun x hx => by cases hx)
end Go.Proofs.Ytmgflcepgbgcmaa.Pure
