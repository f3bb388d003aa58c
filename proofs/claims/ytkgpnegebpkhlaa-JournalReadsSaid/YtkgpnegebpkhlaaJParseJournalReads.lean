import Derived.Test.YtkgpnegebpkhlaaJTwoJournalReads
/-! Our own text: the records that bytes begin with. -/
namespace Go.Proofs.Ytkgpnegebpkhlaa.PJournalReads
set_option linter.unusedVariables false
open Go.RowKit Go.Proofs.YtkgpnegebpkhlaaW.PrintWords

def cv_ (x : S24) : S30 := ⟨x.f0, x.f1, x.f2, x.f3, x.f4⟩
theorem parse_l0 {l : List Int} (hb : byt_ l) (hl : l.length ≤ 2000) : ∀ (m p : Nat) (a : List S24), l.length - p ≤ m → p ≤ l.length → a.length ≤ p →
    ∃ (q : List S24) (n : Nat), n ≤ l.length ∧ q.length ≤ n ∧ Ev (fun k => journal_Parse.l0 k l a p) (q, (n : Int), if n = l.length then 0 else 230) ∧ Ev (fun k => regletref23_Parse.l0 k l (a.map cv_) p) (q.map cv_, (n : Int))
  | m, p, a, hm, hp, ha => by
    by_cases h : p = l.length
    · refine ⟨a, p, hp, ha, ?_, ?_⟩
      · rw [if_pos h]
        exact Ev.step (fun k => by rw [journal_Parse.l0, if_neg (by omega)]) (Ev.now _)
      · exact Ev.step (fun k => by rw [regletref23_Parse.l0, if_neg (by omega)]) (Ev.now _)
    · have hlt : (p : Int) < (l.length : Int) := by omega
      have hbd : byt_ (l.drop p) := fun x hx => hb x (List.mem_of_mem_drop hx)
      obtain ⟨q, r, hq, hr, hrel⟩ := one_ev hbd (by rw [List.length_drop]; omega)
      have s1 : ∀ v, Ev (fun k => if q.2.2.2.2.2 = 0 then (some (a, (p : Int), (230 : Int))) else (if a.length < 2932031007402 then (journal_Parse.l0 k l (a ++ [(⟨q.1, q.2.1, q.2.2.1, q.2.2.2.1, q.2.2.2.2.1⟩ : S24)]) (wrap64 (p + q.2.2.2.2.2))) else (none))) v → Ev (fun k => journal_Parse.l0 k l a p) v := fun v hE => by
        refine Ev.step (fun k => by rw [journal_Parse.l0, if_pos hlt, if_pos (Int.natCast_nonneg p), if_pos (Int.ofNat_le.2 hp), Int.toNat_natCast]) (Ev.bind hq hE)
      have s2 : ∀ v, Ev (fun k => if r.2.2.2.2.2 = 0 then (some (a.map cv_, (p : Int))) else (if (a.map cv_).length < 2932031007402 then (regletref23_Parse.l0 k l (a.map cv_ ++ [(⟨r.1, r.2.1, r.2.2.1, r.2.2.2.1, r.2.2.2.2.1⟩ : S30)]) (wrap64 (p + r.2.2.2.2.2))) else (none))) v → Ev (fun k => regletref23_Parse.l0 k l (a.map cv_) p) v := fun v hE => by
        refine Ev.step (fun k => by rw [regletref23_Parse.l0, if_pos hlt, if_pos (Int.natCast_nonneg p), if_pos (Int.ofNat_le.2 hp), Int.toNat_natCast]) (Ev.bind hr hE)
      rcases hrel with ⟨h1, h2⟩ | ⟨h1, n, h2, h3, h4⟩
      · refine ⟨a, p, hp, ha, s1 _ ?_, s2 _ ?_⟩
        · rw [if_neg h]
          simp only [if_pos h1]
          exact Ev.now _
        · simp only [if_pos h2]
          exact Ev.now _
      · subst h1
        rw [List.length_drop] at h4
        match m, hm with
        | 0, hm => omega
        | m + 1, hm =>
          obtain ⟨q2, n2, i1, i2, i3, i4⟩ := parse_l0 hb hl m (p + n) (a ++ [(⟨q.1, q.2.1, q.2.2.1, q.2.2.2.1, q.2.2.2.2.1⟩ : S24)]) (by omega) (by omega) (by rw [List.length_append, List.length_singleton]; omega)
          have ew := addN (a := p) (b := n) (by omega)
          have hz : ¬ q.2.2.2.2.2 = 0 := by rw [h2]; omega
          have hal : a.length < 2932031007402 := Nat.lt_of_le_of_lt ha (Nat.lt_of_le_of_lt hp (Nat.lt_of_le_of_lt hl (by decide)))
          refine ⟨q2, n2, i1, i2, s1 _ ?_, s2 _ ?_⟩
          · simp only [if_neg hz, if_pos hal]
            rw [h2, ew]
            exact i3
          · simp only [if_neg hz, List.length_map, if_pos hal]
            rw [h2, ew]
            rw [List.map_append] at i4
            exact i4
theorem parse_ev {l : List Int} (hb : byt_ l) (hl : l.length ≤ 2000) : ∃ (q : List S24) (n : Nat), n ≤ l.length ∧ q.length ≤ n ∧ Ev (fun k => journal_Parse.f k l) (q, (n : Int), if n = l.length then 0 else 230) ∧ Ev (fun k => regletref23_Parse.f k l) (q.map cv_, (n : Int)) :=
  parse_l0 hb hl l.length 0 [] (by omega) (by omega) (by simp)
theorem at24 {l t : List S24} {i : Nat} {n : S24} (h : l.drop i = n :: t) : i < l.length ∧ rd_T24 l (i : Int) = n ∧ l.drop (i + 1) = t := by
  have h1 : i < l.length := by
    rcases Nat.lt_or_ge i l.length with h1 | h1
    · exact h1
    · rw [List.drop_eq_nil_of_le h1] at h; cases h
  rw [List.drop_eq_getElem_cons h1] at h
  injection h with h2 h3
  refine ⟨h1, ?_, h3⟩
  unfold rd_T24
  rw [Int.toNat_natCast, List.getD_eq_getElem?_getD, List.getElem?_eq_getElem h1, h2]; rfl
theorem refs_l0 {l : List S24} (hl : l.length ≤ 2000) : ∀ (t : List S24) (i : Nat) (a : List S30), l.drop i = t → a.length = i →
    Ev (fun k => regletlaw23_refs.l0 k l a i) (a ++ t.map cv_)
  | [], i, a, h, ha => by
    have := dropK h
    refine Ev.step (f := fun _ => some a) (fun k => by rw [regletlaw23_refs.l0, if_neg (by omega)]) ?_
    rw [List.map_nil, List.append_nil]
    exact Ev.now _
  | x :: t, i, a, h, ha => by
    obtain ⟨h1, h2, h3⟩ := at24 h
    have ih := refs_l0 hl t (i + 1) (a ++ [cv_ x]) h3 (by rw [List.length_append, ha]; rfl)
    rw [List.append_assoc] at ih
    refine Ev.step (fun k => ?_) ih
    rw [regletlaw23_refs.l0, if_pos (Int.ofNat_lt.2 h1), if_pos (Int.natCast_nonneg i), h2, regletlaw23_ref.f, Option.bind_some, if_pos (by omega), upJ (by omega)]
    rfl
theorem refs_ev {l : List S24} (hl : l.length ≤ 2000) : Ev (fun k => regletlaw23_refs.f k l) (l.map cv_) :=
  refs_l0 hl l 0 [] rfl rfl
theorem same_l0 {l : List S30} (hl : l.length ≤ 2000) : ∀ (m i : Nat), i + m = l.length → Ev (fun k => regletref23_Same.l0 k l l i) true
  | 0, i, h => Ev.step (fun k => by rw [regletref23_Same.l0, if_neg (by omega)]) (Ev.now _)
  | m + 1, i, h => by
    have ih := same_l0 hl m (i + 1) (by omega)
    refine Ev.step (fun k => ?_) ih
    rw [regletref23_Same.l0, if_pos (by omega), if_pos (by omega), if_pos (by omega), upJ (by omega)]
    simp
theorem same_ev {l : List S30} (hl : l.length ≤ 2000) : Ev (fun k => regletref23_Same.f k l l) true := by
  unfold regletref23_Same.f
  exact Ev.congr (fun k => by rw [if_pos rfl]; rfl) (same_l0 hl l.length 0 (by omega))
end Go.Proofs.Ytkgpnegebpkhlaa.PJournalReads
