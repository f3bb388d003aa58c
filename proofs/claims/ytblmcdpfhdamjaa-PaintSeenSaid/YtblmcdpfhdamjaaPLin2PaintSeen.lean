import Derived.Test.YtblmcdpfhdamjaaPLinPaintSeen
/-! Our own text: what the program draws of a line: the loop. -/
namespace Go.Proofs.Ytblmcdpfhdamjaa.PPaintSeen
set_option linter.unusedVariables false
set_option linter.unusedSimpArgs false
open Go.RowKit Go.Proofs.YtblmcdpfhdamjaaW.PrintWords

theorem opn_map (c : Option (S38 × Bool)) (b : Bool) : opn_ (c.map fun p => (p.1, p.2 && b)) = (opn_ c && b) := by
  cases c <;> rfl
theorem lst_map (c : Option (S38 × Bool)) (g : Bool → Bool) : lst_ (c.map fun p => (p.1, g p.2)) = lst_ c := by
  cases c <;> rfl
theorem pl_l0 {T : List S87} {R : List S89} (hR : R.length ≤ 1000) {s : ByteArray} (hs : s.size ≤ 1000) {sp : Int → Int} {en : Int} {S : List S99} (hS : S.length ≤ 1001) {b2 b3 b4 b6 : Int} {b5 b7 b8 : Bool} {X : Int} (hX : ∀ n y, S.drop n = [y] → y.f1 = X) :
    ∀ (f i n : Nat) (x : Int) (o : List S38) (c : Option (S38 × Bool)), Rt s f i → i ≤ s.size → S.drop n = stl_ T R sp en s f i x → n ≤ i → (o ++ lst_ c).length ≤ n → (∀ m ∈ o ++ lst_ c, m.f3.size ≤ i) →
      Ev (fun k => paint_Line.l0 k [⟨T⟩] (o ++ lst_ c) S (opn_ c) (n : Int) s R b2 b3 b4 b5 b6 b7 b8 s (i : Int)) (hyp_ T R b6 b5 X (drw_ R b6 s (rl_ s f (i : Int)) (S.drop n) o c))
  | 0, i, n, x, o, c, h, hi, hd, hni, hl, hm => by have := h.2; omega
  | f + 1, i, n, x, o, c, h, hi, hd, hni, hl, hm => by
    by_cases q : i < s.size
    · obtain ⟨hz, g1, g2, g3, g4⟩ := rt_step h q
      obtain ⟨x2, e1⟩ := stl_step (T := T) (R := R) (sp := sp) (en := en) (x := x) h q
      obtain ⟨st, e2⟩ := stl_head (T := T) (R := R) (sp := sp) (en := en) (x := x2) g4 g2
      rw [e1] at hd
      obtain ⟨d1, d2, d3⟩ := d99 hd
      rw [e2] at hd
      have d3' := d3
      rw [e2] at d3'
      obtain ⟨k1, k2, k3⟩ := d99 d3'
      obtain ⟨t1, t2, t3⟩ := it_eq q hz
      rw [rlq_step h q, hd]
      generalize hi' : i + (rsize_ s (i : Int)).toNat = i' at *
      generalize hr : vOf s (i : Int) (rsize_ s (i : Int)) = r at *
      have hw := stq_ok (R := R) (Y := b6) (s := s) (c := c) (r := r) (y := (⟨(i : Int), x⟩ : S99)) (z := (⟨(i' : Int), x2⟩ : S99)) (a := i) (b := i') rfl rfl (by omega) g2 hm
      have ih := pl_l0 (T := T) hR hs (sp := sp) (en := en) hS (b2 := b2) (b3 := b3) (b4 := b4) (b6 := b6) (b5 := b5) (b7 := b7) (b8 := b8) hX f i' (n + 1) x2 (o ++ (stq_ R b6 s c r ⟨(i : Int), x⟩ ⟨(i' : Int), x2⟩).1) (stq_ R b6 s c r ⟨(i : Int), x⟩ ⟨(i' : Int), x2⟩).2 g4 g2 d3 (by omega) (by omega) hw.2
      rw [d3'] at ih
      have goal_eq : drw_ R b6 s (r :: rl_ s f (i' : Int)) ((⟨(i : Int), x⟩ : S99) :: ⟨(i' : Int), x2⟩ :: st) o c = drw_ R b6 s (rl_ s f (i' : Int)) (⟨(i' : Int), x2⟩ :: st) (o ++ (stq_ R b6 s c r ⟨(i : Int), x⟩ ⟨(i' : Int), x2⟩).1) (stq_ R b6 s c r ⟨(i : Int), x⟩ ⟨(i' : Int), x2⟩).2 := rfl
      rw [goal_eq]
      refine Ev.step (fun k => by rw [paint_Line.l0, if_pos (show ((i : Int)).toNat < s.size by omega), if_pos (by omega), if_pos (by omega), upN (by omega), if_pos (by omega), if_pos (by omega), t2, d2, k2]) ?_
      refine Ev.bind (drawn_ev r) ?_
      cases hdr : dr_ r with
      | false =>
        have e3 : stq_ R b6 s c r ⟨(i : Int), x⟩ ⟨(i' : Int), x2⟩ = ([], c.map fun p => (p.1, p.2 && (x2 == x) && !(kd_ r == 1) && !(kd_ r == 2))) := by
          unfold stq_; rw [if_neg (by rw [hdr]; simp)]
        rw [e3] at ih
        simp only [List.append_nil, lst_map c (fun b => b && (x2 == x) && !(kd_ r == 1) && !(kd_ r == 2))] at ih
        rw [show (c.map fun p => (p.1, p.2 && (x2 == x) && !(kd_ r == 1) && !(kd_ r == 2))) = (c.map fun p => (p.1, p.2 && ((x2 == x) && !(kd_ r == 1) && !(kd_ r == 2)))) from by simp only [Bool.and_assoc]] at ih
        rw [e3]
        simp only [List.append_nil]
        rw [show (c.map fun p => (p.1, p.2 && (x2 == x) && !(kd_ r == 1) && !(kd_ r == 2))) = (c.map fun p => (p.1, p.2 && ((x2 == x) && !(kd_ r == 1) && !(kd_ r == 2)))) from by simp only [Bool.and_assoc]]
        rw [opn_map] at ih
        refine Ev.congr (fun k => by rw [if_neg (by simp)]) ?_
        cases hop : opn_ c with
        | false =>
          rw [hop, Bool.false_and] at ih
          exact Ev.congr (fun k => by rw [if_neg (by simp), t3]) ih
        | true =>
          rw [hop, Bool.true_and] at ih
          by_cases hx : x2 = x
          · rw [show (x2 == x) = true from by simp [hx], Bool.true_and] at ih ⊢
            refine Ev.congr (fun k => by rw [if_pos rfl, if_pos hx]) (Ev.bind (kind_ev r) ?_)
            by_cases hk : kd_ r = 1
            · rw [show (kd_ r == 1) = true from by simp [hk], Bool.not_true, Bool.false_and] at ih ⊢
              exact Ev.congr (fun k => by rw [if_pos hk, t3]) ih
            · rw [show (kd_ r == 1) = false from by simp [hk], Bool.not_false, Bool.true_and] at ih ⊢
              refine Ev.congr (fun k => by rw [if_neg hk]) (Ev.bind (kind_ev r) ?_)
              exact Ev.congr (fun k => by rw [t3]; rfl) ih
          · rw [show (x2 == x) = false from by simp [hx], Bool.false_and, Bool.false_and] at ih ⊢
            exact Ev.congr (fun k => by rw [if_pos rfl, if_neg hx, t3]) ih
      | true =>
        have hsa := psa_ev hR (a := itP_ (i : Int)) (by rw [t1]; omega) (by rw [t1]; omega)
        rw [t1] at hsa
        have hlen : (o ++ lst_ c).length ≤ 1000 := by omega
        have hsz : (s.extract ((i : Int)).toNat ((i' : Int)).toNat).size ≤ 1000 := by
          rw [ByteArray.size_extract]; omega
        -- a mark more
        have app : ∀ (x7 : Bool) (x15 : Int), stq_ R b6 s c r ⟨(i : Int), x⟩ ⟨(i' : Int), x2⟩ = (lst_ c, some (new_ R b6 s ⟨(i : Int), x⟩ ⟨(i' : Int), x2⟩, true)) →
            Ev (fun k => paint_Line.j1 k [⟨T⟩] (o ++ lst_ c) S x7 ((n + 1 : Nat) : Int) (sa_ R (i : Int)) (s.extract ((i : Int)).toNat ((i' : Int)).toNat) x15 false s R b2 b3 b4 b5 b6 b7 b8 s (i' : Int) (i : Int) x (i' : Int) x2)
              (hyp_ T R b6 b5 X (drw_ R b6 s (rl_ s f (i' : Int)) (⟨(i' : Int), x2⟩ :: st) (o ++ (stq_ R b6 s c r ⟨(i : Int), x⟩ ⟨(i' : Int), x2⟩).1) (stq_ R b6 s c r ⟨(i : Int), x⟩ ⟨(i' : Int), x2⟩).2)) := by
          intro x7 x15 hq
          rw [hq] at ih ⊢
          refine Ev.step (fun k => by rw [paint_Line.j1, if_neg (by simp), sub_f, Option.bind_some, if_pos (by omega)]) ?_
          exact ih
        refine Ev.congr (fun k => by rw [if_pos rfl, t1]) (Ev.bind hsa ?_)
        refine Ev.congr (fun k => by rw [if_pos (show (0 : Int) ≤ (i : Int) by omega), if_pos (show (i : Int) ≤ (i' : Int) by omega), if_pos (show (i' : Int) ≤ (s.size : Int) by omega), t3]) ?_
        match hc : c with
        | none =>
          have hq : stq_ R b6 s none r ⟨(i : Int), x⟩ ⟨(i' : Int), x2⟩ = (lst_ none, some (new_ R b6 s ⟨(i : Int), x⟩ ⟨(i' : Int), x2⟩, true)) := by
            unfold stq_; rw [if_pos hdr]; rfl
          exact Ev.congr (fun k => by rw [if_neg (by simp [opn_])]) (app _ _ hq)
        | some (m, false) =>
          have hq : stq_ R b6 s (some (m, false)) r ⟨(i : Int), x⟩ ⟨(i' : Int), x2⟩ = (lst_ (some (m, false)), some (new_ R b6 s ⟨(i : Int), x⟩ ⟨(i' : Int), x2⟩, true)) := by
            unfold stq_; rw [if_pos hdr]; rfl
          exact Ev.congr (fun k => by rw [if_neg (by simp [opn_])]) (app _ _ hq)
        | some (m, true) =>
          have hl2 : (o ++ lst_ (some (m, true))) = o ++ [m] := rfl
          have hol : o.length ≤ 1000 := by rw [hl2, List.length_append, List.length_singleton] at hlen; omega
          have hlm : wrap64 (((o ++ lst_ (some (m, true))).length : Int) - 1) = (o.length : Int) := by
            rw [hl2, List.length_append, List.length_singleton, v64 (by omega) (by omega)]; omega
          have hlt : (o.length : Int) < ((o ++ lst_ (some (m, true))).length : Int) := by rw [hl2, List.length_append, List.length_singleton]; omega
          have hrd : rd_T38 (o ++ lst_ (some (m, true))) (o.length : Int) = m := l38 o m
          refine Ev.congr (fun k => by rw [if_pos (show opn_ (some (m, true)) = true from rfl), hlm, if_pos (Int.natCast_nonneg _), if_pos hlt, hrd]) ?_
          by_cases hst : m.f4 = sa_ R (i : Int)
          · have hq : stq_ R b6 s (some (m, true)) r ⟨(i : Int), x⟩ ⟨(i' : Int), x2⟩ = ([], some (upd_ s m ⟨(i : Int), x⟩ ⟨(i' : Int), x2⟩, true)) := by
              unfold stq_; rw [if_pos hdr]; exact if_pos hst
            rw [hq] at ih ⊢
            have hm3 : m.f3.size ≤ i := hm m (by simp [lst_])
            refine Ev.step (fun k => by rw [paint_Line.j1, if_pos (by simp [hst]), if_pos (Int.natCast_nonneg _), if_pos hlt, hrd, if_pos (show m.f3.size + (s.extract ((i : Int)).toNat ((i' : Int)).toNat).size ≤ 9223372036854775807 by omega), Option.bind_some]) ?_
            refine Ev.congr (fun k => by rw [show (o ++ lst_ (some (m, true))).set ((o.length : Int)).toNat (⟨m.f0, m.f1, m.f2, m.f3 ++ s.extract ((i : Int)).toNat ((i' : Int)).toNat, m.f4⟩ : S38) = o ++ [(⟨m.f0, m.f1, m.f2, m.f3 ++ s.extract ((i : Int)).toNat ((i' : Int)).toNat, m.f4⟩ : S38)] from s38 o _ _, l38, sub_f, Option.bind_some, s38]) ?_
            simp only [List.append_nil] at ih ⊢
            exact ih
          · have hq : stq_ R b6 s (some (m, true)) r ⟨(i : Int), x⟩ ⟨(i' : Int), x2⟩ = (lst_ (some (m, true)), some (new_ R b6 s ⟨(i : Int), x⟩ ⟨(i' : Int), x2⟩, true)) := by
              unfold stq_; rw [if_pos hdr]; exact if_neg hst
            have := app true (o.length : Int) hq
            exact Ev.congr (fun k => by rw [show (m.f4 == sa_ R (i : Int)) = false from by simp [hst]]; rfl) this
    · have hsz : i = s.size := by omega
      have e1 : stl_ T R sp en s (f + 1) i x = [⟨(s.size : Int), x⟩] := if_neg q
      rw [e1] at hd
      obtain ⟨d1, d2, d3⟩ := d99 hd
      have hn1 := dropN d3
      have hxx := hX n _ hd
      simp only at hxx
      rw [rlq_end q, hd]
      have e2 : drw_ R b6 s [] [⟨(s.size : Int), x⟩] o c = o ++ lst_ c := rfl
      rw [e2]
      have hlm : wrap64 ((S.length : Int) - 1) = (n : Int) := by rw [v64 (by omega) (by omega)]; omega
      refine Ev.step (fun k => by rw [paint_Line.l0, if_neg (by omega)]) ?_
      cases b5 with
      | false => exact Ev.congr (fun k => by rw [if_neg (by simp)]; rfl) (Ev.now _)
      | true =>
        refine Ev.congr (fun k => by rw [if_pos rfl]) (Ev.bind (show Ev (fun k => paint_lastStyle.f k s R b2 b3 b4 true b6 b7 b8) (ls_ R 0) from pls_l0 hR R 0 0 rfl) ?_)
        refine Ev.congr (fun k => by rw [hlm, if_pos (by omega), if_pos (by omega), hyp_ev T _ k, Option.bind_some, if_pos (by omega), d2, hxx]; rfl) (Ev.now _)
theorem pline_ev {T : List S87} (hT : ∀ x ∈ T, RightS x) {x : S25} (hg : GoodL x) : ∃ X, (∀ n y, (sts_ T x.f1 (spw_ T x.f2 x.f3) x.f0).drop n = [y] → y.f1 = X) ∧
    Ev (fun k => paint_Line.f k [⟨T⟩] x.f0 x.f1 x.f2 x.f3 x.f4 x.f5 x.f6 x.f7 x.f8) (hyp_ T x.f1 x.f6 x.f5 X (drw_ x.f1 x.f6 x.f0 (rl_ x.f0 (x.f0.size + 1) 0) (sts_ T x.f1 (spw_ T x.f2 x.f3) x.f0) [] none)) := by
  have hR : x.f1.length ≤ 1000 := by have := hg.2.1; omega
  have hs : x.f0.size ≤ 1000 := by have := hg.1; omega
  have hp := stops_ev hT hR hs hg.2.2.1 (b2 := x.f2) (b3 := x.f3) (b4 := x.f4) (b5 := x.f5) (b6 := x.f6) (b7 := x.f7) (b8 := x.f8) (fun i => spw_ev hT i)
  have hl := stl_len (T := T) (R := x.f1) (sp := spw_ T x.f2 x.f3) (en := shn_ x.f0) (s := x.f0) (x.f0.size + 1) 0 0 (rt_all hg.2.2.1) (Nat.zero_le _)
  have hlen : (sts_ T x.f1 (spw_ T x.f2 x.f3) x.f0).length ≤ 1001 := by unfold sts_; omega
  refine ⟨((sts_ T x.f1 (spw_ T x.f2 x.f3) x.f0).getLast?.getD z99).f1, fun n y h => ?_, ?_⟩
  · have : (sts_ T x.f1 (spw_ T x.f2 x.f3) x.f0).getLast? = some y := by
      rw [← List.take_append_drop n (sts_ T x.f1 (spw_ T x.f2 x.f3) x.f0), h]; simp
    rw [this]; rfl
  · unfold paint_Line.f
    refine Ev.bind hp ?_
    have := pl_l0 (T := T) hR hs (sp := spw_ T x.f2 x.f3) (en := shn_ x.f0) (S := sts_ T x.f1 (spw_ T x.f2 x.f3) x.f0) hlen (b2 := x.f2) (b3 := x.f3) (b4 := x.f4) (b6 := x.f6) (b5 := x.f5) (b7 := x.f7) (b8 := x.f8) (X := ((sts_ T x.f1 (spw_ T x.f2 x.f3) x.f0).getLast?.getD z99).f1) (fun n y h => by
      have : (sts_ T x.f1 (spw_ T x.f2 x.f3) x.f0).getLast? = some y := by
        rw [← List.take_append_drop n (sts_ T x.f1 (spw_ T x.f2 x.f3) x.f0), h]; simp
      rw [this]; rfl) (x.f0.size + 1) 0 0 0 [] none (rt_all hg.2.2.1) (Nat.zero_le _) rfl (Nat.le_refl _) (Nat.le_refl _) (by intro m hm; simp [lst_] at hm)
    exact this
end Go.Proofs.Ytblmcdpfhdamjaa.PPaintSeen
