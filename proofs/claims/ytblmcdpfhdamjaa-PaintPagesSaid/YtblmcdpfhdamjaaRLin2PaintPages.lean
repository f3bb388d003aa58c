import Derived.Test.YtblmcdpfhdamjaaRLinPaintPages
/-! Our own text: what the reference draws of a line: the loop. -/
namespace Go.Proofs.Ytblmcdpfhdamjaa.PPaintPages
set_option linter.unusedVariables false
set_option linter.unusedSimpArgs false
open Go.RowKit Go.Proofs.YtblmcdpfhdamjaaW.PrintWords

theorem rli_l0 {T : List S87} {R : List S89} (hR : R.length ≤ 1000) {s : ByteArray} (hs : s.size ≤ 1000) {sp : Int → Int} {en : Int} {S : List S99} (hS : S.length ≤ 1001) {RL : List Int} (hl1 : S.length = RL.length + 1) (hrg : ∀ y ∈ S, Rg y.f1) {b2 b3 b4 b6 : Int} {b5 b7 b8 : Bool} {X : Int} (hX : ∀ n y, S.drop n = [y] → y.f1 = X) :
    ∀ (f i n : Nat) (x : Int) (o : List S38) (c : Option (S38 × Bool)) (last : Int), Rt s f i → i ≤ s.size → S.drop n = stl_ T R sp en s f i x → RL.drop n = rl_ s f (i : Int) → n ≤ i → (o ++ lst_ c).length ≤ n → (∀ m ∈ o ++ lst_ c, m.f3.size ≤ i) → (∀ m ∈ o ++ lst_ c, Rg m.f0) → La RL S n c last →
      Ev (fun k => regletref21_Line.l0 k T (S.map t44) RL ((o ++ lst_ c).map tm) last (n : Int) s R b2 b3 b4 b5 b6 b7 b8) ((hyp_ T R b6 b5 X (drw_ R b6 s (rl_ s f (i : Int)) (S.drop n) o c)).map tm)
  | 0, i, n, x, o, c, last, h, hi, hd, hrl, hni, hl, hm, hmr, hla => by have := h.2; omega
  | f + 1, i, n, x, o, c, last, h, hi, hd, hrl, hni, hl, hm, hmr, hla => by
    have hml : (S.map t44).length = S.length := List.length_map ..
    by_cases q : i < s.size
    · obtain ⟨hz, g1, g2, g3, g4⟩ := rt_step h q
      obtain ⟨x2, e1⟩ := stl_step (T := T) (R := R) (sp := sp) (en := en) (x := x) h q
      obtain ⟨st, e2⟩ := stl_head (T := T) (R := R) (sp := sp) (en := en) (x := x2) g4 g2
      rw [e1] at hd
      obtain ⟨d1, d2, d3⟩ := d99 hd
      rw [e2] at hd
      have d3' := d3
      rw [e2] at d3'
      obtain ⟨k1, k2, k3⟩ := d99 d3'
      rw [rlq_step h q] at hrl ⊢
      obtain ⟨p1, p2, p3⟩ := rdI2 hrl
      rw [hd]
      have hy1 := hrg _ (List.mem_of_mem_drop (by rw [hd]; exact List.mem_cons_self))
      generalize hi' : i + (rsize_ s (i : Int)).toNat = i' at *
      generalize hr : vOf s (i : Int) (rsize_ s (i : Int)) = r at *
      simp only at hy1
      have r1 := rd46 S d1
      have r2 := rd46 S k1
      rw [d2] at r1
      rw [k2] at r2
      have hw := stq_ok (R := R) (Y := b6) (s := s) (c := c) (r := r) (y := (⟨(i : Int), x⟩ : S99)) (z := (⟨(i' : Int), x2⟩ : S99)) (a := i) (b := i') rfl rfl (by omega) g2 hm
      have ih := fun o c last => rli_l0 (T := T) hR hs (sp := sp) (en := en) hS hl1 hrg (b2 := b2) (b3 := b3) (b4 := b4) (b6 := b6) (b5 := b5) (b7 := b7) (b8 := b8) hX f i' (n + 1) x2 o c last g4 g2 d3 p3 (by omega)
      rw [d3'] at ih
      have goal_eq : drw_ R b6 s (r :: rl_ s f (i' : Int)) ((⟨(i : Int), x⟩ : S99) :: ⟨(i' : Int), x2⟩ :: st) o c = drw_ R b6 s (rl_ s f (i' : Int)) (⟨(i' : Int), x2⟩ :: st) (o ++ (stq_ R b6 s c r ⟨(i : Int), x⟩ ⟨(i' : Int), x2⟩).1) (stq_ R b6 s c r ⟨(i : Int), x⟩ ⟨(i' : Int), x2⟩).2 := rfl
      rw [goal_eq]
      refine Ev.step (fun k => by rw [regletref21_Line.l0, if_pos (by omega), if_pos (by omega), p2]) ?_
      refine Ev.bind (rkind_ev r) ?_
      have hj : ∀ k, (if kd_ r = 0 then (regletref21_Line.j1 k T (S.map t44) RL ((o ++ lst_ c).map tm) last (n : Int) false s R b2 b3 b4 b5 b6 b7 b8) else (regletref21_Line.j1 k T (S.map t44) RL ((o ++ lst_ c).map tm) last (n : Int) (kd_ r != 6) s R b2 b3 b4 b5 b6 b7 b8)) = regletref21_Line.j1 k T (S.map t44) RL ((o ++ lst_ c).map tm) last (n : Int) (!dr_ r) s R b2 b3 b4 b5 b6 b7 b8 := by
        intro k
        unfold dr_
        by_cases z : kd_ r = 0
        · rw [if_pos z, show (kd_ r == 0) = true from beq_iff_eq.2 z]; rfl
        · rw [if_neg z, show (kd_ r == 0) = false from beq_eq_false_iff_ne.2 z]; rfl
      refine Ev.congr hj ?_
      cases hdr : dr_ r with
      | false =>
        have e3 : stq_ R b6 s c r ⟨(i : Int), x⟩ ⟨(i' : Int), x2⟩ = ([], c.map fun p => (p.1, p.2 && ((!(kd_ r == 1) && !(kd_ r == 2)) && (x == x2)))) := by
          unfold stq_; rw [if_neg (by rw [hdr]; simp)]
          have hb : (x2 == x) = (x == x2) := by rw [Bool.eq_iff_iff, beq_iff_eq, beq_iff_eq]; exact eq_comm
          simp only [hb]
          congr 1
          congr 1
          funext p
          cases p.2 <;> cases (x == x2) <;> cases (kd_ r == 1) <;> cases (kd_ r == 2) <;> rfl
        have hok : okn RL S n = ((!(kd_ r == 1) && !(kd_ r == 2)) && (x == x2)) := by
          unfold okn; rw [p2, d2, k2]
        rw [e3] at hw ⊢
        have := ih (o ++ []) (c.map fun p => (p.1, p.2 && ((!(kd_ r == 1) && !(kd_ r == 2)) && (x == x2)))) last (Nat.le_trans hw.1 (by omega)) hw.2 (by
          rw [List.append_nil, lst_map c (fun b => b && ((!(kd_ r == 1) && !(kd_ r == 2)) && (x == x2)))]; exact hmr) (la_quiet hla hok)
        rw [List.append_nil, lst_map c (fun b => b && ((!(kd_ r == 1) && !(kd_ r == 2)) && (x == x2)))] at this
        simp only [List.append_nil]
        exact Ev.step (fun k => by rw [regletref21_Line.j1, if_pos (show (!false) = true from rfl), upN (by omega)]) this
      | true =>
        have hsa := rs2_ev hR (a := (i : Int)) (by omega) (by omega)
        have hlen : (o ++ lst_ c).length ≤ 1000 := by omega
        have hsz : (s.extract ((i : Int)).toNat ((i' : Int)).toNat).size ≤ 1000 := by
          rw [ByteArray.size_extract]; omega
        have hnew : (new_ R b6 s ⟨(i : Int), x⟩ ⟨(i' : Int), x2⟩).f0 = x := rfl
        have app : stq_ R b6 s c r ⟨(i : Int), x⟩ ⟨(i' : Int), x2⟩ = (lst_ c, some (new_ R b6 s ⟨(i : Int), x⟩ ⟨(i' : Int), x2⟩, true)) →
            Ev (fun k => regletref21_Line.j2 k T (S.map t44) RL ((o ++ lst_ c).map tm) (n : Int) (sa_ R (i : Int)) (s.extract ((i : Int)).toNat ((i' : Int)).toNat) false s R b2 b3 b4 b5 b6 b7 b8)
              ((hyp_ T R b6 b5 X (drw_ R b6 s (rl_ s f (i' : Int)) (⟨(i' : Int), x2⟩ :: st) (o ++ (stq_ R b6 s c r ⟨(i : Int), x⟩ ⟨(i' : Int), x2⟩).1) (stq_ R b6 s c r ⟨(i : Int), x⟩ ⟨(i' : Int), x2⟩).2)).map tm) := by
          intro hq
          rw [hq] at hw ⊢
          have := ih (o ++ lst_ c) (some (new_ R b6 s ⟨(i : Int), x⟩ ⟨(i' : Int), x2⟩, true)) (n : Int) (Nat.le_trans hw.1 (by omega)) hw.2 (by
            intro m hm
            rcases List.mem_append.1 hm with h | h
            · exact hmr m h
            · simp [lst_] at h; subst h; exact hy1) (la_new _)
          refine Ev.step (fun k => ?_) this
          rw [regletref21_Line.j2, if_neg (by simp), if_pos (by omega), if_pos (by omega), upN (by omega), if_pos (by omega), if_pos (by omega), r1, r2]
          rw [show (t44 (⟨(i' : Int), x2⟩ : S99)).f1 = x2 from rfl, show (t44 (⟨(i : Int), x⟩ : S99)).f1 = x from rfl, radd_f, Option.bind_some, ← sb_eq hy1, if_pos (by rw [List.length_map]; omega)]
          congr 1
          simp [lst_, tm, new_]
        refine Ev.step (fun k => by rw [regletref21_Line.j1, if_neg (by simp), if_pos (by omega), if_pos (by omega), r1]) ?_
        refine Ev.bind (show Ev (fun k => regletref21_style.f k R (t44 (⟨(i : Int), x⟩ : S99)).f0) (sa_ R (i : Int)) from hsa) ?_
        refine Ev.congr (fun k => by rw [upN (by omega), if_pos (by omega), if_pos (by omega), r2, show (t44 (⟨(i' : Int), x2⟩ : S99)).f0 = (i' : Int) from rfl, show (t44 (⟨(i : Int), x⟩ : S99)).f0 = (i : Int) from rfl, if_pos (show (0 : Int) ≤ (i : Int) by omega), if_pos (show (i : Int) ≤ (i' : Int) by omega), if_pos (show (i' : Int) ≤ (s.size : Int) by omega)]) ?_
        match hc : c, hla with
        | none, hla =>
          have hq : stq_ R b6 s none r ⟨(i : Int), x⟩ ⟨(i' : Int), x2⟩ = (lst_ none, some (new_ R b6 s ⟨(i : Int), x⟩ ⟨(i' : Int), x2⟩, true)) := by
            unfold stq_; rw [if_pos hdr]; rfl
          have hl0 : last = -1 := hla
          exact Ev.congr (fun k => by rw [if_neg (by omega)]) (app hq)
        | some (m, b), ⟨l, hl0, hl2, hl3⟩ =>
          have hl2' : (o ++ lst_ (some (m, b))) = o ++ [m] := rfl
          have hol : o.length ≤ 1000 := by rw [hl2', List.length_append, List.length_singleton] at hlen; omega
          have hml2 : (((o ++ lst_ (some (m, b))).map tm).length : Int) = (o.length : Int) + 1 := by rw [List.length_map, hl2', List.length_append, List.length_singleton]; omega
          have hlm : wrap64 ((((o ++ lst_ (some (m, b))).map tm).length : Int) - 1) = (o.length : Int) := by rw [hml2, v64 (by omega) (by omega)]; omega
          have hrd : rd_T96 ((o ++ lst_ (some (m, b))).map tm) (o.length : Int) = tm m := d96 o m
          have hm4 : (tm m).f4 = m.f4 := rfl
          refine Ev.congr (fun k => by rw [if_pos (by omega), hlm, if_pos (Int.natCast_nonneg _), if_pos (by omega), hrd, hm4]) ?_
          by_cases hst : m.f4 = sa_ R (i : Int)
          · have hqu := quiet_l0 hl1 (by omega) (n := n) (by omega) (n - (l + 1)) (l + 1) (by omega)
            rw [← hl3] at hqu
            refine Ev.congr (fun k => by rw [if_pos hst, hl0, upN (by omega)]) (Ev.bind (show Ev (fun k => regletref21_quiet.f k RL (S.map t44) ((l + 1 : Nat) : Int) (n : Int)) b from hqu) ?_)
            cases b with
            | false =>
              have hq : stq_ R b6 s (some (m, false)) r ⟨(i : Int), x⟩ ⟨(i' : Int), x2⟩ = (lst_ (some (m, false)), some (new_ R b6 s ⟨(i : Int), x⟩ ⟨(i' : Int), x2⟩, true)) := by
                unfold stq_; rw [if_pos hdr]; rfl
              exact app hq
            | true =>
              have hq : stq_ R b6 s (some (m, true)) r ⟨(i : Int), x⟩ ⟨(i' : Int), x2⟩ = ([], some (upd_ s m ⟨(i : Int), x⟩ ⟨(i' : Int), x2⟩, true)) := by
                unfold stq_; rw [if_pos hdr]; exact if_pos hst
              rw [hq] at hw ⊢
              have hm0 : Rg m.f0 := hmr m (by simp [lst_])
              have hm3 : m.f3.size ≤ i := hm m (by simp [lst_])
              have := ih (o ++ []) (some (upd_ s m ⟨(i : Int), x⟩ ⟨(i' : Int), x2⟩, true)) (n : Int) (Nat.le_trans hw.1 (by omega)) hw.2 (by
                intro m' hm'
                rcases List.mem_append.1 hm' with h | h
                · exact hmr m' (List.mem_append_left _ (by simpa using h))
                · simp [lst_] at h; subst h; exact hm0) (la_new _)
              refine Ev.step (fun k => ?_) this
              have hset : ∀ m' : S96, ((o ++ lst_ (some (m, true))).map tm).set ((o.length : Int)).toNat m' = o.map tm ++ [m'] := s96 o m
              have hset2 : ∀ m1 m2 : S96, (o.map tm ++ [m1]).set ((o.length : Int)).toNat m2 = o.map tm ++ [m2] := by
                intro m1 m2; rw [Int.toNat_natCast]; simp [List.set_append]
              have hrd2 : ∀ m1 : S96, rd_T96 (o.map tm ++ [m1]) (o.length : Int) = m1 := by
                intro m1; unfold rd_T96; rw [Int.toNat_natCast]; simp [List.getD_eq_getElem?_getD]
              rw [regletref21_Line.j2, if_pos rfl, hlm, if_pos (Int.natCast_nonneg _), if_pos (by omega), hrd, if_pos (show (tm m).f3.size + (s.extract ((i : Int)).toNat ((i' : Int)).toNat).size ≤ 9223372036854775807 from by show m.f3.size + _ ≤ _; omega), Option.bind_some, upN (by omega), if_pos (by omega), if_pos (by omega), r2, hset, hrd2, radd_f, Option.bind_some, hset2]
              congr 1
              have hsb : ad_ (t44 (⟨(i' : Int), x2⟩ : S99)).f1 (wrap64 (-(tm m).f0)) = sb_ x2 m.f0 := (sb_eq hm0).symm
              simp only [hsb, List.append_nil, lst_, List.map_append, List.map_cons, List.map_nil]
              rfl
          · have hq : stq_ R b6 s (some (m, b)) r ⟨(i : Int), x⟩ ⟨(i' : Int), x2⟩ = (lst_ (some (m, b)), some (new_ R b6 s ⟨(i : Int), x⟩ ⟨(i' : Int), x2⟩, true)) := by
              unfold stq_; rw [if_pos hdr]
              cases b with
              | true => exact if_neg hst
              | false => rfl
            exact Ev.congr (fun k => by rw [if_neg hst]) (app hq)
    · have hsz : i = s.size := by omega
      have e1 : stl_ T R sp en s (f + 1) i x = [⟨(s.size : Int), x⟩] := if_neg q
      rw [e1] at hd
      obtain ⟨d1, d2, d3⟩ := d99 hd
      have hn1 := dropN d3
      have hxx := hX n _ hd
      simp only at hxx
      rw [rlq_end q, hd]
      have e2 : drw_ R b6 s [] [⟨(s.size : Int), x⟩] o c = o ++ lst_ c := rfl
      rw [e2]
      have hn : n = RL.length := by omega
      refine Ev.step (fun k => by rw [regletref21_Line.l0, if_neg (by omega)]) ?_
      cases b5 with
      | false => exact Ev.congr (fun k => by rw [if_neg (by simp)]; rfl) (Ev.now _)
      | true =>
        have := rl1_ (T := T) hR (S' := S.map t44) (RL := RL) (out := (o ++ lst_ c).map tm) (s := s) (b2 := b2) (b3 := b3) (b4 := b4) (b6 := b6) (b5 := true) (b7 := b7) (b8 := b8) (by omega) (by rw [List.length_map]; omega) R 0 0 rfl
        rw [← hn, rd46 S (by omega), d2, show (t44 (⟨(s.size : Int), x⟩ : S99)).f1 = x from rfl, hxx] at this
        refine Ev.congr (fun k => by rw [if_pos rfl]) ?_
        have e3 : (hyp_ T R b6 true X (o ++ lst_ c)).map tm = (o ++ lst_ c).map tm ++ [⟨X, b6, (stg_ T (ls_ R 0)).f4, (⟨#[45]⟩ : ByteArray), ls_ R 0⟩] := by
          unfold hyp_; rw [if_pos rfl, List.map_append]; rfl
        rw [e3]
        exact this
theorem stl_rl {T : List S87} {R : List S89} {sp : Int → Int} {en : Int} {s : ByteArray} : ∀ (f i : Nat) (x : Int), Rt s f i → i ≤ s.size → (stl_ T R sp en s f i x).length = (rl_ s f (i : Int)).length + 1
  | 0, i, x, h, hi => by have := h.2; omega
  | f + 1, i, x, h, hi => by
    by_cases q : i < s.size
    · obtain ⟨hz, g1, g2, g3, g4⟩ := rt_step h q
      obtain ⟨x2, e1⟩ := stl_step (T := T) (R := R) (sp := sp) (en := en) (x := x) h q
      rw [e1, rlq_step h q, List.length_cons, List.length_cons, stl_rl f _ x2 g4 g2]
    · have e1 : stl_ T R sp en s (f + 1) i x = [⟨(s.size : Int), x⟩] := if_neg q
      rw [e1, rlq_end q]; rfl
/-- What is drawn of a line: the program and the reference. -/
theorem lines_ev {T : List S87} (hT : ∀ x ∈ T, RightS x) {x : S25} (hg : GoodL x) : ∃ X : Int, Ev (fun k => paint_Line.f k [⟨T⟩] x.f0 x.f1 x.f2 x.f3 x.f4 x.f5 x.f6 x.f7 x.f8) (hyp_ T x.f1 x.f6 x.f5 X (drw_ x.f1 x.f6 x.f0 (rl_ x.f0 (x.f0.size + 1) 0) (sts_ T x.f1 (spw_ T x.f2 x.f3) x.f0) [] none)) ∧ Ev (fun k => regletref21_Line.f k T x.f0 x.f1 x.f2 x.f3 x.f4 x.f5 x.f6 x.f7 x.f8) ((hyp_ T x.f1 x.f6 x.f5 X (drw_ x.f1 x.f6 x.f0 (rl_ x.f0 (x.f0.size + 1) 0) (sts_ T x.f1 (spw_ T x.f2 x.f3) x.f0) [] none)).map tm) := by
  obtain ⟨X, hX, hp⟩ := pline_ev hT hg
  refine ⟨X, hp, ?_⟩
  have hR : x.f1.length ≤ 1000 := by have := hg.2.1; omega
  have hs : x.f0.size ≤ 1000 := by have := hg.1; omega
  have hq := rstops_ev hT hR hs hg.2.2.1 (b2 := x.f2) (b3 := x.f3) (b4 := x.f4) (b5 := x.f5) (b6 := x.f6) (b7 := x.f7) (b8 := x.f8)
  have hl := stl_len (T := T) (R := x.f1) (sp := spw_ T x.f2 x.f3) (en := shn_ x.f0) (s := x.f0) (x.f0.size + 1) 0 0 (rt_all hg.2.2.1) (Nat.zero_le _)
  have hlen : (sts_ T x.f1 (spw_ T x.f2 x.f3) x.f0).length ≤ 1001 := by unfold sts_; omega
  unfold regletref21_Line.f
  refine Ev.bind hq (Ev.bind (runes_ev (by omega)) ?_)
  exact rli_l0 (T := T) hR hs (sp := spw_ T x.f2 x.f3) (en := shn_ x.f0) (S := sts_ T x.f1 (spw_ T x.f2 x.f3) x.f0) hlen (stl_rl _ _ _ (rt_all hg.2.2.1) (Nat.zero_le _)) (stl_rg _ _ _ ⟨by decide, by decide⟩) (b2 := x.f2) (b3 := x.f3) (b4 := x.f4) (b6 := x.f6) (b5 := x.f5) (b7 := x.f7) (b8 := x.f8) hX (x.f0.size + 1) 0 0 0 [] none (-1) (rt_all hg.2.2.1) (Nat.zero_le _) rfl rfl (Nat.le_refl _) (Nat.le_refl _) (by intro m hm; simp [lst_] at hm) (by intro m hm; simp [lst_] at hm) rfl
end Go.Proofs.Ytblmcdpfhdamjaa.PPaintPages
