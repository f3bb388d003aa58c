/-
What is drawn of a line says what is there to see: the pure statement of the law PaintSeen. No condition.
-/
import Derived.Test.YtblmcdpfhdamjaaOpensPaintSeen
import Derived.Test.YtblmcdpfhdamjaaPSeenPaintSeen
import Derived.Test.YtblmcdpfhdamjaaTabPaintSeen
namespace Go.Proofs.Ytblmcdpfhdamjaa.Pure
set_option linter.unusedVariables false
set_option linter.unusedSimpArgs false
open Go.RowKit hiding wrap64
open Go.Proofs.Ytblmcdpfhdamjaa.PPaintSeen
open Go.Proofs.YtblmcdpfhdamjaaW.PrintWords hiding mx mn

theorem awake_ev : Ev (fun k => regletlaw21_awake.f k) true :=
  Ev.of (fun k => regletlaw21_awake.mono k) (k := 60) (by decide +kernel)
theorem seen_l1 {T : List S87} {R : List S89} {s : ByteArray} (hs : s.size ≤ 1000) {b2 b3 b4 b6 : Int} {b5 b7 b8 : Bool} {L : List S38} {X : ByteArray} {RL AL : List Int} (hlen : RL.length = AL.length) (hL : RL.length ≤ 100000)
    (hfin : Ev (fun k => (regletref15_Stops.f k T s R b2 b3 b4 b5 b6 b7 b8).bind fun t567 => (if X.toList = X.toList then (if (L.length : Int) = 0 then (some true) else (if 0 < (L.length : Int) then (if 0 < (t567.length : Int) then (if ((rd_T38 L 0).f0) ≥ ((rd_T46 t567 0).f1) then (some true) else (some (decide (b2 < 0)))) else (none)) else (none))) else (some false))) true) :
    ∀ (f i q : Nat) (acc : ByteArray), Rt s f i → i ≤ s.size → RL.drop q = rl_ s f (i : Int) → AL.drop q = al_ s f (i : Int) → acc.size ≤ i → acc ++ dx_ s f i = X →
    Ev (fun k => regletlaw21_PaintSeen.l1 k T X L acc RL AL (q : Int) s R b2 b3 b4 b5 b6 b7 b8) true
  | 0, i, q, acc, h, hi, hr, ha, hc, hX => by have := h.2; omega
  | f + 1, i, q, acc, h, hi, hr, ha, hc, hX => by
    by_cases c : i < s.size
    case neg =>
      have ed : dx_ s (f + 1) i = ⟨#[]⟩ := if_neg c
      rw [ed, ba_nil] at hX
      subst hX
      rw [rl_end (by omega)] at hr
      have := dropN hr
      exact Ev.step (fun k => by rw [regletlaw21_PaintSeen.l1, if_neg (by omega)]) hfin
    obtain ⟨hz, h1, h2, h3, h4⟩ := rt_step h c
    rw [rl_cons (by omega) hz] at hr
    rw [al_cons (by omega) hz] at ha
    obtain ⟨r1, r2, r3⟩ := rdI2 hr
    obtain ⟨a1, a2, a3⟩ := rdI2 ha
    rw [← h3, an] at r3 a3
    have ed : dx_ s (f + 1) i = (if dr_ (vOf s (i : Int) (rsize_ s (i : Int))) = true then s.extract i (i + (rsize_ s (i : Int)).toNat) else ⟨#[]⟩) ++ dx_ s f (i + (rsize_ s (i : Int)).toNat) := if_pos c
    rw [ed] at hX
    have ih := fun acc h5 h6 => seen_l1 (T := T) (R := R) hs (b2 := b2) (b3 := b3) (b4 := b4) (b6 := b6) (b5 := b5) (b7 := b7) (b8 := b8) hlen hL hfin f (i + (rsize_ s (i : Int)).toNat) (q + 1) acc h4 h2 r3 a3 h5 h6
    have hxs := ext_size s i (i + (rsize_ s (i : Int)).toNat) h2
    have nx : q + 1 < AL.length → rd AL ((q + 1 : Nat) : Int) = ((i + (rsize_ s (i : Int)).toNat : Nat) : Int) := fun d => by
      have hn : i + (rsize_ s (i : Int)).toNat < s.size := by
        rcases Nat.lt_or_ge (i + (rsize_ s (i : Int)).toNat) s.size with x | x
        · exact x
        · rw [al_end (by omega)] at a3
          have := dropN a3
          omega
      match f, h4, a3 with
      | 0, h4, a3 => have := h4.2; omega
      | f + 1, h4, a3 =>
        obtain ⟨z1, _, _, _, _⟩ := rt_step h4 hn
        rw [al_cons (by omega) z1] at a3
        obtain ⟨b1, b2, b3⟩ := rdI2 a3
        exact b2
    have lst : ¬ q + 1 < AL.length → i + (rsize_ s (i : Int)).toNat = s.size := fun d => by
      rcases Nat.lt_or_ge (i + (rsize_ s (i : Int)).toNat) s.size with x | x
      · match f, h4, a3 with
        | 0, h4, a3 => have := h4.2; omega
        | f + 1, h4, a3 =>
          obtain ⟨z1, _, _, _, _⟩ := rt_step h4 x
          rw [al_cons (by omega) z1] at a3
          obtain ⟨b1, b2, b3⟩ := rdI2 a3
          omega
      · omega
    generalize hi' : i + (rsize_ s (i : Int)).toNat = i' at *
    generalize hr' : vOf s (i : Int) (rsize_ s (i : Int)) = r at *
    have ihD : dr_ r = true → Ev (fun k => regletlaw21_PaintSeen.l1 k T X L (acc ++ s.extract i i') RL AL ((q + 1 : Nat) : Int) s R b2 b3 b4 b5 b6 b7 b8) true := fun hd => by
      rw [if_pos hd] at hX
      exact ih _ (by rw [ByteArray.size_append, hxs]; omega) (by rw [ByteArray.append_assoc]; exact hX)
    have ihN : ¬ dr_ r = true → Ev (fun k => regletlaw21_PaintSeen.l1 k T X L acc RL AL ((q + 1 : Nat) : Int) s R b2 b3 b4 b5 b6 b7 b8) true := fun hd => by
      rw [if_neg hd, nil_ba] at hX
      exact ih _ (by omega) hX
    have d0 : kd_ r = 0 → dr_ r = true := fun e => by unfold dr_; rw [e]; rfl
    have d6 : kd_ r = 6 → dr_ r = true := fun e => by unfold dr_; rw [e]; rfl
    have dn : ¬ kd_ r = 0 → ¬ kd_ r = 6 → ¬ dr_ r = true := fun e g => by unfold dr_; simp [e, g]
    by_cases d : q + 1 < AL.length
    · have hnx := nx d
      refine Ev.step (fun k => by rw [regletlaw21_PaintSeen.l1, if_pos (by omega), upN (by omega), if_pos (by omega), if_pos (by omega), if_pos (by omega), r2]) (Ev.bind (rkind_ev r) ?_)
      by_cases k0 : kd_ r = 0
      · exact Ev.congr (fun k => by rw [if_pos k0, if_pos (by omega), hnx, a2, if_pos (by omega), if_pos (by omega), if_pos (by omega), Int.toNat_natCast, Int.toNat_natCast, if_pos (by omega)]) (ihD (d0 k0))
      · by_cases k6 : kd_ r = 6
        · exact Ev.congr (fun k => by rw [if_neg k0, if_pos k6, if_pos (by omega), hnx, a2, if_pos (by omega), if_pos (by omega), if_pos (by omega), Int.toNat_natCast, Int.toNat_natCast, if_pos (by omega)]) (ihD (d6 k6))
        · exact Ev.congr (fun k => by rw [if_neg k0, if_neg k6]) (ihN (dn k0 k6))
    · have hnx := lst d
      subst hnx
      refine Ev.step (fun k => by rw [regletlaw21_PaintSeen.l1, if_pos (by omega), upN (by omega), if_neg (by omega), if_pos (by omega), r2]) (Ev.bind (rkind_ev r) ?_)
      by_cases k0 : kd_ r = 0
      · exact Ev.congr (fun k => by rw [if_pos k0, if_pos (by omega), a2, if_pos (by omega), if_pos (by omega), if_pos (by omega), Int.toNat_natCast, Int.toNat_natCast, if_pos (by omega)]) (ihD (d0 k0))
      · by_cases k6 : kd_ r = 6
        · exact Ev.congr (fun k => by rw [if_neg k0, if_pos k6, if_pos (by omega), a2, if_pos (by omega), if_pos (by omega), if_pos (by omega), Int.toNat_natCast, Int.toNat_natCast, if_pos (by omega)]) (ihD (d6 k6))
        · exact Ev.congr (fun k => by rw [if_neg k0, if_neg k6]) (ihN (dn k0 k6))
theorem seen_l0 {T : List S87} {R : List S89} {s : ByteArray} {b2 b3 b4 Y : Int} {b5 b7 b8 : Bool} {P : Int → Prop} {L : List S38} (hL : L.length ≤ 100000) {X : ByteArray} (hX : X.size ≤ 100000)
    (hfin : Ev (fun k => (regletref02_Runes.f k s).bind fun bt560 => (regletlaw21_PaintSeen.l1 k T X L (⟨#[]⟩ : ByteArray) bt560.1 bt560.2.1 0 s R b2 b3 b4 b5 Y b7 b8)) true) :
    ∀ (t : List S38) (i : Nat) (acc : ByteArray), L.drop i = t → (∀ m ∈ t, Mk P Y m) → acc ++ cat_ t = X →
    Ev (fun k => regletlaw21_PaintSeen.l0 k T acc L (i : Int) s R b2 b3 b4 b5 Y b7 b8) true
  | [], i, acc, h, hm, hx => by
    have := dropN h
    have e : acc ++ (⟨#[]⟩ : ByteArray) = X := hx
    rw [ba_nil] at e
    subst e
    exact Ev.step (fun k => by rw [regletlaw21_PaintSeen.l0, if_neg (by omega)]) hfin
  | m :: t, i, acc, h, hm, hx => by
    obtain ⟨g1, g2, g3⟩ := d38 h
    obtain ⟨m1, m2, m3⟩ := hm m List.mem_cons_self
    have e : acc ++ (m.f3 ++ cat_ t) = X := hx
    have hsz : acc.size + m.f3.size ≤ 100000 := by
      have := congrArg ByteArray.size e
      rw [ByteArray.size_append, ByteArray.size_append] at this
      omega
    have hne : ¬ (m.f3).toList = ([] : List UInt8) := fun e => by
      rw [toList_of] at e
      have : m.f3.size = 0 := by show m.f3.data.size = 0; rw [← Array.length_toList, e]; rfl
      omega
    have ih := seen_l0 (T := T) (R := R) (b2 := b2) (b3 := b3) (b4 := b4) (Y := Y) (b5 := b5) (b7 := b7) (b8 := b8) (P := P) hL hX hfin t (i + 1) (acc ++ m.f3) g3 (fun x hx => hm x (List.mem_cons_of_mem _ hx)) (by rw [ByteArray.append_assoc]; exact e)
    exact Ev.step (fun k => by rw [regletlaw21_PaintSeen.l0, if_pos (by omega), if_pos (by omega), g2, if_neg hne, if_pos m1, if_pos (by omega), upN (by omega)]) ih
theorem seen_j1 {T : List S87} (hT : ∀ x ∈ T, RightS x) {x : S25} (hg : GoodL x) : 
    Ev (fun k => regletlaw21_PaintSeen.j1 k T (⟨#[]⟩ : ByteArray) (drw_ x.f1 x.f6 x.f0 (rl_ x.f0 (x.f0.size + 1) 0) (sts_ T x.f1 (spw_ T x.f2 x.f3) x.f0) [] none) x.f0 x.f1 x.f2 x.f3 x.f4 x.f5 x.f6 x.f7 x.f8) true := by
  have hR : x.f1.length ≤ 1000 := by have := hg.2.1; omega
  have hs : x.f0.size ≤ 1000 := by have := hg.1; omega
  have hrt := rt_all hg.2.2.1
  have hP : ∀ y ∈ sts_ T x.f1 (spw_ T x.f2 x.f3) x.f0, x.f2 < 0 ∨ 0 ≤ y.f1 := fun y hy => by
    by_cases c : x.f2 < 0
    · exact Or.inl c
    · exact Or.inr (stl_pos hT (fun i => spw_pos hT c i) _ _ _ (Int.le_refl 0) y hy)
  obtain ⟨h1, h2⟩ := drw_seen (T := T) (R := x.f1) (sp := spw_ T x.f2 x.f3) (en := shn_ x.f0) (Y := x.f6) (s := x.f0) (P := fun v => x.f2 < 0 ∨ 0 ≤ v) (x.f0.size + 1) 0 0 [] none hrt (Nat.zero_le _) hP (by intro m hm; simp [lst_] at hm)
  have hlen := drw_len x.f1 x.f6 x.f0 (rl_ x.f0 (x.f0.size + 1) 0) (sts_ T x.f1 (spw_ T x.f2 x.f3) x.f0) [] none
  have hrl := rl_short x.f0 (x.f0.size + 1) 0
  have hra := rl_al x.f0 (x.f0.size + 1) 0
  have hst := rstops_ev hT hR hs hg.2.2.1 (b2 := x.f2) (b3 := x.f3) (b4 := x.f4) (b5 := x.f5) (b6 := x.f6) (b7 := x.f7) (b8 := x.f8)
  obtain ⟨st, e2⟩ := stl_head (T := T) (R := x.f1) (sp := spw_ T x.f2 x.f3) (en := shn_ x.f0) (x := 0) hrt (Nat.zero_le _)
  have e3 : sts_ T x.f1 (spw_ T x.f2 x.f3) x.f0 = (⟨((0 : Nat) : Int), 0⟩ : S99) :: st := e2
  have hdx := dx_size (x.f0.size + 1) 0 hrt (Nat.zero_le _)
  have h1' : ∀ m ∈ drw_ x.f1 x.f6 x.f0 (rl_ x.f0 (x.f0.size + 1) 0) (sts_ T x.f1 (spw_ T x.f2 x.f3) x.f0) [] none, Mk (fun v => x.f2 < 0 ∨ 0 ≤ v) x.f6 m := h1
  have h2' : cat_ (drw_ x.f1 x.f6 x.f0 (rl_ x.f0 (x.f0.size + 1) 0) (sts_ T x.f1 (spw_ T x.f2 x.f3) x.f0) [] none) = dx_ x.f0 (x.f0.size + 1) 0 := by
    have := h2
    rw [show cat_ (([] : List S38) ++ lst_ none) = ⟨#[]⟩ from rfl, nil_ba] at this
    exact this
  generalize drw_ x.f1 x.f6 x.f0 (rl_ x.f0 (x.f0.size + 1) 0) (sts_ T x.f1 (spw_ T x.f2 x.f3) x.f0) [] none = L at *
  clear h1 h2
  refine Ev.step (fun k => by rw [regletlaw21_PaintSeen.j1]) ?_
  refine seen_l0 (T := T) (R := x.f1) (P := fun v => x.f2 < 0 ∨ 0 ≤ v) (by simp [lst_] at hlen; omega) (X := dx_ x.f0 (x.f0.size + 1) 0) (by omega) ?_ L 0 ⟨#[]⟩ rfl h1' (by rw [nil_ba]; exact h2')
  refine Ev.bind (runes_ev (by omega)) ?_
  refine seen_l1 hs (by exact hra) (by show (rl_ x.f0 (x.f0.size + 1) 0).length ≤ 100000; omega) ?_ (x.f0.size + 1) 0 0 ⟨#[]⟩ hrt (Nat.zero_le _) rfl rfl (Nat.le_refl _) (nil_ba _)
  refine Ev.bind hst ?_
  rw [e3]
  refine Ev.congr (fun k => by rw [if_pos rfl]) ?_
  cases L with
  | nil => exact Ev.congr (fun k => if_pos (by simp)) (Ev.now true)
  | cons m t =>
    have hm := (h1' m List.mem_cons_self).2.2
    refine Ev.congr (fun k => by rw [if_neg (by rw [List.length_cons]; omega), if_pos (by rw [List.length_cons]; omega), if_pos (by rw [List.map_cons, List.length_cons]; omega), show rd_T38 (m :: t) 0 = m from rfl, show (rd_T46 (List.map t44 ((⟨((0 : Nat) : Int), 0⟩ : S99) :: st)) 0).f1 = 0 from rfl]) ?_
    by_cases c : m.f0 ≥ 0
    · exact Ev.congr (fun k => by rw [if_pos c]) (Ev.now true)
    · rcases hm with hm | hm
      · exact Ev.congr (fun k => by rw [if_neg c, decide_eq_true hm]) (Ev.now true)
      · exact absurd hm c
theorem PaintSeen : regletlaw21_PaintSeen.PureX := by
  intro t x ht hx
  apply Ev.rounds
  unfold regletlaw21_PaintSeen.f
  refine Ev.bind awake_ev ?_
  refine Ev.congr (fun k => by rw [if_pos rfl]) ?_
  obtain ⟨T, hT1, hT2⟩ := table_ev t
  refine Ev.bind hT1 ?_
  have stop : ∀ U, Ev (fun k => regletlaw21_PaintSeen.j0 k t U true x.f0 x.f1 x.f2 x.f3 x.f4 x.f5 x.f6 x.f7 x.f8) true := fun U => Ev.step (fun k => by rw [regletlaw21_PaintSeen.j0, if_pos rfl]) (Ev.now true)
  rcases hT2 with e | ⟨e, hr⟩
  · subst e
    exact Ev.congr (fun k => by rw [if_pos (by rfl)]) (stop _)
  subst e
  obtain ⟨b, hb, hb2⟩ := line_ev x
  refine Ev.congr (fun k => by rw [if_neg (by simp)]) (Ev.bind hb ?_)
  cases b with
  | false => exact stop _
  | true =>
    have hg := hb2 rfl
    obtain ⟨X, _, h1⟩ := pline_ev hr hg
    have hj := seen_j1 hr hg
    have hlen := drw_len x.f1 x.f6 x.f0 (rl_ x.f0 (x.f0.size + 1) 0) (sts_ t x.f1 (spw_ t x.f2 x.f3) x.f0) [] none
    have hrl := rl_short x.f0 (x.f0.size + 1) 0
    have hs : x.f0.size ≤ 1000 := by have := hg.1; omega
    refine Ev.step (g := fun k => regletlaw21_PaintSeen.j0 k t [⟨t⟩] (!true) x.f0 x.f1 x.f2 x.f3 x.f4 x.f5 x.f6 x.f7 x.f8) (fun k => by rw [regletlaw21_PaintSeen.j0, if_neg (by decide)]) ?_
    refine Ev.bind h1 ?_
    generalize drw_ x.f1 x.f6 x.f0 (rl_ x.f0 (x.f0.size + 1) 0) (sts_ t x.f1 (spw_ t x.f2 x.f3) x.f0) [] none = L at *
    have hl : L.length ≤ 1001 := by simp [lst_] at hlen; omega
    cases hb5 : x.f5 with
    | false =>
      rw [hb5] at hj
      exact Ev.congr (fun k => by rw [if_neg (by simp)]; rfl) hj
    | true =>
      rw [hb5] at hj
      have hh : hyp_ t x.f1 x.f6 true X L = L ++ [(⟨X, x.f6, (stg_ t (ls_ x.f1 0)).f4, (⟨#[45]⟩ : ByteArray), ls_ x.f1 0⟩ : S38)] := rfl
      have hw : wrap64 (((L ++ [(⟨X, x.f6, (stg_ t (ls_ x.f1 0)).f4, (⟨#[45]⟩ : ByteArray), ls_ x.f1 0⟩ : S38)]).length : Int) - 1) = (L.length : Int) := by
        rw [List.length_append, List.length_singleton, v64 (by omega) (by omega)]; omega
      refine Ev.congr (fun k => by rw [if_pos rfl, hh, if_neg (by rw [List.length_append, List.length_singleton]; omega), hw, if_pos (by omega), if_pos (by rw [List.length_append, List.length_singleton]; omega), l38, if_pos (by rw [toList_of]), if_pos (by rw [List.length_append, List.length_singleton]; omega), Int.toNat_natCast, List.take_left]) hj
end Go.Proofs.Ytblmcdpfhdamjaa.Pure
