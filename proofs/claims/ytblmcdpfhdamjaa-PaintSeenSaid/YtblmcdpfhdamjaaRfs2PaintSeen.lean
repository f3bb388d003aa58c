import Derived.Test.YtblmcdpfhdamjaaRfsPaintSeen
/-! Our own text: the reference's places of a right line are the program's. -/
namespace Go.Proofs.Ytblmcdpfhdamjaa.PPaintSeen
set_option linter.unusedVariables false
open Go.RowKit Go.Proofs.YtblmcdpfhdamjaaW.PrintWords

theorem rseen_ev (r : Int) : Ev (fun k => regletref15_Seen.f k r) (sn_ r) := by
  unfold regletref15_Seen.f sn_
  refine Ev.bind (rkind_ev r) ?_
  by_cases c0 : kd_ r = 0
  · exact Ev.congr (fun k => by rw [if_pos c0, c0]; rfl) (Ev.now _)
  by_cases c2 : kd_ r = 2
  · exact Ev.congr (fun k => by rw [if_neg c0, if_pos c2, c2]; rfl) (Ev.now _)
  · refine Ev.congr (fun k => ?_) (Ev.now _)
    have e0 : (kd_ r == 0) = false := beq_eq_false_iff_ne.2 c0
    have e2 : (kd_ r == 2) = false := beq_eq_false_iff_ne.2 c2
    rw [if_neg c0, if_neg c2, e0, e2]
    rfl
theorem al_cons {s : ByteArray} {q : Nat} {i : Int} (hi : i < s.size) (hz : ¬ rsize_ s i = 0) : al_ s (q + 1) i = i :: al_ s q (i + rsize_ s i) := by
  show (if i < (s.size : Int) then (if rsize_ s i = 0 then [] else i :: al_ s q (i + rsize_ s i)) else []) = _
  rw [if_pos hi, if_neg hz]
theorem al_end {s : ByteArray} {q : Nat} {i : Int} (hi : ¬ i < s.size) : al_ s q i = [] := by
  cases q with
  | zero => rfl
  | succ q =>
    show (if i < (s.size : Int) then (if rsize_ s i = 0 then [] else i :: al_ s q (i + rsize_ s i)) else []) = _
    rw [if_neg hi]
theorem rdI2 {l t : List Int} {i : Nat} {n : Int} (h : l.drop i = n :: t) : i < l.length ∧ rd l (i : Int) = n ∧ l.drop (i + 1) = t := by
  have := dropI (0 : Int) h
  unfold rd; rw [Int.toNat_natCast]; exact this
theorem rend_l0 {s : ByteArray} (hs : s.size ≤ 1000) {RL AL : List Int} (hlen : RL.length = AL.length) (hL : RL.length ≤ 100000) : ∀ (f i q : Nat) (n : Int), Rt s f i → i ≤ s.size → RL.drop q = rl_ s f (i : Int) → AL.drop q = al_ s f (i : Int) →
    Ev (fun k => regletref15_End.l0 k s RL AL n (q : Int)) (sh_ s f i n)
  | 0, i, q, n, h, hi, hr, ha => by have := h.2; omega
  | f + 1, i, q, n, h, hi, hr, ha => by
    by_cases c : i < s.size
    case neg =>
      have e : sh_ s (f + 1) i n = n := if_neg c
      rw [rl_end (by omega)] at hr
      have := dropN hr
      rw [e]
      exact Ev.step (fun k => by rw [regletref15_End.l0, if_neg (by omega)]) (Ev.now _)
    obtain ⟨hz, h1, h2, h3, h4⟩ := rt_step h c
    rw [rl_cons (by omega) hz] at hr
    rw [al_cons (by omega) hz] at ha
    obtain ⟨r1, r2, r3⟩ := rdI2 hr
    obtain ⟨a1, a2, a3⟩ := rdI2 ha
    rw [← h3, an] at r3 a3
    have e : sh_ s (f + 1) i n = sh_ s f (i + (rsize_ s (i : Int)).toNat) (if sn_ (vOf s (i : Int) (rsize_ s (i : Int))) = true then ((i + (rsize_ s (i : Int)).toNat : Nat) : Int) else n) := if_pos c
    have ih := fun n => rend_l0 hs hlen hL f (i + (rsize_ s (i : Int)).toNat) (q + 1) n h4 h2 r3 a3
    rw [e]
    refine Ev.step (fun k => by rw [regletref15_End.l0, if_pos (by omega), if_pos (by omega), r2]) (Ev.bind (rseen_ev _) ?_)
    by_cases g : sn_ (vOf s (i : Int) (rsize_ s (i : Int))) = true
    · rw [if_pos g]
      by_cases d : q + 1 < AL.length
      · have hn : i + (rsize_ s (i : Int)).toNat < s.size := by
          rcases Nat.lt_or_ge (i + (rsize_ s (i : Int)).toNat) s.size with x | x
          · exact x
          · rw [al_end (by omega)] at a3
            have := dropN a3
            omega
        match f, h4, a3 with
        | 0, h4, a3 => have := h4.2; omega
        | f + 1, h4, a3 =>
          obtain ⟨z1, _, _, _, _⟩ := rt_step h4 hn
          rw [al_cons (by omega) z1] at a3
          obtain ⟨b1, b2, b3⟩ := rdI2 a3
          refine Ev.congr (fun k => ?_) (ih _)
          rw [if_pos g, vup (by omega), if_pos (by omega), if_pos (by omega), b2]
      · have hn : i + (rsize_ s (i : Int)).toNat = s.size := by
          rcases Nat.lt_or_ge (i + (rsize_ s (i : Int)).toNat) s.size with x | x
          · match f, h4, a3 with
            | 0, h4, a3 => have := h4.2; omega
            | f + 1, h4, a3 =>
              obtain ⟨z1, _, _, _, _⟩ := rt_step h4 x
              rw [al_cons (by omega) z1] at a3
              obtain ⟨b1, b2, b3⟩ := rdI2 a3
              omega
          · omega
        refine Ev.congr (fun k => ?_) (ih _)
        rw [if_pos g, vup (by omega), if_neg (by omega), hn]
    · rw [if_neg g]
      refine Ev.congr (fun k => ?_) (ih _)
      rw [if_neg g, vup (by omega)]
theorem rl_al (s : ByteArray) : ∀ (f : Nat) (i : Int), (rl_ s f i).length = (al_ s f i).length
  | 0, _ => rfl
  | f + 1, i => by
    show (if i < (s.size : Int) then (if rsize_ s i = 0 then [] else vOf s i (rsize_ s i) :: rl_ s f (i + rsize_ s i)) else []).length = (if i < (s.size : Int) then (if rsize_ s i = 0 then [] else i :: al_ s f (i + rsize_ s i)) else []).length
    split
    · split
      · rfl
      · rw [List.length_cons, List.length_cons, rl_al s f]
    · rfl
theorem rl_short (s : ByteArray) : ∀ (f : Nat) (i : Int), (rl_ s f i).length ≤ f
  | 0, _ => Nat.le_refl _
  | f + 1, i => by
    show (if i < (s.size : Int) then (if rsize_ s i = 0 then [] else vOf s i (rsize_ s i) :: rl_ s f (i + rsize_ s i)) else []).length ≤ f + 1
    split
    · split
      · exact Nat.zero_le _
      · rw [List.length_cons]; exact Nat.succ_le_succ (rl_short s f _)
    · exact Nat.zero_le _
theorem rend_ev {s : ByteArray} (hs : s.size ≤ 1000) (hr : right_ s = true) : Ev (fun k => regletref15_End.f k s) (shn_ s) := by
  unfold regletref15_End.f
  refine Ev.bind (runes_ev (by omega)) ?_
  have := rl_short s (s.size + 1) 0
  exact rend_l0 hs (rl_al s _ _) (by omega) (s.size + 1) 0 0 0 (rt_all hr) (Nat.zero_le _) rfl rfl
def t44 (y : S99) : S46 := ⟨y.f0, y.f1⟩
theorem rstops_l0 {T : List S87} (hT : ∀ x ∈ T, RightS x) {R : List S89} (hR : R.length ≤ 1000) {s : ByteArray} (hs : s.size ≤ 1000) {RL AL : List Int} (hlen : RL.length = AL.length) (hL : RL.length ≤ 100000) {en b2 b3 b4 b6 : Int} {b5 b7 b8 : Bool} : ∀ (f i q : Nat) (x : Int) (acc : List S46), Rt s f i → i ≤ s.size → RL.drop q = rl_ s f (i : Int) → AL.drop q = al_ s f (i : Int) → acc.length ≤ i →
    Ev (fun k => regletref15_Stops.l0 k T RL AL acc x en (q : Int) s R b2 b3 b4 b5 b6 b7 b8) (acc ++ (stl_ T R (spw_ T b2 b3) en s f i x).map t44)
  | 0, i, q, x, acc, h, hi, hr, ha, hac => by have := h.2; omega
  | f + 1, i, q, x, acc, h, hi, hr, ha, hac => by
    by_cases c : i < s.size
    case neg =>
      have e : stl_ T R (spw_ T b2 b3) en s (f + 1) i x = [⟨(s.size : Int), x⟩] := if_neg c
      rw [rl_end (by omega)] at hr
      have := dropN hr
      rw [e]
      exact Ev.step (fun k => by rw [regletref15_Stops.l0, if_neg (by omega), if_pos (by omega)]; rfl) (Ev.now _)
    obtain ⟨hz, h1, h2, h3, h4⟩ := rt_step h c
    rw [rl_cons (by omega) hz] at hr
    rw [al_cons (by omega) hz] at ha
    obtain ⟨r1, r2, r3⟩ := rdI2 hr
    obtain ⟨a1, a2, a3⟩ := rdI2 ha
    rw [← h3, an] at r3 a3
    have hs2 := stg_right hT (sa_ R (i : Int))
    have e : stl_ T R (spw_ T b2 b3) en s (f + 1) i x = (⟨(i : Int), x⟩ : S99) :: stl_ T R (spw_ T b2 b3) en s f (i + (rsize_ s (i : Int)).toNat) (if kd_ (vOf s (i : Int) (rsize_ s (i : Int))) = 1 then (if (i : Int) < en then ad_ x (spw_ T b2 b3 (sa_ R (i : Int))) else x) else ad_ x (wd_ T (sa_ R (i : Int)) (vOf s (i : Int) (rsize_ s (i : Int))))) := if_pos c
    have ih : ∀ y, Ev (fun k => regletref15_Stops.l0 k T RL AL (acc ++ [⟨(i : Int), x⟩]) y en ((q + 1 : Nat) : Int) s R b2 b3 b4 b5 b6 b7 b8) (acc ++ ((⟨(i : Int), x⟩ : S99) :: stl_ T R (spw_ T b2 b3) en s f (i + (rsize_ s (i : Int)).toNat) y).map t44) := fun y => by
      have := rstops_l0 hT hR hs hlen hL (en := en) (b2 := b2) (b3 := b3) (b4 := b4) (b6 := b6) (b5 := b5) (b7 := b7) (b8 := b8) f (i + (rsize_ s (i : Int)).toNat) (q + 1) y (acc ++ [⟨(i : Int), x⟩]) h4 h2 r3 a3 (by rw [List.length_append, List.length_singleton]; omega)
      rw [List.append_assoc] at this
      exact this
    rw [e]
    refine Ev.step (fun k => by rw [regletref15_Stops.l0, if_pos (by omega), if_pos (by omega), if_pos (by omega), if_pos (by omega), a2, r2, Option.bind_some]) ?_
    refine Ev.bind (rs_ev hR (by omega) (by omega)) ?_
    simp only [rof_f, Option.bind_some]
    refine Ev.bind (rkind_ev _) ?_
    generalize vOf s (i : Int) (rsize_ s (i : Int)) = r at *
    have wq : wrap64 ((q : Int) + 1) = ((q + 1 : Nat) : Int) := vup (by omega)
    by_cases c1 : kd_ r = 1
    · rw [if_pos c1]
      by_cases c2 : (i : Int) < en
      · rw [if_pos c2]
        have ih2 := ih (ad_ x (spw_ T b2 b3 (sa_ R (i : Int))))
        unfold spw_ at ih2 ⊢
        have hsc := fun (p : Int) (h0 : 0 ≤ p) (h1 : p ≤ 1048576) => rscale_ev (part := p) (num := b2) (den := b3) h0 h1
        by_cases d : b2 > 0
        · rw [if_pos d] at ih2 ⊢
          refine Ev.congr (fun k => by rw [if_pos c1, if_neg (by omega), if_pos d]; rfl) (Ev.bind (hsc _ hs2.st.1 hs2.st.2) ?_)
          refine Ev.step (fun k => ?_) ih2
          rw [regletref15_Stops.j1, if_neg (by omega), radd_f, Option.bind_some, wq]
          rfl
        · rw [if_neg d] at ih2 ⊢
          refine Ev.congr (fun k => by rw [if_pos c1, if_neg (by omega), if_neg d]) ?_
          by_cases d2 : b2 < 0
          · rw [if_pos d2] at ih2 ⊢
            refine Ev.step (fun k => by rw [regletref15_Stops.j1, if_pos d2]; rfl) (Ev.bind (hsc _ hs2.sh.1 hs2.sh.2) ?_)
            refine Ev.congr (fun k => ?_) ih2
            rw [radd_f, Option.bind_some, wq]
            rfl
          · rw [if_neg d2] at ih2 ⊢
            refine Ev.step (fun k => ?_) ih2
            rw [regletref15_Stops.j1, if_neg d2, radd_f, Option.bind_some, wq]
            rfl
      · rw [if_neg c2]
        refine Ev.congr (fun k => ?_) (ih _)
        rw [if_pos c1, if_pos (by omega), wq]
    · rw [if_neg c1]
      refine Ev.congr (fun k => by rw [if_neg c1]) (Ev.bind (rwidth_ev hT _ _) ?_)
      refine Ev.congr (fun k => ?_) (ih _)
      rw [radd_f, Option.bind_some, wq]
theorem rstops_ev {T : List S87} (hT : ∀ x ∈ T, RightS x) {R : List S89} (hR : R.length ≤ 1000) {s : ByteArray} (hs : s.size ≤ 1000) (hr : right_ s = true) {b2 b3 b4 b6 : Int} {b5 b7 b8 : Bool} : Ev (fun k => regletref15_Stops.f k T s R b2 b3 b4 b5 b6 b7 b8) ((sts_ T R (spw_ T b2 b3) s).map t44) := by
  unfold regletref15_Stops.f
  refine Ev.bind (runes_ev (by omega)) (Ev.bind (rend_ev hs hr) ?_)
  have := rl_short s (s.size + 1) 0
  exact rstops_l0 hT hR hs (rl_al s _ _) (by omega) (s.size + 1) 0 0 0 [] (rt_all hr) (Nat.zero_le _) rfl rfl (Nat.zero_le _)
end Go.Proofs.Ytblmcdpfhdamjaa.PPaintSeen
