import Derived.Test.YtblmcdpfhdamjaaStyPaintSeen
import Derived.Test.YtblmcdpfhdamjaaFewLPaintSeen
/-! Our own text: where the runes of a right line stand, as the program reckons it. -/
namespace Go.Proofs.Ytblmcdpfhdamjaa.PPaintSeen
set_option linter.unusedVariables false
open Go.RowKit Go.Proofs.YtblmcdpfhdamjaaW.PrintWords

theorem bt_ext {s : ByteArray} {i : Nat} (hi : i ≤ s.size) (j : Nat) : bt (s.extract i s.size) (j : Int) = bt s ((i : Int) + (j : Int)) := by
  have hz : (s.extract i s.size).size = s.size - i := by rw [ByteArray.size_extract]; omega
  unfold bt
  by_cases h : j < s.size - i
  · rw [dif_pos (show ((j : Int)).toNat < (s.extract i s.size).size by omega), dif_pos (show ((i : Int) + (j : Int)).toNat < s.size by omega)]
    have e : ((i : Int) + (j : Int)).toNat = i + j := by omega
    have e2 : ((j : Int)).toNat = j := by omega
    simp only [e, e2, ByteArray.getElem_extract]
  · rw [dif_neg (by omega), dif_neg (by omega)]
theorem rsize_ext {s : ByteArray} {i : Nat} (hi : i < s.size) : rsize_ (s.extract i s.size) 0 = rsize_ s (i : Int) := by
  have hz : (s.extract i s.size).size = s.size - i := by rw [ByteArray.size_extract]; omega
  have b0 := bt_ext (s := s) (i := i) (by omega) 0
  have b1 := bt_ext (s := s) (i := i) (by omega) 1
  have b2 := bt_ext (s := s) (i := i) (by omega) 2
  have b3 := bt_ext (s := s) (i := i) (by omega) 3
  simp only [Int.natCast_zero, Int.add_zero] at b0
  have f1 : ((1 : Nat) : Int) = 0 + 1 := rfl
  have f2 : ((2 : Nat) : Int) = 0 + 2 := rfl
  have f3 : ((3 : Nat) : Int) = 0 + 3 := rfl
  rw [rsize_is _ 0 (by omega) (by omega), rsize_is s (i : Int) (by omega) (by omega)]
  have i2 : is2_ (s.extract i s.size) 0 = is2_ s (i : Int) := by
    unfold is2_; rw [← f1, b0, b1]; rfl
  have i3 : is3_ (s.extract i s.size) 0 = is3_ s (i : Int) := by
    unfold is3_; rw [← f1, ← f2, b0, b1, b2]; rfl
  have i4 : is4_ (s.extract i s.size) 0 = is4_ s (i : Int) := by
    unfold is4_; rw [← f1, ← f2, ← f3, b0, b1, b2, b3]; rfl
  have z2 : ((0 : Int) + 2 ≤ ((s.extract i s.size).size : Int)) = ((i : Int) + 2 ≤ (s.size : Int)) := by rw [hz]; exact propext ⟨fun h => by omega, fun h => by omega⟩
  have z3 : ((0 : Int) + 3 ≤ ((s.extract i s.size).size : Int)) = ((i : Int) + 3 ≤ (s.size : Int)) := by rw [hz]; exact propext ⟨fun h => by omega, fun h => by omega⟩
  have z4 : ((0 : Int) + 4 ≤ ((s.extract i s.size).size : Int)) = ((i : Int) + 4 ≤ (s.size : Int)) := by rw [hz]; exact propext ⟨fun h => by omega, fun h => by omega⟩
  rw [i2, i3, i4, b0]
  simp only [z2, z3, z4]
theorem it_eq {s : ByteArray} {i : Nat} (hi : i < s.size) (hz : ¬ rsize_ s (i : Int) = 0) : itP_ (i : Int) = (i : Int) ∧ itR_ s (i : Int) = vOf s (i : Int) (rsize_ s (i : Int)) ∧ itN_ s (i : Int) = ((i + (rsize_ s (i : Int)).toNat : Nat) : Int) := by
  have h := decode_eq hi hz
  have hv := vOf_range s (i : Int) (rsize_ s (i : Int))
  unfold itP_ itR_ itN_
  rw [Int.toNat_natCast, h]
  exact ⟨rfl, by simp only; omega, rfl⟩
/-- From a place on a text is right. -/
def Rt (s : ByteArray) (f i : Nat) : Prop := bd_ s f (i : Int) < 0 ∧ s.size < f + i
theorem rt_step {s : ByteArray} {f i : Nat} (h : Rt s (f + 1) i) (hi : i < s.size) : ¬ rsize_ s (i : Int) = 0 ∧ 1 ≤ (rsize_ s (i : Int)).toNat ∧ i + (rsize_ s (i : Int)).toNat ≤ s.size ∧ (((rsize_ s (i : Int)).toNat : Nat) : Int) = rsize_ s (i : Int) ∧ Rt s f (i + (rsize_ s (i : Int)).toNat) := by
  obtain ⟨a, b⟩ := bd_step h.1 (by omega) (by omega)
  have hr := rsize_rng s (i : Int)
  have h2 := h.2
  have e : (((rsize_ s (i : Int)).toNat : Nat) : Int) = rsize_ s (i : Int) := by omega
  refine ⟨a, by omega, by omega, e, ?_, by omega⟩
  rw [show ((i + (rsize_ s (i : Int)).toNat : Nat) : Int) = (i : Int) + rsize_ s (i : Int) by omega]
  exact b
theorem rt_all {s : ByteArray} (h : right_ s = true) : Rt s (s.size + 1) 0 := by
  unfold right_ at h
  exact ⟨of_decide_eq_true h, by omega⟩
def sn_ (r : Int) : Bool := kd_ r == 0 || (kd_ r == 2 || kd_ r == 6)
def sh_ (s : ByteArray) : Nat → Nat → Int → Int
  | 0, _, n => n
  | f + 1, i, n => if i < s.size then sh_ s f (i + (rsize_ s (i : Int)).toNat) (if sn_ (vOf s (i : Int) (rsize_ s (i : Int))) = true then ((i + (rsize_ s (i : Int)).toNat : Nat) : Int) else n) else n
theorem first_ev {s : ByteArray} {i : Nat} (hs : s.size ≤ 1000000) (hi : i < s.size) (hz : ¬ rsize_ s (i : Int) = 0) : ∃ v, Ev (fun k => runes_First.f k (s.extract i s.size)) (v, rsize_ s (i : Int)) := by
  have hsz : (s.extract i s.size).size = s.size - i := by rw [ByteArray.size_extract]; omega
  have hr := rsize_rng s (i : Int)
  have e := rsize_ext hi
  unfold runes_First.f runes_size.f
  refine ⟨itR_ ((s.extract i s.size).extract 0 (rsize_ s (i : Int)).toNat) 0, ?_⟩
  refine Ev.congr (fun k => by rw [if_pos (by omega), e, Option.bind_some, if_pos (by omega), if_pos (by omega)]) ?_
  refine Ev.step (fun k => ?_) (Ev.now _)
  have hz2 : ((s.extract i s.size).extract 0 (rsize_ s (i : Int)).toNat).size = (rsize_ s (i : Int)).toNat := by rw [ByteArray.size_extract]; omega
  rw [runes_First.l0, if_pos (by rw [hz2]; show 0 < _; omega)]
theorem shown_l0 {s : ByteArray} (hs : s.size ≤ 1000000) : ∀ (f i : Nat) (n : Int), Rt s f i → i ≤ s.size →
    Ev (fun k => locate_shown.l0 k s n s (i : Int)) (sh_ s f i n)
  | 0, i, n, h, hi => by have := h.2; omega
  | f + 1, i, n, h, hi => by
    by_cases c : i < s.size
    case neg =>
      have e : sh_ s (f + 1) i n = n := if_neg c
      rw [e]
      exact Ev.step (fun k => by rw [locate_shown.l0, if_neg (by rw [Int.toNat_natCast]; exact c)]) (Ev.now _)
    obtain ⟨hz, h1, h2, h3, h4⟩ := rt_step h c
    obtain ⟨t1, t2, t3⟩ := it_eq c hz
    obtain ⟨v, hv⟩ := first_ev hs c hz
    have e : sh_ s (f + 1) i n = sh_ s f (i + (rsize_ s (i : Int)).toNat) (if sn_ (vOf s (i : Int) (rsize_ s (i : Int))) = true then ((i + (rsize_ s (i : Int)).toNat : Nat) : Int) else n) := if_pos c
    have ih := fun n => shown_l0 hs f (i + (rsize_ s (i : Int)).toNat) n h4 h2
    rw [e]
    refine Ev.step (fun k => by rw [locate_shown.l0, if_pos (by rw [Int.toNat_natCast]; exact c), t1, t2, t3]) ?_
    refine Ev.bind (kind_ev _) ?_
    generalize hr : vOf s (i : Int) (rsize_ s (i : Int)) = r at *
    have yes : sn_ r = true → Ev (fun k => if 0 ≤ (i : Int) then (if (i : Int) ≤ (s.size : Int) then ((runes_First.f k (s.extract ((i : Int)).toNat s.size)).bind fun bt151 => (locate_shown.l0 k s (wrap64 ((i : Int) + bt151.2)) s ((i + (rsize_ s (i : Int)).toNat : Nat) : Int))) else none) else none) (sh_ s f (i + (rsize_ s (i : Int)).toNat) (if sn_ r = true then ((i + (rsize_ s (i : Int)).toNat : Nat) : Int) else n)) := by
      intro hy
      rw [if_pos hy]
      refine Ev.congr (fun k => by rw [if_pos (Int.natCast_nonneg i), if_pos (Int.ofNat_le.2 hi), Int.toNat_natCast]) (Ev.bind hv ?_)
      refine Ev.congr (fun k => ?_) (ih _)
      rw [v64 (by omega) (by omega), ← h3]
      congr 1
    by_cases c0 : kd_ r = 0
    · exact Ev.congr (fun k => by rw [if_pos c0]) (yes (by unfold sn_; rw [c0]; rfl))
    by_cases c2 : kd_ r = 2
    · exact Ev.congr (fun k => by rw [if_neg c0, if_pos c2]) (yes (by unfold sn_; rw [c2]; rfl))
    by_cases c6 : kd_ r = 6
    · exact Ev.congr (fun k => by rw [if_neg c0, if_neg c2, if_pos c6]) (yes (by unfold sn_; rw [c6]; rfl))
    have hn : ¬ sn_ r = true := by
      unfold sn_
      simp [c0, c2, c6]
    rw [if_neg hn]
    exact Ev.congr (fun k => by rw [if_neg c0, if_neg c2, if_neg c6]) (ih n)
def shn_ (s : ByteArray) : Int := sh_ s (s.size + 1) 0 0
theorem shown_ev {s : ByteArray} (hs : s.size ≤ 1000000) (hr : right_ s = true) : Ev (fun k => locate_shown.f k s) (shn_ s) :=
  shown_l0 hs (s.size + 1) 0 0 (rt_all hr) (Nat.zero_le _)
/-- The places between runes, from a place on; sp: how wide a space of a style is. -/
def stl_ (T : List S87) (R : List S89) (sp : Int → Int) (en : Int) (s : ByteArray) : Nat → Nat → Int → List S99
  | 0, i, x => [⟨(s.size : Int), x⟩]
  | f + 1, i, x => if i < s.size then (⟨(i : Int), x⟩ : S99) :: stl_ T R sp en s f (i + (rsize_ s (i : Int)).toNat) (if kd_ (vOf s (i : Int) (rsize_ s (i : Int))) = 1 then (if (i : Int) < en then ad_ x (sp (sa_ R (i : Int))) else x) else ad_ x (wd_ T (sa_ R (i : Int)) (vOf s (i : Int) (rsize_ s (i : Int))))) else [⟨(s.size : Int), x⟩]
theorem stops_l0 {T : List S87} (hT : ∀ x ∈ T, RightS x) {R : List S89} (hR : R.length ≤ 1000) {s : ByteArray} (hs : s.size ≤ 1000) {en : Int} {sp : Int → Int} {b2 b3 b4 b6 : Int} {b5 b7 b8 : Bool}
    (hsp : ∀ i, Ev (fun k => locate_space.f k [⟨T⟩] s R b2 b3 b4 b5 b6 b7 b8 i) (sp i)) : ∀ (f i : Nat) (x : Int) (acc : List S99), Rt s f i → i ≤ s.size → acc.length ≤ i →
    Ev (fun k => locate_Stops.l0 k [⟨T⟩] acc x en s R b2 b3 b4 b5 b6 b7 b8 s (i : Int)) (acc ++ stl_ T R sp en s f i x)
  | 0, i, x, acc, h, hi, ha => by have := h.2; omega
  | f + 1, i, x, acc, h, hi, ha => by
    by_cases c : i < s.size
    case neg =>
      have e : stl_ T R sp en s (f + 1) i x = [⟨(s.size : Int), x⟩] := if_neg c
      rw [e]
      exact Ev.step (fun k => by rw [locate_Stops.l0, if_neg (by rw [Int.toNat_natCast]; exact c), if_pos (by omega)]) (Ev.now _)
    obtain ⟨hz, h1, h2, h3, h4⟩ := rt_step h c
    obtain ⟨t1, t2, t3⟩ := it_eq c hz
    have hvr := vOf_range s (i : Int) (rsize_ s (i : Int))
    have e : stl_ T R sp en s (f + 1) i x = (⟨(i : Int), x⟩ : S99) :: stl_ T R sp en s f (i + (rsize_ s (i : Int)).toNat) (if kd_ (vOf s (i : Int) (rsize_ s (i : Int))) = 1 then (if (i : Int) < en then ad_ x (sp (sa_ R (i : Int))) else x) else ad_ x (wd_ T (sa_ R (i : Int)) (vOf s (i : Int) (rsize_ s (i : Int))))) := if_pos c
    have ih2 : ∀ y, Ev (fun k => locate_Stops.l0 k [⟨T⟩] (acc ++ [⟨(i : Int), x⟩]) y en s R b2 b3 b4 b5 b6 b7 b8 s ((i + (rsize_ s (i : Int)).toNat : Nat) : Int)) (acc ++ (⟨(i : Int), x⟩ : S99) :: stl_ T R sp en s f (i + (rsize_ s (i : Int)).toNat) y) := fun y => by
      have := stops_l0 (en := en) hT hR hs hsp f (i + (rsize_ s (i : Int)).toNat) y (acc ++ [⟨(i : Int), x⟩]) h4 h2 (by rw [List.length_append, List.length_singleton]; omega)
      rw [List.append_assoc] at this
      exact this
    rw [e]
    refine Ev.step (fun k => by rw [locate_Stops.l0, if_pos (by rw [Int.toNat_natCast]; exact c), if_pos (by omega), Option.bind_some, t1, t2, t3]) ?_
    refine Ev.bind (sa_ev hR (by omega) (by omega)) (Ev.bind (kind_ev _) ?_)
    generalize hr : vOf s (i : Int) (rsize_ s (i : Int)) = r at *
    by_cases c1 : kd_ r = 1
    · rw [if_pos c1]
      by_cases c2 : (i : Int) < en
      · rw [if_pos c2]
        refine Ev.congr (fun k => by rw [if_pos c1, if_pos c2]) (Ev.bind (hsp _) ?_)
        exact Ev.congr (fun k => by rw [add_f, Option.bind_some]) (ih2 _)
      · rw [if_neg c2]
        exact Ev.congr (fun k => by rw [if_pos c1, if_neg c2]) (ih2 _)
    · rw [if_neg c1]
      refine Ev.congr (fun k => by rw [if_neg c1]) (Ev.bind (width_ev hT hvr) ?_)
      exact Ev.congr (fun k => by rw [add_f, Option.bind_some]) (ih2 _)
def sts_ (T : List S87) (R : List S89) (sp : Int → Int) (s : ByteArray) : List S99 := stl_ T R sp (shn_ s) s (s.size + 1) 0 0
theorem stops_ev {T : List S87} (hT : ∀ x ∈ T, RightS x) {R : List S89} (hR : R.length ≤ 1000) {s : ByteArray} (hs : s.size ≤ 1000) (hr : right_ s = true) {sp : Int → Int} {b2 b3 b4 b6 : Int} {b5 b7 b8 : Bool}
    (hsp : ∀ i, Ev (fun k => locate_space.f k [⟨T⟩] s R b2 b3 b4 b5 b6 b7 b8 i) (sp i)) : Ev (fun k => locate_Stops.f k [⟨T⟩] s R b2 b3 b4 b5 b6 b7 b8) (sts_ T R sp s) := by
  unfold locate_Stops.f
  refine Ev.bind (shown_ev (by omega) hr) ?_
  exact stops_l0 hT hR hs hsp (s.size + 1) 0 0 [] (rt_all hr) (Nat.zero_le _) (Nat.zero_le _)
theorem stl_len {T : List S87} {R : List S89} {sp : Int → Int} {en : Int} {s : ByteArray} : ∀ (f i : Nat) (x : Int), Rt s f i → i ≤ s.size → (stl_ T R sp en s f i x).length ≤ s.size - i + 1 ∧ 1 ≤ (stl_ T R sp en s f i x).length
  | 0, i, x, h, hi => by have := h.2; omega
  | f + 1, i, x, h, hi => by
    by_cases c : i < s.size
    · obtain ⟨hz, h1, h2, h3, h4⟩ := rt_step h c
      have e : stl_ T R sp en s (f + 1) i x = (⟨(i : Int), x⟩ : S99) :: stl_ T R sp en s f (i + (rsize_ s (i : Int)).toNat) (if kd_ (vOf s (i : Int) (rsize_ s (i : Int))) = 1 then (if (i : Int) < en then ad_ x (sp (sa_ R (i : Int))) else x) else ad_ x (wd_ T (sa_ R (i : Int)) (vOf s (i : Int) (rsize_ s (i : Int))))) := if_pos c
      have ih := stl_len (T := T) (R := R) (sp := sp) (en := en) f (i + (rsize_ s (i : Int)).toNat) (if kd_ (vOf s (i : Int) (rsize_ s (i : Int))) = 1 then (if (i : Int) < en then ad_ x (sp (sa_ R (i : Int))) else x) else ad_ x (wd_ T (sa_ R (i : Int)) (vOf s (i : Int) (rsize_ s (i : Int))))) h4 h2
      rw [e, List.length_cons]
      omega
    · have e : stl_ T R sp en s (f + 1) i x = [⟨(s.size : Int), x⟩] := if_neg c
      rw [e]; simp
end Go.Proofs.Ytblmcdpfhdamjaa.PPaintSeen
