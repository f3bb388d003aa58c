-- WRITTEN BY wip/xprint.py of this repo, over the kit's print; functions the print does not take are by hand
import Derived.Test.YtblmcdpfhdamjaaPPaintWindowx0
import Derived.Test.YtblmcdpfhdamjaaPPaintWindowx7
import Derived.Test.YtblmcdpfhdamjaaPPaintWindowx8
namespace Go.Proofs.Ytblmcdpfhdamjaa.PPaintWindow
open Go.RowKit Go.Proofs.YtblmcdpfhdamjaaW.PrintWords Go.Proofs.YtblmcdpfhdamjaaW.PrintLast Go.Proofs.YtblmcdpfhdamjaaW.PrintMore
attribute [local go_sem] max2_int min2_int max_two min_two max_three min_three max_four min_four   -- for this text's walks alone
set_option linter.unusedVariables false
set_option linter.unusedSimpArgs false
/-! ### locate_shown: function 71 -/
def locate_shown.l0 : Nat → ByteArray → Int → ByteArray → Int → Option (Int)
  | 0, _, _, _, _ => none
  | k + 1, x0, x3, x153000, x153001 => if (x153001 : Int).toNat < x153000.size then ((runes_Kind.f k (itR_ x153000 x153001)).bind fun t153 => (if t153 = 0 then (if 0 ≤ (itP_ x153001) then (if (itP_ x153001) ≤ (x0.size : Int) then ((runes_First.f k (x0.extract ((itP_ x153001) : Int).toNat x0.size)).bind fun bt154 => (locate_shown.l0 k x0 (wrap64 ((itP_ x153001) + bt154.2)) x153000 (itN_ x153000 x153001))) else (none)) else (none)) else (if t153 = 2 then (if 0 ≤ (itP_ x153001) then (if (itP_ x153001) ≤ (x0.size : Int) then ((runes_First.f k (x0.extract ((itP_ x153001) : Int).toNat x0.size)).bind fun bt156 => (locate_shown.l0 k x0 (wrap64 ((itP_ x153001) + bt156.2)) x153000 (itN_ x153000 x153001))) else (none)) else (none)) else (if t153 = 6 then (if 0 ≤ (itP_ x153001) then (if (itP_ x153001) ≤ (x0.size : Int) then ((runes_First.f k (x0.extract ((itP_ x153001) : Int).toNat x0.size)).bind fun bt158 => (locate_shown.l0 k x0 (wrap64 ((itP_ x153001) + bt158.2)) x153000 (itN_ x153000 x153001))) else (none)) else (none)) else (locate_shown.l0 k x0 x3 x153000 (itN_ x153000 x153001)))))) else (some x3)
def locate_shown.f (k : Nat) (a0 : ByteArray) : Option (Int) := locate_shown.l0 k a0 0 a0 0
theorem locate_shown.mono_l : ∀ k, (∀ y0 y1 y2 y3, LeO (locate_shown.l0 k y0 y1 y2 y3) (locate_shown.l0 (k + 1) y0 y1 y2 y3))
  | 0 => fun _ _ _ _ r h => by simp [locate_shown.l0] at h
  | k + 1 => by
    have ih0 := locate_shown.mono_l k
    · intro y0 y1 y2 y3
      unfold locate_shown.l0
      repeat' first | (with_reducible first | exact ih0 _ _ _ _ | exact runes_First.mono _ _ | exact runes_Kind.mono _ _ | exact LeO.refl _ | exact LeO.none _ | refine LeO.ite ?_ ?_ | refine LeO.bind ?_ (fun _ => ?_)) | exact ih0 _ _ _ _ | exact runes_First.mono _ _ | exact runes_Kind.mono _ _ | exact LeO.none _ | refine LeO.ite ?_ ?_ | refine LeO.bind ?_ (fun _ => ?_)
theorem locate_shown.mono : ∀ a0 k, LeO (locate_shown.f k a0) (locate_shown.f (k + 1) a0) := by
  intro a0 k
  have ih0 := locate_shown.mono_l k
  unfold locate_shown.f
  repeat' first | (with_reducible first | exact ih0 _ _ _ _ | exact runes_First.mono _ _ | exact runes_Kind.mono _ _ | exact LeO.refl _ | exact LeO.none _ | refine LeO.ite ?_ ?_ | refine LeO.bind ?_ (fun _ => ?_)) | exact ih0 _ _ _ _ | exact runes_First.mono _ _ | exact runes_Kind.mono _ _ | exact LeO.none _ | refine LeO.ite ?_ ?_ | refine LeO.bind ?_ (fun _ => ?_)
set_option maxHeartbeats 8000000 in
set_option maxRecDepth 100000 in
theorem locate_shown.calls (k : Nat) (a0 : ByteArray) (r : Int) (w : World) (h : locate_shown.f k a0 = some r) :
    Calls Try.prog 71 #[.string a0] w fun e w' => e = .returned (.int .i64 r) ∧ Below w.heap.size w w' := by
  have HB := Aside0.mk (Below.refl w.heap.size w)
  have H : (locate_shown.l0 k a0 0 a0 0) = some r := h
  clear h
  have H' := Aside0.mk H
  clear H
  go_enter Try.func71, Try.ntmps71
  go_wp2_with (first | ((with_reducible refine gate_dst (N := 9) rfl ?_); refine iter_event ?hg (N := 9) ?hd (s := a0) ?hr ?_; (case hd => rfl); (case hg => rfl); (case hr => exact z209_); intro gb152 hg w2 hbox hb; have BK152 := Aside0.mk (hbox); have GW152 := Aside0.mk ((z85_ : w.heap.size ≤ gb152)); have GE152 := Aside0.mk ((z85_ : w.heap.size ≤ gb152)); replace HB := Aside0.mk (below_step z117_ hb); clear hb hbox hg))
  (try simp only [Act.put, List.setIfInBounds_toArray, List.set_cons_zero, List.set_cons_succ])
  go_loopg [3] k (fun kq v3 w' => ∃ (x3_1 : Int) (x153001_1 : Int), v3 = .int .i64 x3_1 ∧ Aside0 (locate_shown.l0 kq a0 x3_1 a0 x153001_1 = some r) ∧ Aside0 (kq ≤ k) ∧ Aside0 (w'.heap[gb152]? = some (.stringIter a0 (x153001_1 : Int).toNat)) ∧ Aside0 (Below w.heap.size w w'))
  case atStart => exact ⟨(0), (0), z208_, H', ⟨Nat.le_refl _⟩, ⟨z137_⟩, ⟨z90_⟩⟩
  case round =>
    clear H'
    try clear p2
    obtain ⟨x3_1, x153001_1, rfl, HA, HK1, BK152, HB⟩ := hrel
    cases gk with
    | zero => exact absurd HA.out (by simp [locate_shown.l0])
    | succ k1 =>
      have H := HA.out
      clear HA
      simp only [locate_shown.l0] at H
      by_cases c3 : (x153001_1 : Int).toNat < a0.size
      rotate_left
      · rw [if_neg c3] at H
        have c3b0 : decide ((x153001_1 : Int).toNat < a0.size) = false := decide_eq_false c3
        clear c3
        obtain rfl := Option.some.inj H
        go_wp2_with (first | ((with_reducible refine gate_dst (N := 10) rfl ?_); refine next_no (w0 := w) (base := w.heap.size) ?hg (N := 10) ?hd (g := gb152) (s := a0) (p := x153001_1) ?hx rfl ?hi ?hp ?hB ?he ?_; (case hd => rfl); (case hg => rfl); (case hx => exact z207_); (case hi => exact z120_); (case hp => exact z204_); (case hB => exact z76_); (case he => exact GW152.out); intro w24 hbox hg hb; replace BK152 := Aside0.mk (hbox); replace HB := Aside0.mk (hb); clear hbox hb hg))
        go_ret
        exact ⟨z178_, z90_⟩
      rw [if_pos c3] at H
      have c3b0 : decide ((x153001_1 : Int).toNat < a0.size) = true := decide_eq_true c3
      clear c3
      replace H := Option.bind_eq_some_iff.mp H
      obtain ⟨t153, A40, H⟩ := H
      replace H : (if t153 = 0 then (if 0 ≤ (itP_ x153001_1) then (if (itP_ x153001_1) ≤ (a0.size : Int) then ((runes_First.f k1 (a0.extract ((itP_ x153001_1) : Int).toNat a0.size)).bind fun bt154 => (locate_shown.l0 k1 a0 (wrap64 ((itP_ x153001_1) + bt154.2)) a0 (itN_ a0 x153001_1))) else (none)) else (none)) else (if t153 = 2 then (if 0 ≤ (itP_ x153001_1) then (if (itP_ x153001_1) ≤ (a0.size : Int) then ((runes_First.f k1 (a0.extract ((itP_ x153001_1) : Int).toNat a0.size)).bind fun bt156 => (locate_shown.l0 k1 a0 (wrap64 ((itP_ x153001_1) + bt156.2)) a0 (itN_ a0 x153001_1))) else (none)) else (none)) else (if t153 = 6 then (if 0 ≤ (itP_ x153001_1) then (if (itP_ x153001_1) ≤ (a0.size : Int) then ((runes_First.f k1 (a0.extract ((itP_ x153001_1) : Int).toNat a0.size)).bind fun bt158 => (locate_shown.l0 k1 a0 (wrap64 ((itP_ x153001_1) + bt158.2)) a0 (itN_ a0 x153001_1))) else (none)) else (none)) else (locate_shown.l0 k1 a0 x3_1 a0 (itN_ a0 x153001_1))))) = some r := H
      have A4 := Aside0.mk A40
      clear A40
      by_cases c5 : t153 = 0
      · rw [if_pos c5] at H
        have c5b0 : (t153 == 0) = true := beq_iff_eq.mpr c5
        have c5b1 : (t153 != 0) = false := bne_eq_false_iff_eq.mpr c5
        clear c5
        by_cases c6 : 0 ≤ (itP_ x153001_1)
        rotate_left
        · rw [if_neg c6] at H
          exact absurd H (by simp)
        rw [if_pos c6] at H
        have c6b0 := eq_true c6
        have c6b1 : decide (0 ≤ (itP_ x153001_1)) = true := decide_eq_true c6
        clear c6
        by_cases c7 : (itP_ x153001_1) ≤ (a0.size : Int)
        rotate_left
        · rw [if_neg c7] at H
          exact absurd H (by simp)
        rw [if_pos c7] at H
        have c7b0 := eq_true c7
        have c7b1 : decide ((itP_ x153001_1) ≤ (a0.size : Int)) = true := decide_eq_true c7
        clear c7
        replace H := Option.bind_eq_some_iff.mp H
        obtain ⟨⟨t154, t155⟩, A80, H⟩ := H
        replace H : (locate_shown.l0 k1 a0 (wrap64 ((itP_ x153001_1) + t155)) a0 (itN_ a0 x153001_1)) = some r := H
        have A8 := Aside0.mk A80
        clear A80
        have H' := Aside0.mk H
        clear H
        go_wp2_with (first | ((with_reducible refine gate_dst (N := 10) rfl ?_); refine next_yes (w0 := w) (base := w.heap.size) ?hg (N := 10) ?hd (g := gb152) (s := a0) (p := x153001_1) ?hx rfl ?hi ?hp ?hB ?he ?_; (case hd => rfl); (case hg => rfl); (case hx => exact z207_); (case hi => exact z120_); (case hp => exact z204_); (case hB => exact z76_); (case he => exact GW152.out); intro w9 hbox hg hb; replace BK152 := Aside0.mk (hbox); replace HB := Aside0.mk (hb); clear hbox hb hg) | ((with_reducible refine gate_callee (f := 43) rfl ?_); refine goesL_ (some 15) rfl rfl Try.func43 (by kernel_rfl) rfl #[.int .i32 (itR_ a0 x153001_1)] rfl z113_ ?_; (with_reducible refine (runes_Kind.calls k1 (itR_ a0 x153001_1) t153 _ A4.out).mono ?_); rintro e w' ⟨rfl, ⟨nd, rfl⟩⟩; refine ⟨_, rfl, ?_⟩) | ((with_reducible refine gate_callee (f := 89) rfl ?_); refine goesL_ (some 24) rfl rfl Try.func89 (by kernel_rfl) rfl #[.string (a0.extract ((itP_ x153001_1) : Int).toNat a0.size)] rfl z113_ ?_; (with_reducible refine (runes_First.calls k1 (a0.extract ((itP_ x153001_1) : Int).toNat a0.size) t154 t155 _ A8.out).mono ?_); rintro e w10 ⟨rfl, hb⟩; refine ⟨_, rfl, ?_⟩; replace BK152 := Aside0.mk (blk_below (g := gb152) (o := .stringIter a0 (itN_ a0 x153001_1 : Int).toNat) z137_ hb); replace HB := Aside0.mk (below_step z90_ hb); (try clear hb); (try clear hb2); (try clear hk); (try clear hi)))
        go_roundg k1
        case measure => have := HK1.out; omega
        case rel => exact ⟨(wrap64 ((itP_ x153001_1) + t155)), (itN_ a0 x153001_1), z208_, H', ⟨z218_⟩, ⟨z137_⟩, ⟨z90_⟩⟩
      rw [if_neg c5] at H
      have c5b0 : (t153 == 0) = false := beq_eq_false_iff_ne.mpr c5
      have c5b1 : (t153 != 0) = true := bne_iff_ne.mpr c5
      by_cases c11 : t153 = 2
      · rw [if_pos c11] at H
        have c11b0 : (t153 == 2) = true := beq_iff_eq.mpr c11
        have c11b1 : (t153 != 2) = false := bne_eq_false_iff_eq.mpr c11
        clear c11
        by_cases c12 : 0 ≤ (itP_ x153001_1)
        rotate_left
        · rw [if_neg c12] at H
          exact absurd H (by simp)
        rw [if_pos c12] at H
        have c12b0 := eq_true c12
        have c12b1 : decide (0 ≤ (itP_ x153001_1)) = true := decide_eq_true c12
        clear c12
        by_cases c13 : (itP_ x153001_1) ≤ (a0.size : Int)
        rotate_left
        · rw [if_neg c13] at H
          exact absurd H (by simp)
        rw [if_pos c13] at H
        have c13b0 := eq_true c13
        have c13b1 : decide ((itP_ x153001_1) ≤ (a0.size : Int)) = true := decide_eq_true c13
        clear c13
        replace H := Option.bind_eq_some_iff.mp H
        obtain ⟨⟨t156, t157⟩, A140, H⟩ := H
        replace H : (locate_shown.l0 k1 a0 (wrap64 ((itP_ x153001_1) + t157)) a0 (itN_ a0 x153001_1)) = some r := H
        have A14 := Aside0.mk A140
        clear A140
        have H' := Aside0.mk H
        clear H
        go_wp2_with (first | ((with_reducible refine gate_dst (N := 10) rfl ?_); refine next_yes (w0 := w) (base := w.heap.size) ?hg (N := 10) ?hd (g := gb152) (s := a0) (p := x153001_1) ?hx rfl ?hi ?hp ?hB ?he ?_; (case hd => rfl); (case hg => rfl); (case hx => exact z207_); (case hi => exact z120_); (case hp => exact z204_); (case hB => exact z76_); (case he => exact GW152.out); intro w15 hbox hg hb; replace BK152 := Aside0.mk (hbox); replace HB := Aside0.mk (hb); clear hbox hb hg) | ((with_reducible refine gate_callee (f := 43) rfl ?_); refine goesL_ (some 15) rfl rfl Try.func43 (by kernel_rfl) rfl #[.int .i32 (itR_ a0 x153001_1)] rfl z113_ ?_; (with_reducible refine (runes_Kind.calls k1 (itR_ a0 x153001_1) t153 _ A4.out).mono ?_); rintro e w' ⟨rfl, ⟨nd, rfl⟩⟩; refine ⟨_, rfl, ?_⟩) | ((with_reducible refine gate_callee (f := 89) rfl ?_); refine goesL_ (some 24) rfl rfl Try.func89 (by kernel_rfl) rfl #[.string (a0.extract ((itP_ x153001_1) : Int).toNat a0.size)] rfl z113_ ?_; (with_reducible refine (runes_First.calls k1 (a0.extract ((itP_ x153001_1) : Int).toNat a0.size) t156 t157 _ A14.out).mono ?_); rintro e w16 ⟨rfl, hb⟩; refine ⟨_, rfl, ?_⟩; replace BK152 := Aside0.mk (blk_below (g := gb152) (o := .stringIter a0 (itN_ a0 x153001_1 : Int).toNat) z137_ hb); replace HB := Aside0.mk (below_step z90_ hb); (try clear hb); (try clear hb2); (try clear hk); (try clear hi)))
        go_roundg k1
        case measure => have := HK1.out; omega
        case rel => exact ⟨(wrap64 ((itP_ x153001_1) + t157)), (itN_ a0 x153001_1), z208_, H', ⟨z218_⟩, ⟨z137_⟩, ⟨z90_⟩⟩
      rw [if_neg c11] at H
      have c11b0 : (t153 == 2) = false := beq_eq_false_iff_ne.mpr c11
      have c11b1 : (t153 != 2) = true := bne_iff_ne.mpr c11
      by_cases c17 : t153 = 6
      rotate_left
      · rw [if_neg c17] at H
        have c17b0 : (t153 == 6) = false := beq_eq_false_iff_ne.mpr c17
        have c17b1 : (t153 != 6) = true := bne_iff_ne.mpr c17
        have H' := Aside0.mk H
        clear H
        go_wp2_with (first | ((with_reducible refine gate_dst (N := 10) rfl ?_); refine next_yes (w0 := w) (base := w.heap.size) ?hg (N := 10) ?hd (g := gb152) (s := a0) (p := x153001_1) ?hx rfl ?hi ?hp ?hB ?he ?_; (case hd => rfl); (case hg => rfl); (case hx => exact z207_); (case hi => exact z120_); (case hp => exact z204_); (case hB => exact z76_); (case he => exact GW152.out); intro w23 hbox hg hb; replace BK152 := Aside0.mk (hbox); replace HB := Aside0.mk (hb); clear hbox hb hg) | ((with_reducible refine gate_callee (f := 43) rfl ?_); refine goesL_ (some 15) rfl rfl Try.func43 (by kernel_rfl) rfl #[.int .i32 (itR_ a0 x153001_1)] rfl z113_ ?_; (with_reducible refine (runes_Kind.calls k1 (itR_ a0 x153001_1) t153 _ A4.out).mono ?_); rintro e w' ⟨rfl, ⟨nd, rfl⟩⟩; refine ⟨_, rfl, ?_⟩))
        go_roundg k1
        case measure => have := HK1.out; omega
        case rel => exact ⟨(x3_1), (itN_ a0 x153001_1), z208_, H', ⟨z218_⟩, ⟨z137_⟩, ⟨z90_⟩⟩
      rw [if_pos c17] at H
      have c17b0 : (t153 == 6) = true := beq_iff_eq.mpr c17
      have c17b1 : (t153 != 6) = false := bne_eq_false_iff_eq.mpr c17
      clear c17
      by_cases c18 : 0 ≤ (itP_ x153001_1)
      rotate_left
      · rw [if_neg c18] at H
        exact absurd H (by simp)
      rw [if_pos c18] at H
      have c18b0 := eq_true c18
      have c18b1 : decide (0 ≤ (itP_ x153001_1)) = true := decide_eq_true c18
      clear c18
      by_cases c19 : (itP_ x153001_1) ≤ (a0.size : Int)
      rotate_left
      · rw [if_neg c19] at H
        exact absurd H (by simp)
      rw [if_pos c19] at H
      have c19b0 := eq_true c19
      have c19b1 : decide ((itP_ x153001_1) ≤ (a0.size : Int)) = true := decide_eq_true c19
      clear c19
      replace H := Option.bind_eq_some_iff.mp H
      obtain ⟨⟨t158, t159⟩, A200, H⟩ := H
      replace H : (locate_shown.l0 k1 a0 (wrap64 ((itP_ x153001_1) + t159)) a0 (itN_ a0 x153001_1)) = some r := H
      have A20 := Aside0.mk A200
      clear A200
      have H' := Aside0.mk H
      clear H
      go_wp2_with (first | ((with_reducible refine gate_dst (N := 10) rfl ?_); refine next_yes (w0 := w) (base := w.heap.size) ?hg (N := 10) ?hd (g := gb152) (s := a0) (p := x153001_1) ?hx rfl ?hi ?hp ?hB ?he ?_; (case hd => rfl); (case hg => rfl); (case hx => exact z207_); (case hi => exact z120_); (case hp => exact z204_); (case hB => exact z76_); (case he => exact GW152.out); intro w21 hbox hg hb; replace BK152 := Aside0.mk (hbox); replace HB := Aside0.mk (hb); clear hbox hb hg) | ((with_reducible refine gate_callee (f := 43) rfl ?_); refine goesL_ (some 15) rfl rfl Try.func43 (by kernel_rfl) rfl #[.int .i32 (itR_ a0 x153001_1)] rfl z113_ ?_; (with_reducible refine (runes_Kind.calls k1 (itR_ a0 x153001_1) t153 _ A4.out).mono ?_); rintro e w' ⟨rfl, ⟨nd, rfl⟩⟩; refine ⟨_, rfl, ?_⟩) | ((with_reducible refine gate_callee (f := 89) rfl ?_); refine goesL_ (some 24) rfl rfl Try.func89 (by kernel_rfl) rfl #[.string (a0.extract ((itP_ x153001_1) : Int).toNat a0.size)] rfl z113_ ?_; (with_reducible refine (runes_First.calls k1 (a0.extract ((itP_ x153001_1) : Int).toNat a0.size) t158 t159 _ A20.out).mono ?_); rintro e w22 ⟨rfl, hb⟩; refine ⟨_, rfl, ?_⟩; replace BK152 := Aside0.mk (blk_below (g := gb152) (o := .stringIter a0 (itN_ a0 x153001_1 : Int).toNat) z137_ hb); replace HB := Aside0.mk (below_step z90_ hb); (try clear hb); (try clear hb2); (try clear hk); (try clear hi)))
      go_roundg k1
      case measure => have := HK1.out; omega
      case rel => exact ⟨(wrap64 ((itP_ x153001_1) + t159)), (itN_ a0 x153001_1), z208_, H', ⟨z218_⟩, ⟨z137_⟩, ⟨z90_⟩⟩
/-! ### locate_styleAt: function 72 -/
def locate_styleAt.l0 : Nat → Int → List (S89) → Int → Int → Option (Int)
  | 0, _, _, _, _ => none
  | k + 1, x1, x7, x8, x9 => if x9 < x8 then (if 0 ≤ x9 then (if x9 < (x7.length : Int) then (if ((rd_T89 x7 x9).f0) ≤ 0 then (locate_styleAt.l0 k x1 x7 x8 (wrap64 (x9 + 1))) else (if x1 < ((rd_T89 x7 x9).f0) then (some ((rd_T89 x7 x9).f1)) else (locate_styleAt.l0 k (wrap64 (x1 - ((rd_T89 x7 x9).f0))) x7 x8 (wrap64 (x9 + 1))))) else (none)) else (none)) else (some 0)
def locate_styleAt.f (k : Nat) (l0 : List (S89)) (a1 : Int) : Option (Int) := locate_styleAt.l0 k a1 l0 (l0.length : Int) 0
theorem locate_styleAt.mono_l : ∀ k, (∀ y0 y1 y2 y3, LeO (locate_styleAt.l0 k y0 y1 y2 y3) (locate_styleAt.l0 (k + 1) y0 y1 y2 y3))
  | 0 => fun _ _ _ _ r h => by simp [locate_styleAt.l0] at h
  | k + 1 => by
    have ih0 := locate_styleAt.mono_l k
    · intro y0 y1 y2 y3
      unfold locate_styleAt.l0
      repeat' first | (with_reducible first | exact ih0 _ _ _ _ | exact LeO.refl _ | exact LeO.none _ | refine LeO.ite ?_ ?_ | refine LeO.bind ?_ (fun _ => ?_)) | exact ih0 _ _ _ _ | exact LeO.none _ | refine LeO.ite ?_ ?_ | refine LeO.bind ?_ (fun _ => ?_)
theorem locate_styleAt.mono : ∀ a0 a1 k, LeO (locate_styleAt.f k a0 a1) (locate_styleAt.f (k + 1) a0 a1) := by
  intro a0 a1 k
  have ih0 := locate_styleAt.mono_l k
  unfold locate_styleAt.f
  repeat' first | (with_reducible first | exact ih0 _ _ _ _ | exact LeO.refl _ | exact LeO.none _ | refine LeO.ite ?_ ?_ | refine LeO.bind ?_ (fun _ => ?_)) | exact ih0 _ _ _ _ | exact LeO.none _ | refine LeO.ite ?_ ?_ | refine LeO.bind ?_ (fun _ => ?_)
set_option maxHeartbeats 8000000 in
set_option maxRecDepth 100000 in
theorem locate_styleAt.calls (k : Nat) (A0 : Option Addr) (c0 : Nat) (l0 : List (S89)) (a1 : Int) (r : Int) (w : World) (hr0 : Kd.C k89 w A0 l0.length l0) (hc0 : l0.length ≤ c0) (h : locate_styleAt.f k l0 a1 = some r) :
    Calls Try.prog 72 #[.slice A0 l0.length c0, .int .i64 a1] w fun e w' => e = .returned (.int .i64 r) ∧ Below w.heap.size w w' := by
  have hu89 := Try.underlying89
  have HR0 := Aside0.mk hr0
  have HC0 := Aside0.mk hc0
  clear hr0 hc0
  have HB := Aside0.mk (Below.refl w.heap.size w)
  have H : (locate_styleAt.l0 k a1 l0 (l0.length : Int) 0) = some r := h
  clear h
  have H' := Aside0.mk H
  clear H
  go_enter Try.func72, Try.ntmps72
  go_wp2
  go_loopg [1, 9] k (fun kq v1 v9 w' => ∃ (x1_1 : Int) (x9_1 : Int), v1 = .int .i64 x1_1 ∧ v9 = .int .i64 x9_1 ∧ Aside0 (locate_styleAt.l0 kq x1_1 l0 (l0.length : Int) x9_1 = some r) ∧ Aside0 (kq ≤ k) ∧ Aside0 (Below w.heap.size w w'))
  case atStart => exact ⟨(a1), (0), z208_, z208_, H', ⟨Nat.le_refl _⟩, ⟨z117_⟩⟩
  case round =>
    clear H'
    try clear p2
    obtain ⟨x1_1, x9_1, rfl, rfl, HA, HK1, HB⟩ := hrel
    cases gk with
    | zero => exact absurd HA.out (by simp [locate_styleAt.l0])
    | succ k1 =>
      have H := HA.out
      clear HA
      simp only [locate_styleAt.l0] at H
      by_cases c3 : x9_1 < (l0.length : Int)
      rotate_left
      · rw [if_neg c3] at H
        have c3b0 : decide (x9_1 < (l0.length : Int)) = false := decide_eq_false c3
        clear c3
        obtain rfl := Option.some.inj H
        go_wp2
        go_ret
        exact ⟨z178_, z117_⟩
      rw [if_pos c3] at H
      have c3b0 : decide (x9_1 < (l0.length : Int)) = true := decide_eq_true c3
      clear c3
      by_cases c4 : 0 ≤ x9_1
      rotate_left
      · rw [if_neg c4] at H
        exact absurd H (by simp)
      rw [if_pos c4] at H
      have c4b0 : decide (0 ≤ x9_1) = true := decide_eq_true c4
      clear c4
      by_cases c5 : x9_1 < (l0.length : Int)
      rotate_left
      · rw [if_neg c5] at H
        exact absurd H (by simp)
      rw [if_pos c5] at H
      have c5b0 : decide (x9_1 < (l0.length : Int)) = true := decide_eq_true c5
      clear c5
      by_cases c6 : ((rd_T89 l0 x9_1).f0) ≤ 0
      · rw [if_pos c6] at H
        have c6b0 : decide (((rd_T89 l0 x9_1).f0) ≤ 0) = true := decide_eq_true c6
        clear c6
        have H' := Aside0.mk H
        clear H
        have p160 : 0 ≤ (x9_1 : Int) := of_decide_eq_true z204_
        have q160 : x9_1 < (l0.length : Int) := of_decide_eq_true z204_
        obtain ⟨ad160, e160, hx160_0, hx160_1⟩ := at_T89 HR0.out x9_1 p160 q160
        cases e160
        replace hx160_0 := (HB.out.cell (World.block_lt_of_cell? w _ hx160_0)).trans hx160_0
        replace hx160_1 := (HB.out.cell (World.block_lt_of_cell? w _ hx160_1)).trans hx160_1
        replace p160 := eq_true p160
        replace q160 := eq_true q160
        go_wp2_with (first | ((with_reducible refine gate_dst (N := 6) rfl ?_); refine box_event ?hg (N := 6) ?hd (cs := #[.int .i64 0, .int .i64 0]) (t := 89) ?hr ?_; (case hd => rfl); (case hg => rfl); (case hr => exact z209_); intro gb161 hg w7 hbox hb; have BK161 := Aside0.mk (hbox); have GW161 := Aside0.mk ((z85_ : w.heap.size ≤ gb161)); have GE161 := Aside0.mk ((z85_ : w.heap.size ≤ gb161)); replace HB := Aside0.mk (below_step z117_ hb); clear hb hbox hg; have hcz8_0 : w7.cell? ⟨gb161, 0, none⟩ = some (.int .i64 0) := (blk_cell BK161.out 0).trans rfl; have hcz8_1 : w7.cell? ⟨gb161, 1, none⟩ = some (.int .i64 0) := (blk_cell BK161.out 1).trans rfl; have hfz8_0 := blk_frozen BK161.out 0; have hfz8_1 := blk_frozen BK161.out 1))
        go_roundg k1
        case measure => have := HK1.out; omega
        case rel => exact ⟨(x1_1), (wrap64 (x9_1 + 1)), z208_, z208_, H', ⟨z218_⟩, ⟨z91_⟩⟩
      rw [if_neg c6] at H
      have c6b0 : decide (((rd_T89 l0 x9_1).f0) ≤ 0) = false := decide_eq_false c6
      clear c6
      by_cases c9 : x1_1 < ((rd_T89 l0 x9_1).f0)
      · rw [if_pos c9] at H
        have c9b0 : decide (x1_1 < ((rd_T89 l0 x9_1).f0)) = true := decide_eq_true c9
        clear c9
        obtain rfl := Option.some.inj H
        have p160 : 0 ≤ (x9_1 : Int) := of_decide_eq_true z204_
        have q160 : x9_1 < (l0.length : Int) := of_decide_eq_true z204_
        obtain ⟨ad160, e160, hx160_0, hx160_1⟩ := at_T89 HR0.out x9_1 p160 q160
        cases e160
        replace hx160_0 := (HB.out.cell (World.block_lt_of_cell? w _ hx160_0)).trans hx160_0
        replace hx160_1 := (HB.out.cell (World.block_lt_of_cell? w _ hx160_1)).trans hx160_1
        replace p160 := eq_true p160
        replace q160 := eq_true q160
        go_wp2_with (first | ((with_reducible refine gate_dst (N := 6) rfl ?_); refine box_event ?hg (N := 6) ?hd (cs := #[.int .i64 0, .int .i64 0]) (t := 89) ?hr ?_; (case hd => rfl); (case hg => rfl); (case hr => exact z209_); intro gb161 hg w10 hbox hb; have BK161 := Aside0.mk (hbox); have GW161 := Aside0.mk ((z85_ : w.heap.size ≤ gb161)); have GE161 := Aside0.mk ((z85_ : w.heap.size ≤ gb161)); replace HB := Aside0.mk (below_step z117_ hb); clear hb hbox hg; have hcz11_0 : w10.cell? ⟨gb161, 0, none⟩ = some (.int .i64 0) := (blk_cell BK161.out 0).trans rfl; have hcz11_1 : w10.cell? ⟨gb161, 1, none⟩ = some (.int .i64 0) := (blk_cell BK161.out 1).trans rfl; have hfz11_0 := blk_frozen BK161.out 0; have hfz11_1 := blk_frozen BK161.out 1))
        go_ret
        exact ⟨z178_, z91_⟩
      rw [if_neg c9] at H
      have c9b0 : decide (x1_1 < ((rd_T89 l0 x9_1).f0)) = false := decide_eq_false c9
      clear c9
      have H' := Aside0.mk H
      clear H
      have p160 : 0 ≤ (x9_1 : Int) := of_decide_eq_true z204_
      have q160 : x9_1 < (l0.length : Int) := of_decide_eq_true z204_
      obtain ⟨ad160, e160, hx160_0, hx160_1⟩ := at_T89 HR0.out x9_1 p160 q160
      cases e160
      replace hx160_0 := (HB.out.cell (World.block_lt_of_cell? w _ hx160_0)).trans hx160_0
      replace hx160_1 := (HB.out.cell (World.block_lt_of_cell? w _ hx160_1)).trans hx160_1
      replace p160 := eq_true p160
      replace q160 := eq_true q160
      go_wp2_with (first | ((with_reducible refine gate_dst (N := 6) rfl ?_); refine box_event ?hg (N := 6) ?hd (cs := #[.int .i64 0, .int .i64 0]) (t := 89) ?hr ?_; (case hd => rfl); (case hg => rfl); (case hr => exact z209_); intro gb161 hg w12 hbox hb; have BK161 := Aside0.mk (hbox); have GW161 := Aside0.mk ((z85_ : w.heap.size ≤ gb161)); have GE161 := Aside0.mk ((z85_ : w.heap.size ≤ gb161)); replace HB := Aside0.mk (below_step z117_ hb); clear hb hbox hg; have hcz13_0 : w12.cell? ⟨gb161, 0, none⟩ = some (.int .i64 0) := (blk_cell BK161.out 0).trans rfl; have hcz13_1 : w12.cell? ⟨gb161, 1, none⟩ = some (.int .i64 0) := (blk_cell BK161.out 1).trans rfl; have hfz13_0 := blk_frozen BK161.out 0; have hfz13_1 := blk_frozen BK161.out 1))
      go_roundg k1
      case measure => have := HK1.out; omega
      case rel => exact ⟨(wrap64 (x1_1 - ((rd_T89 l0 x9_1).f0))), (wrap64 (x9_1 + 1)), z208_, z208_, H', ⟨z218_⟩, ⟨z91_⟩⟩
/-! ### metrics_Table_Check: function 93 -/
def metrics_Table_Check.f (l0 : List (S124)) (a1 : Int) : Option (Int) := if a1 < 0 then (some 43) else (if 0 < (l0.length : Int) then (if a1 ≥ (((rd_T124 l0 0).f0).length : Int) then (some 43) else (some 0)) else (none))
set_option maxHeartbeats 8000000 in
set_option maxRecDepth 100000 in
theorem metrics_Table_Check.calls (A0 : Option Addr) (c0 : Nat) (l0 : List (S124)) (a1 : Int) (r : Int) (w : World) (hr0 : Kd.C k124 w A0 l0.length l0) (hc0 : l0.length ≤ c0) (h : metrics_Table_Check.f l0 a1 = some r) :
    Calls Try.prog 93 #[.pointer A0, .int .i64 a1] w fun e w' => e = .returned (.int .i64 r) ∧ Drawn0 w w' := by
  have HR0 := Aside0.mk hr0
  have HC0 := Aside0.mk hc0
  clear hr0 hc0
  have H : (if a1 < 0 then (some 43) else (if 0 < (l0.length : Int) then (if a1 ≥ (((rd_T124 l0 0).f0).length : Int) then (some 43) else (some 0)) else (none))) = some r := h
  clear h
  by_cases c3 : a1 < 0
  · rw [if_pos c3] at H
    have c3b0 : decide (a1 < 0) = true := decide_eq_true c3
    clear c3
    obtain rfl := Option.some.inj H
    go_enter Try.func93, Try.ntmps93
    go_wp2
    go_ret
    exact ⟨z190_, z199_⟩
  rw [if_neg c3] at H
  have c3b0 : decide (a1 < 0) = false := decide_eq_false c3
  clear c3
  by_cases c4 : 0 < (l0.length : Int)
  rotate_left
  · rw [if_neg c4] at H
    exact absurd H (by simp)
  rw [if_pos c4] at H
  have c4b0 : decide (0 < (l0.length : Int)) = true := decide_eq_true c4
  have c4b1 : decide (0 < l0.length) = true := decide_eq_true (by omega)
  clear c4
  by_cases c5 : a1 ≥ (((rd_T124 l0 0).f0).length : Int)
  rotate_left
  · rw [if_neg c5] at H
    have c5b0 : decide ((((rd_T124 l0 0).f0).length : Int) ≤ a1) = false := decide_eq_false c5
    clear c5
    obtain rfl := Option.some.inj H
    have p162 : 0 ≤ (0 : Int) := (by omega)
    have q162 : 0 < (l0.length : Int) := of_decide_eq_true z204_
    obtain ⟨ad162, A162_0, c162_0, e162, hx162_0, hl162_0, hi162_0⟩ := at_T124 HR0.out 0 p162 q162
    cases e162
    have qi162 : (0 < l0.length) = True := eq_true (by omega)
    (try rw [show ((0 : Int)).toNat = 0 from rfl] at hx162_0)
    (try rw [Addr.add_zero'] at hx162_0)
    have HR162_0 := Aside0.mk hi162_0
    have HC162_0 := Aside0.mk hl162_0
    clear hi162_0 hl162_0
    replace p162 := eq_true p162
    replace q162 := eq_true q162
    go_enter Try.func93, Try.ntmps93
    go_wp2
    go_ret
    exact ⟨z190_, z199_⟩
  rw [if_pos c5] at H
  have c5b0 : decide ((((rd_T124 l0 0).f0).length : Int) ≤ a1) = true := decide_eq_true c5
  clear c5
  obtain rfl := Option.some.inj H
  have p162 : 0 ≤ (0 : Int) := (by omega)
  have q162 : 0 < (l0.length : Int) := of_decide_eq_true z204_
  obtain ⟨ad162, A162_0, c162_0, e162, hx162_0, hl162_0, hi162_0⟩ := at_T124 HR0.out 0 p162 q162
  cases e162
  have qi162 : (0 < l0.length) = True := eq_true (by omega)
  (try rw [show ((0 : Int)).toNat = 0 from rfl] at hx162_0)
  (try rw [Addr.add_zero'] at hx162_0)
  have HR162_0 := Aside0.mk hi162_0
  have HC162_0 := Aside0.mk hl162_0
  clear hi162_0 hl162_0
  replace p162 := eq_true p162
  replace q162 := eq_true q162
  go_enter Try.func93, Try.ntmps93
  go_wp2
  go_ret
  exact ⟨z190_, z199_⟩
/-! ### metrics_Table_of: function 76 -/
def metrics_Table_of.f (l0 : List (S124)) (a1 : Int) : Option (Int × Int × Int × Int × Int × Int × (List (S134)) × Bool) := (metrics_Table_Check.f l0 a1).bind fun t164 => (if t164 = 0 then (if 0 < (l0.length : Int) then (if 0 ≤ a1 then (if a1 < (((rd_T124 l0 0).f0).length : Int) then (some ((rd_T87 ((rd_T124 l0 0).f0) a1).f0, (rd_T87 ((rd_T124 l0 0).f0) a1).f1, (rd_T87 ((rd_T124 l0 0).f0) a1).f2, (rd_T87 ((rd_T124 l0 0).f0) a1).f3, (rd_T87 ((rd_T124 l0 0).f0) a1).f4, (rd_T87 ((rd_T124 l0 0).f0) a1).f5, (rd_T87 ((rd_T124 l0 0).f0) a1).f6, (rd_T87 ((rd_T124 l0 0).f0) a1).f7)) else (none)) else (none)) else (none)) else (some (0, 0, 0, 0, 0, 0, ([] : List (S134)), false)))
set_option maxHeartbeats 8000000 in
set_option maxRecDepth 100000 in
theorem metrics_Table_of.calls (P0_ : Nat → Prop) (A0 : Option Addr) (c0 : Nat) (l0 : List (S124)) (a1 : Int) (r1 : Int) (r2 : Int) (r3 : Int) (r4 : Int) (r5 : Int) (r6 : Int) (r7 : List (S134)) (r8 : Bool) (w : World) (hs0 : Kd.V k124 124 w w.heap.size (fun k_ => P0_ k_) (.slice A0 l0.length c0) l0) (h : metrics_Table_of.f l0 a1 = some (r1, r2, r3, r4, r5, r6, r7, r8)) :
    Calls Try.prog 76 #[.pointer A0, .int .i64 a1] w fun e w' => ∃ v6_ : Value, e = .returned (.agg #[.int .i64 r1, .int .i64 r2, .int .i64 r3, .int .i64 r4, .int .i64 r5, .int .i64 r6, v6_, .bool r8]) ∧ Kd.V k134 134 w' w.heap.size (fun k_ => (P0_ k_ ∨ w.heap.size ≤ k_)) v6_ r7 ∧ Below w.heap.size w w' := by
  have hu87 := Try.underlying87
  have HO0 := Aside0.mk (show Kd.V k124 124 w w.heap.size (fun k_ => (P0_ k_ ∨ w.heap.size ≤ k_)) (.slice A0 l0.length c0) l0 from Kd.V_mono hs0 (fun k_ hk => .inl hk))
  have HB := Aside0.mk (Below.refl w.heap.size w)
  have H : ((metrics_Table_Check.f l0 a1).bind fun t164 => (if t164 = 0 then (if 0 < (l0.length : Int) then (if 0 ≤ a1 then (if a1 < (((rd_T124 l0 0).f0).length : Int) then (some ((rd_T87 ((rd_T124 l0 0).f0) a1).f0, (rd_T87 ((rd_T124 l0 0).f0) a1).f1, (rd_T87 ((rd_T124 l0 0).f0) a1).f2, (rd_T87 ((rd_T124 l0 0).f0) a1).f3, (rd_T87 ((rd_T124 l0 0).f0) a1).f4, (rd_T87 ((rd_T124 l0 0).f0) a1).f5, (rd_T87 ((rd_T124 l0 0).f0) a1).f6, (rd_T87 ((rd_T124 l0 0).f0) a1).f7)) else (none)) else (none)) else (none)) else (some (0, 0, 0, 0, 0, 0, ([] : List (S134)), false)))) = some (r1, r2, r3, r4, r5, r6, r7, r8) := h
  clear h
  replace H := Option.bind_eq_some_iff.mp H
  obtain ⟨t164, A30, H⟩ := H
  replace H : (if t164 = 0 then (if 0 < (l0.length : Int) then (if 0 ≤ a1 then (if a1 < (((rd_T124 l0 0).f0).length : Int) then (some ((rd_T87 ((rd_T124 l0 0).f0) a1).f0, (rd_T87 ((rd_T124 l0 0).f0) a1).f1, (rd_T87 ((rd_T124 l0 0).f0) a1).f2, (rd_T87 ((rd_T124 l0 0).f0) a1).f3, (rd_T87 ((rd_T124 l0 0).f0) a1).f4, (rd_T87 ((rd_T124 l0 0).f0) a1).f5, (rd_T87 ((rd_T124 l0 0).f0) a1).f6, (rd_T87 ((rd_T124 l0 0).f0) a1).f7)) else (none)) else (none)) else (none)) else (some (0, 0, 0, 0, 0, 0, ([] : List (S134)), false))) = some (r1, r2, r3, r4, r5, r6, r7, r8) := H
  have A3 := Aside0.mk A30
  clear A30
  by_cases c4 : t164 = 0
  rotate_left
  · rw [if_neg c4] at H
    have c4b0 : (t164 == 0) = false := beq_eq_false_iff_ne.mpr c4
    have c4b1 : (t164 != 0) = true := bne_iff_ne.mpr c4
    simp only [Option.some.injEq, Prod.mk.injEq] at H
    obtain ⟨rfl, rfl, rfl, rfl, rfl, rfl, rfl, rfl⟩ := H
    go_enter Try.func76, Try.ntmps76
    go_wp2_with (first | ((with_reducible refine gate_dst (N := 4) rfl ?_); refine box_event ?hg (N := 4) ?hd (cs := #[.int .i64 0, .int .i64 0, .int .i64 0, .int .i64 0, .int .i64 0, .int .i64 0, .slice none 0 0, .bool false]) (t := 87) ?hr ?_; (case hd => rfl); (case hg => rfl); (case hr => exact z209_); intro gb163 hg w10 hbox hb; replace HO0 := Aside0.mk (Kd.V_below (Kd.V_elderB z175_ gb163 (Nat.le_of_eq hg.symm)) hb); have BK163 := Aside0.mk (hbox); have GW163 := Aside0.mk ((z85_ : w.heap.size ≤ gb163)); have GE163 := Aside0.mk ((z85_ : w.heap.size ≤ gb163)); replace HB := Aside0.mk (below_step z117_ hb); clear hb hbox hg) | ((with_reducible refine gate_callee (f := 93) rfl ?_); refine goesL_ (some 7) rfl rfl Try.func93 (by kernel_rfl) rfl #[.pointer A0, .int .i64 a1] rfl z113_ ?_; (with_reducible refine (metrics_Table_Check.calls _ c0 l0 a1 t164 _ ?side1 ?side2 A3.out).mono ?_); (case side1 => exact z84_); (case side2 => exact (Kd.V_reads' HO0.out).2.1); rintro e w' ⟨rfl, ⟨nd, rfl⟩⟩; refine ⟨_, rfl, ?_⟩; (try (rw [drewN_self w10]; generalize hq_ : World.drewN w10 _ = w10; have n0_ : Aside0 (Kd.V k124 124 w10 w.heap.size (fun k_ => (P0_ k_ ∨ w.heap.size ≤ k_) ∧ k_ ≠ gb163) (.slice A0 l0.length c0) l0) := ⟨z123_⟩; have n1_ : Aside0 (w10.heap[gb163]? = some (.cells #[.int .i64 0, .int .i64 0, .int .i64 0, .int .i64 0, .int .i64 0, .int .i64 0, .slice none 0 0, .bool false] 87 (0, 0))) := ⟨z112_⟩; have n2_ : Aside0 (Below w.heap.size w w10) := ⟨z73_⟩; clear HO0 BK163 HB hq_; have HO0 := n0_; have BK163 := n1_; have HB := n2_; clear n0_ n1_ n2_)); have hcz11_0 : w10.cell? ⟨gb163, 0, none⟩ = some (.int .i64 0) := (blk_cell BK163.out 0).trans rfl; have hcz11_1 : w10.cell? ⟨gb163, 1, none⟩ = some (.int .i64 0) := (blk_cell BK163.out 1).trans rfl; have hcz11_2 : w10.cell? ⟨gb163, 2, none⟩ = some (.int .i64 0) := (blk_cell BK163.out 2).trans rfl; have hcz11_3 : w10.cell? ⟨gb163, 3, none⟩ = some (.int .i64 0) := (blk_cell BK163.out 3).trans rfl; have hcz11_4 : w10.cell? ⟨gb163, 4, none⟩ = some (.int .i64 0) := (blk_cell BK163.out 4).trans rfl; have hcz11_5 : w10.cell? ⟨gb163, 5, none⟩ = some (.int .i64 0) := (blk_cell BK163.out 5).trans rfl; have hcz11_6 : w10.cell? ⟨gb163, 6, none⟩ = some (.slice none 0 0) := (blk_cell BK163.out 6).trans rfl; have hcz11_7 : w10.cell? ⟨gb163, 7, none⟩ = some (.bool false) := (blk_cell BK163.out 7).trans rfl; have hfz11_0 := blk_frozen BK163.out 0; have hfz11_1 := blk_frozen BK163.out 1; have hfz11_2 := blk_frozen BK163.out 2; have hfz11_3 := blk_frozen BK163.out 3; have hfz11_4 := blk_frozen BK163.out 4; have hfz11_5 := blk_frozen BK163.out 5; have hfz11_6 := blk_frozen BK163.out 6; have hfz11_7 := blk_frozen BK163.out 7))
    refine bodyPost_ret (results_cell_row rfl _ _ gb163 87 #[.int .i64 0, .int .i64 0, .int .i64 0, .int .i64 0, .int .i64 0, .int .i64 0, .slice none 0 0, .bool false] (0, 0) _ rfl (by (with_reducible repeat (first | refine blk_drewN ?_ _ | refine blk_drew ?_ | refine blk_alloc ?_ _)); refine blk_put (cs := #[.int .i64 0, .int .i64 0, .int .i64 0, .int .i64 0, .int .i64 0, .int .i64 0, .slice none 0 0, .bool false]) ?_ 7 _ rfl; (with_reducible repeat (first | refine blk_drewN ?_ _ | refine blk_drew ?_ | refine blk_alloc ?_ _)); refine blk_put (cs := #[.int .i64 0, .int .i64 0, .int .i64 0, .int .i64 0, .int .i64 0, .int .i64 0, .slice none 0 0, .bool false]) ?_ 6 _ rfl; (with_reducible repeat (first | refine blk_drewN ?_ _ | refine blk_drew ?_ | refine blk_alloc ?_ _)); refine blk_put (cs := #[.int .i64 0, .int .i64 0, .int .i64 0, .int .i64 0, .int .i64 0, .int .i64 0, .slice none 0 0, .bool false]) ?_ 5 _ rfl; (with_reducible repeat (first | refine blk_drewN ?_ _ | refine blk_drew ?_ | refine blk_alloc ?_ _)); refine blk_put (cs := #[.int .i64 0, .int .i64 0, .int .i64 0, .int .i64 0, .int .i64 0, .int .i64 0, .slice none 0 0, .bool false]) ?_ 4 _ rfl; (with_reducible repeat (first | refine blk_drewN ?_ _ | refine blk_drew ?_ | refine blk_alloc ?_ _)); refine blk_put (cs := #[.int .i64 0, .int .i64 0, .int .i64 0, .int .i64 0, .int .i64 0, .int .i64 0, .slice none 0 0, .bool false]) ?_ 3 _ rfl; (with_reducible repeat (first | refine blk_drewN ?_ _ | refine blk_drew ?_ | refine blk_alloc ?_ _)); refine blk_put (cs := #[.int .i64 0, .int .i64 0, .int .i64 0, .int .i64 0, .int .i64 0, .int .i64 0, .slice none 0 0, .bool false]) ?_ 2 _ rfl; (with_reducible repeat (first | refine blk_drewN ?_ _ | refine blk_drew ?_ | refine blk_alloc ?_ _)); refine blk_put (cs := #[.int .i64 0, .int .i64 0, .int .i64 0, .int .i64 0, .int .i64 0, .int .i64 0, .slice none 0 0, .bool false]) ?_ 1 _ rfl; (with_reducible repeat (first | refine blk_drewN ?_ _ | refine blk_drew ?_ | refine blk_alloc ?_ _)); refine blk_put (cs := #[.int .i64 0, .int .i64 0, .int .i64 0, .int .i64 0, .int .i64 0, .int .i64 0, .slice none 0 0, .bool false]) ?_ 0 _ rfl; (with_reducible repeat (first | refine blk_drewN ?_ _ | refine blk_drew ?_ | refine blk_alloc ?_ _)); exact BK163.out) Try.underlying87 rfl (by kernel_rfl)) rfl ?_
    exact ⟨_, z178_, Kd.V_nil _ _ _ _ _, z92_⟩
  rw [if_pos c4] at H
  have c4b0 : (t164 == 0) = true := beq_iff_eq.mpr c4
  have c4b1 : (t164 != 0) = false := bne_eq_false_iff_eq.mpr c4
  clear c4
  by_cases c5 : 0 < (l0.length : Int)
  rotate_left
  · rw [if_neg c5] at H
    exact absurd H (by simp)
  rw [if_pos c5] at H
  have c5b0 : decide (0 < (l0.length : Int)) = true := decide_eq_true c5
  have c5b1 : decide (0 < l0.length) = true := decide_eq_true (by omega)
  clear c5
  by_cases c6 : 0 ≤ a1
  rotate_left
  · rw [if_neg c6] at H
    exact absurd H (by simp)
  rw [if_pos c6] at H
  have c6b0 : decide (0 ≤ a1) = true := decide_eq_true c6
  clear c6
  by_cases c7 : a1 < (((rd_T124 l0 0).f0).length : Int)
  rotate_left
  · rw [if_neg c7] at H
    exact absurd H (by simp)
  rw [if_pos c7] at H
  have c7b0 : decide (a1 < (((rd_T124 l0 0).f0).length : Int)) = true := decide_eq_true c7
  clear c7
  simp only [Option.some.injEq, Prod.mk.injEq] at H
  obtain ⟨rfl, rfl, rfl, rfl, rfl, rfl, rfl, rfl⟩ := H
  go_enter Try.func76, Try.ntmps76
  go_wp2_with (first | ((with_reducible refine gate_dst (N := 4) rfl ?_); refine box_event ?hg (N := 4) ?hd (cs := #[.int .i64 0, .int .i64 0, .int .i64 0, .int .i64 0, .int .i64 0, .int .i64 0, .slice none 0 0, .bool false]) (t := 87) ?hr ?_; (case hd => rfl); (case hg => rfl); (case hr => exact z209_); intro gb163 hg w8 hbox hb; replace HO0 := Aside0.mk (Kd.V_below (Kd.V_elderB z175_ gb163 (Nat.le_of_eq hg.symm)) hb); have BK163 := Aside0.mk (hbox); have GW163 := Aside0.mk ((z85_ : w.heap.size ≤ gb163)); have GE163 := Aside0.mk ((z85_ : w.heap.size ≤ gb163)); replace HB := Aside0.mk (below_step z117_ hb); clear hb hbox hg) | ((with_reducible refine gate_callee (f := 93) rfl ?_); refine goesL_ (some 7) rfl rfl Try.func93 (by kernel_rfl) rfl #[.pointer A0, .int .i64 a1] rfl z113_ ?_; (with_reducible refine (metrics_Table_Check.calls _ c0 l0 a1 t164 _ ?side1 ?side2 A3.out).mono ?_); (case side1 => exact z84_); (case side2 => exact (Kd.V_reads' HO0.out).2.1); rintro e w' ⟨rfl, ⟨nd, rfl⟩⟩; refine ⟨_, rfl, ?_⟩; (try (rw [drewN_self w8]; generalize hq_ : World.drewN w8 _ = w8; have n0_ : Aside0 (Kd.V k124 124 w8 w.heap.size (fun k_ => (P0_ k_ ∨ w.heap.size ≤ k_) ∧ k_ ≠ gb163) (.slice A0 l0.length c0) l0) := ⟨z123_⟩; have n1_ : Aside0 (w8.heap[gb163]? = some (.cells #[.int .i64 0, .int .i64 0, .int .i64 0, .int .i64 0, .int .i64 0, .int .i64 0, .slice none 0 0, .bool false] 87 (0, 0))) := ⟨z112_⟩; have n2_ : Aside0 (Below w.heap.size w w8) := ⟨z73_⟩; clear HO0 BK163 HB hq_; have HO0 := n0_; have BK163 := n1_; have HB := n2_; clear n0_ n1_ n2_)); have p165 : 0 ≤ (0 : Int) := (by omega); have q165 : 0 < (l0.length : Int) := of_decide_eq_true z204_; obtain ⟨ad165, A165_0, c165_0, e165, hx165_0, hl165_0, hi165_0⟩ := at_T124 (Kd.V_reads' HO0.out).2.2 0 p165 q165; cases e165; obtain ⟨ce165, hce165, hMe165, hcc165⟩ := Kd.V_get HO0.out z124 0 p165 (by first | exact q165 | exact of_decide_eq_true z204_ | (have e_ := (Kd.V_reads' HO0.out).1; omega)); obtain ⟨ua165_0, uc165_0, rfl, ul165_0, ge165_0⟩ := k124_openF hMe165; have hv165_0 := hcc165 0 _ rfl; rw [Nat.add_zero, show (k124).sz = 1 from rfl, Nat.mul_one] at hv165_0; replace hv165_0 := Option.some.inj (hv165_0.symm.trans hx165_0); injection hv165_0 with hva_ hvn_ hvc_; rw [hva_] at ge165_0; rw [hvc_] at ul165_0; have HL165_0 := Aside0.mk (show Kd.V k87 87 _ w.heap.size _ _ ((rd_T124 l0 0).f0) from Kd.V_mk ul165_0 ge165_0); clear hva_ hvn_ hvc_ ge165_0 ul165_0; clear hcc165 hce165; have qi165 : (0 < l0.length) = True := eq_true (by omega); (try rw [show ((0 : Int)).toNat = 0 from rfl] at hx165_0); (try rw [Addr.add_zero'] at hx165_0); have HR165_0 := Aside0.mk hi165_0; have HC165_0 := Aside0.mk hl165_0; clear hi165_0 hl165_0; replace p165 := eq_true p165; replace q165 := eq_true q165; have p166 : 0 ≤ (a1 : Int) := of_decide_eq_true z204_; have q166 : a1 < (((rd_T124 l0 0).f0).length : Int) := of_decide_eq_true z204_; obtain ⟨ad166, A166_6, c166_6, e166, hx166_0, hx166_1, hx166_2, hx166_3, hx166_4, hx166_5, hx166_6, hx166_7, hl166_6, hi166_6⟩ := at_T87 (by repeat (first | (with_reducible exact HR165_0.out) | (with_reducible refine Kd.C_alloc ?_ _) | (with_reducible refine Kd.C_drewN ?_ _) | (with_reducible refine Kd.C_drew ?_) | exact HR165_0.out)) a1 p166 q166; cases e166; obtain ⟨ce166, hce166, hMe166, hcc166⟩ := Kd.V_get HL165_0.out z87 a1 p166 (by first | exact q166 | exact of_decide_eq_true z204_ | (have e_ := (Kd.V_reads' HL165_0.out).1; omega)); obtain ⟨ua166_6, uc166_6, rfl, ul166_6, ge166_6⟩ := k87_openF hMe166; have hv166_6 := hcc166 6 _ rfl; rw [add_field _ _ 6 (by omega)] at hv166_6; replace hv166_6 := Option.some.inj (hv166_6.symm.trans hx166_6); injection hv166_6 with hva_ hvn_ hvc_; rw [hva_] at ge166_6; rw [hvc_] at ul166_6; have HL166_6 := Aside0.mk (show Kd.V k134 134 _ w.heap.size _ _ ((rd_T87 ((rd_T124 l0 0).f0) a1).f6) from Kd.V_mk ul166_6 ge166_6); clear hva_ hvn_ hvc_ ge166_6 ul166_6; clear hcc166 hce166; have HR166_6 := Aside0.mk hi166_6; have HC166_6 := Aside0.mk hl166_6; clear hi166_6 hl166_6; replace p166 := eq_true p166; replace q166 := eq_true q166; have hcz9_0 : w8.cell? ⟨gb163, 0, none⟩ = some (.int .i64 0) := (blk_cell BK163.out 0).trans rfl; have hcz9_1 : w8.cell? ⟨gb163, 1, none⟩ = some (.int .i64 0) := (blk_cell BK163.out 1).trans rfl; have hcz9_2 : w8.cell? ⟨gb163, 2, none⟩ = some (.int .i64 0) := (blk_cell BK163.out 2).trans rfl; have hcz9_3 : w8.cell? ⟨gb163, 3, none⟩ = some (.int .i64 0) := (blk_cell BK163.out 3).trans rfl; have hcz9_4 : w8.cell? ⟨gb163, 4, none⟩ = some (.int .i64 0) := (blk_cell BK163.out 4).trans rfl; have hcz9_5 : w8.cell? ⟨gb163, 5, none⟩ = some (.int .i64 0) := (blk_cell BK163.out 5).trans rfl; have hcz9_6 : w8.cell? ⟨gb163, 6, none⟩ = some (.slice none 0 0) := (blk_cell BK163.out 6).trans rfl; have hcz9_7 : w8.cell? ⟨gb163, 7, none⟩ = some (.bool false) := (blk_cell BK163.out 7).trans rfl; have hfz9_0 := blk_frozen BK163.out 0; have hfz9_1 := blk_frozen BK163.out 1; have hfz9_2 := blk_frozen BK163.out 2; have hfz9_3 := blk_frozen BK163.out 3; have hfz9_4 := blk_frozen BK163.out 4; have hfz9_5 := blk_frozen BK163.out 5; have hfz9_6 := blk_frozen BK163.out 6; have hfz9_7 := blk_frozen BK163.out 7))
  refine bodyPost_ret (results_cell_row rfl _ _ gb163 87 #[.int .i64 ((rd_T87 ((rd_T124 l0 0).f0) a1).f0), .int .i64 ((rd_T87 ((rd_T124 l0 0).f0) a1).f1), .int .i64 ((rd_T87 ((rd_T124 l0 0).f0) a1).f2), .int .i64 ((rd_T87 ((rd_T124 l0 0).f0) a1).f3), .int .i64 ((rd_T87 ((rd_T124 l0 0).f0) a1).f4), .int .i64 ((rd_T87 ((rd_T124 l0 0).f0) a1).f5), .slice A166_6 ((rd_T87 ((rd_T124 l0 0).f0) a1).f6).length c166_6, .bool ((rd_T87 ((rd_T124 l0 0).f0) a1).f7)] (0, 0) _ rfl (by (with_reducible repeat (first | refine blk_drewN ?_ _ | refine blk_drew ?_ | refine blk_alloc ?_ _)); refine blk_put (cs := #[.int .i64 ((rd_T87 ((rd_T124 l0 0).f0) a1).f0), .int .i64 ((rd_T87 ((rd_T124 l0 0).f0) a1).f1), .int .i64 ((rd_T87 ((rd_T124 l0 0).f0) a1).f2), .int .i64 ((rd_T87 ((rd_T124 l0 0).f0) a1).f3), .int .i64 ((rd_T87 ((rd_T124 l0 0).f0) a1).f4), .int .i64 ((rd_T87 ((rd_T124 l0 0).f0) a1).f5), .slice A166_6 ((rd_T87 ((rd_T124 l0 0).f0) a1).f6).length c166_6, .bool false]) ?_ 7 _ rfl; (with_reducible repeat (first | refine blk_drewN ?_ _ | refine blk_drew ?_ | refine blk_alloc ?_ _)); refine blk_put (cs := #[.int .i64 ((rd_T87 ((rd_T124 l0 0).f0) a1).f0), .int .i64 ((rd_T87 ((rd_T124 l0 0).f0) a1).f1), .int .i64 ((rd_T87 ((rd_T124 l0 0).f0) a1).f2), .int .i64 ((rd_T87 ((rd_T124 l0 0).f0) a1).f3), .int .i64 ((rd_T87 ((rd_T124 l0 0).f0) a1).f4), .int .i64 ((rd_T87 ((rd_T124 l0 0).f0) a1).f5), .slice none 0 0, .bool false]) ?_ 6 _ rfl; (with_reducible repeat (first | refine blk_drewN ?_ _ | refine blk_drew ?_ | refine blk_alloc ?_ _)); refine blk_put (cs := #[.int .i64 ((rd_T87 ((rd_T124 l0 0).f0) a1).f0), .int .i64 ((rd_T87 ((rd_T124 l0 0).f0) a1).f1), .int .i64 ((rd_T87 ((rd_T124 l0 0).f0) a1).f2), .int .i64 ((rd_T87 ((rd_T124 l0 0).f0) a1).f3), .int .i64 ((rd_T87 ((rd_T124 l0 0).f0) a1).f4), .int .i64 0, .slice none 0 0, .bool false]) ?_ 5 _ rfl; (with_reducible repeat (first | refine blk_drewN ?_ _ | refine blk_drew ?_ | refine blk_alloc ?_ _)); refine blk_put (cs := #[.int .i64 ((rd_T87 ((rd_T124 l0 0).f0) a1).f0), .int .i64 ((rd_T87 ((rd_T124 l0 0).f0) a1).f1), .int .i64 ((rd_T87 ((rd_T124 l0 0).f0) a1).f2), .int .i64 ((rd_T87 ((rd_T124 l0 0).f0) a1).f3), .int .i64 0, .int .i64 0, .slice none 0 0, .bool false]) ?_ 4 _ rfl; (with_reducible repeat (first | refine blk_drewN ?_ _ | refine blk_drew ?_ | refine blk_alloc ?_ _)); refine blk_put (cs := #[.int .i64 ((rd_T87 ((rd_T124 l0 0).f0) a1).f0), .int .i64 ((rd_T87 ((rd_T124 l0 0).f0) a1).f1), .int .i64 ((rd_T87 ((rd_T124 l0 0).f0) a1).f2), .int .i64 0, .int .i64 0, .int .i64 0, .slice none 0 0, .bool false]) ?_ 3 _ rfl; (with_reducible repeat (first | refine blk_drewN ?_ _ | refine blk_drew ?_ | refine blk_alloc ?_ _)); refine blk_put (cs := #[.int .i64 ((rd_T87 ((rd_T124 l0 0).f0) a1).f0), .int .i64 ((rd_T87 ((rd_T124 l0 0).f0) a1).f1), .int .i64 0, .int .i64 0, .int .i64 0, .int .i64 0, .slice none 0 0, .bool false]) ?_ 2 _ rfl; (with_reducible repeat (first | refine blk_drewN ?_ _ | refine blk_drew ?_ | refine blk_alloc ?_ _)); refine blk_put (cs := #[.int .i64 ((rd_T87 ((rd_T124 l0 0).f0) a1).f0), .int .i64 0, .int .i64 0, .int .i64 0, .int .i64 0, .int .i64 0, .slice none 0 0, .bool false]) ?_ 1 _ rfl; (with_reducible repeat (first | refine blk_drewN ?_ _ | refine blk_drew ?_ | refine blk_alloc ?_ _)); refine blk_put (cs := #[.int .i64 0, .int .i64 0, .int .i64 0, .int .i64 0, .int .i64 0, .int .i64 0, .slice none 0 0, .bool false]) ?_ 0 _ rfl; (with_reducible repeat (first | refine blk_drewN ?_ _ | refine blk_drew ?_ | refine blk_alloc ?_ _)); exact BK163.out) Try.underlying87 rfl (by kernel_rfl)) rfl ?_
  exact ⟨_, z178_, by (with_reducible repeat (first | apply Kd.V_alloc | apply Kd.V_drewN | apply Kd.V_drew)); exact Kd.V_mono (Kd.V_far (p := ⟨gb163, 7, none⟩) (Kd.V_far (p := ⟨gb163, 6, none⟩) (Kd.V_far (p := ⟨gb163, 5, none⟩) (Kd.V_far (p := ⟨gb163, 4, none⟩) (Kd.V_far (p := ⟨gb163, 3, none⟩) (Kd.V_far (p := ⟨gb163, 2, none⟩) (Kd.V_far (p := ⟨gb163, 1, none⟩) (Kd.V_far (p := ⟨gb163, 0, none⟩) (Kd.V_mono HL166_6.out (fun k_ hk => (⟨hk, hk.2⟩ : _ ∧ k_ ≠ gb163))) (fun _ hk => hk.2) (.int .i64 ((rd_T87 ((rd_T124 l0 0).f0) a1).f0))) (fun _ hk => hk.2) (.int .i64 ((rd_T87 ((rd_T124 l0 0).f0) a1).f1))) (fun _ hk => hk.2) (.int .i64 ((rd_T87 ((rd_T124 l0 0).f0) a1).f2))) (fun _ hk => hk.2) (.int .i64 ((rd_T87 ((rd_T124 l0 0).f0) a1).f3))) (fun _ hk => hk.2) (.int .i64 ((rd_T87 ((rd_T124 l0 0).f0) a1).f4))) (fun _ hk => hk.2) (.int .i64 ((rd_T87 ((rd_T124 l0 0).f0) a1).f5))) (fun _ hk => hk.2) (.slice A166_6 ((rd_T87 ((rd_T124 l0 0).f0) a1).f6).length c166_6)) (fun _ hk => hk.2) (.bool ((rd_T87 ((rd_T124 l0 0).f0) a1).f7))) (fun _ hk => hk.1.1), z92_⟩
/-! ### metrics_lookup: function 90 -/
def metrics_lookup.l0 : Nat → Int → Int → Int → Int → Int → Int → Int → Int → Int → List (S134) → Bool → Option (Int)
  | 0, _, _, _, _, _, _, _, _, _, _, _ => none
  | k + 1, x1, x5, x6, x168000, x168001, x168002, x168003, x168004, x168005, x168006, x168007 => if x5 < x6 then (if 0 ≤ (wrap64 (Int.tdiv (wrap64 (x5 + x6)) 2)) then (if (wrap64 (Int.tdiv (wrap64 (x5 + x6)) 2)) < (x168006.length : Int) then (if ((rd_T134 x168006 (wrap64 (Int.tdiv (wrap64 (x5 + x6)) 2))).f1) < x1 then (metrics_lookup.l0 k x1 (wrap64 ((wrap64 (Int.tdiv (wrap64 (x5 + x6)) 2)) + 1)) x6 x168000 x168001 x168002 x168003 x168004 x168005 x168006 x168007) else (metrics_lookup.l0 k x1 x5 (wrap64 (Int.tdiv (wrap64 (x5 + x6)) 2)) x168000 x168001 x168002 x168003 x168004 x168005 x168006 x168007)) else (none)) else (none)) else (if x5 < (x168006.length : Int) then (if 0 ≤ x5 then (if ((rd_T134 x168006 x5).f0) ≤ x1 then (some ((rd_T134 x168006 x5).f2)) else (some x168005)) else (none)) else (some x168005))
def metrics_lookup.f (k : Nat) (a0_0 : Int) (a0_1 : Int) (a0_2 : Int) (a0_3 : Int) (a0_4 : Int) (a0_5 : Int) (l0_6 : List (S134)) (a0_7 : Bool) (a1 : Int) : Option (Int) := metrics_lookup.l0 k a1 0 (l0_6.length : Int) a0_0 a0_1 a0_2 a0_3 a0_4 a0_5 l0_6 a0_7
theorem metrics_lookup.mono_l : ∀ k, (∀ y0 y1 y2 y3 y4 y5 y6 y7 y8 y9 y10, LeO (metrics_lookup.l0 k y0 y1 y2 y3 y4 y5 y6 y7 y8 y9 y10) (metrics_lookup.l0 (k + 1) y0 y1 y2 y3 y4 y5 y6 y7 y8 y9 y10))
  | 0 => fun _ _ _ _ _ _ _ _ _ _ _ r h => by simp [metrics_lookup.l0] at h
  | k + 1 => by
    have ih0 := metrics_lookup.mono_l k
    · intro y0 y1 y2 y3 y4 y5 y6 y7 y8 y9 y10
      unfold metrics_lookup.l0
      repeat' first | (with_reducible first | exact ih0 _ _ _ _ _ _ _ _ _ _ _ | exact LeO.refl _ | exact LeO.none _ | refine LeO.ite ?_ ?_ | refine LeO.bind ?_ (fun _ => ?_)) | exact ih0 _ _ _ _ _ _ _ _ _ _ _ | exact LeO.none _ | refine LeO.ite ?_ ?_ | refine LeO.bind ?_ (fun _ => ?_)
theorem metrics_lookup.mono : ∀ a0 a1 a2 a3 a4 a5 a6 a7 a8 k, LeO (metrics_lookup.f k a0 a1 a2 a3 a4 a5 a6 a7 a8) (metrics_lookup.f (k + 1) a0 a1 a2 a3 a4 a5 a6 a7 a8) := by
  intro a0 a1 a2 a3 a4 a5 a6 a7 a8 k
  have ih0 := metrics_lookup.mono_l k
  unfold metrics_lookup.f
  repeat' first | (with_reducible first | exact ih0 _ _ _ _ _ _ _ _ _ _ _ | exact LeO.refl _ | exact LeO.none _ | refine LeO.ite ?_ ?_ | refine LeO.bind ?_ (fun _ => ?_)) | exact ih0 _ _ _ _ _ _ _ _ _ _ _ | exact LeO.none _ | refine LeO.ite ?_ ?_ | refine LeO.bind ?_ (fun _ => ?_)
set_option maxHeartbeats 8000000 in
set_option maxRecDepth 100000 in
theorem metrics_lookup.calls (k : Nat) (a0_0 : Int) (a0_1 : Int) (a0_2 : Int) (a0_3 : Int) (a0_4 : Int) (a0_5 : Int) (A0_6 : Option Addr) (c0_6 : Nat) (l0_6 : List (S134)) (a0_7 : Bool) (a1 : Int) (r : Int) (w : World) (hr0_6 : Kd.C k134 w A0_6 l0_6.length l0_6) (hc0_6 : l0_6.length ≤ c0_6) (h : metrics_lookup.f k a0_0 a0_1 a0_2 a0_3 a0_4 a0_5 l0_6 a0_7 a1 = some r) :
    Calls Try.prog 90 #[.agg #[.int .i64 a0_0, .int .i64 a0_1, .int .i64 a0_2, .int .i64 a0_3, .int .i64 a0_4, .int .i64 a0_5, .slice A0_6 l0_6.length c0_6, .bool a0_7], .int .i64 a1] w fun e w' => e = .returned (.int .i64 r) ∧ Below w.heap.size w w' := by
  have hu87 := Try.underlying87
  have HR0_6 := Aside0.mk hr0_6
  have HC0_6 := Aside0.mk hc0_6
  clear hr0_6 hc0_6
  have HB := Aside0.mk (Below.refl w.heap.size w)
  have H : (metrics_lookup.l0 k a1 0 (l0_6.length : Int) a0_0 a0_1 a0_2 a0_3 a0_4 a0_5 l0_6 a0_7) = some r := h
  clear h
  have H' := Aside0.mk H
  clear H
  go_enter Try.func90, Try.ntmps90
  go_wp2_with (first | ((with_reducible refine gate_dst (N := 2) rfl ?_); refine box_event ?hg (N := 2) ?hd (cs := #[.int .i64 a0_0, .int .i64 a0_1, .int .i64 a0_2, .int .i64 a0_3, .int .i64 a0_4, .int .i64 a0_5, .slice A0_6 l0_6.length c0_6, .bool a0_7]) (t := 87) ?hr ?_; (case hd => rfl); (case hg => rfl); (case hr => exact z209_); intro gb167 hg w3 hbox hb; have BK167 := Aside0.mk (hbox); have GW167 := Aside0.mk ((z85_ : w.heap.size ≤ gb167)); have GE167 := Aside0.mk ((z85_ : w.heap.size ≤ gb167)); replace HB := Aside0.mk (below_step z117_ hb); clear hb hbox hg; have hcz4_0 : w3.cell? ⟨gb167, 0, none⟩ = some (.int .i64 a0_0) := (blk_cell BK167.out 0).trans rfl; have hcz4_1 : w3.cell? ⟨gb167, 1, none⟩ = some (.int .i64 a0_1) := (blk_cell BK167.out 1).trans rfl; have hcz4_2 : w3.cell? ⟨gb167, 2, none⟩ = some (.int .i64 a0_2) := (blk_cell BK167.out 2).trans rfl; have hcz4_3 : w3.cell? ⟨gb167, 3, none⟩ = some (.int .i64 a0_3) := (blk_cell BK167.out 3).trans rfl; have hcz4_4 : w3.cell? ⟨gb167, 4, none⟩ = some (.int .i64 a0_4) := (blk_cell BK167.out 4).trans rfl; have hcz4_5 : w3.cell? ⟨gb167, 5, none⟩ = some (.int .i64 a0_5) := (blk_cell BK167.out 5).trans rfl; have hcz4_6 : w3.cell? ⟨gb167, 6, none⟩ = some (.slice A0_6 l0_6.length c0_6) := (blk_cell BK167.out 6).trans rfl; have hcz4_7 : w3.cell? ⟨gb167, 7, none⟩ = some (.bool a0_7) := (blk_cell BK167.out 7).trans rfl; have hfz4_0 := blk_frozen BK167.out 0; have hfz4_1 := blk_frozen BK167.out 1; have hfz4_2 := blk_frozen BK167.out 2; have hfz4_3 := blk_frozen BK167.out 3; have hfz4_4 := blk_frozen BK167.out 4; have hfz4_5 := blk_frozen BK167.out 5; have hfz4_6 := blk_frozen BK167.out 6; have hfz4_7 := blk_frozen BK167.out 7))
  repeat (go_quiet (first | ((with_reducible refine gate_dst (N := 2) rfl ?_); refine box_event ?hg (N := 2) ?hd (cs := #[.int .i64 a0_0, .int .i64 a0_1, .int .i64 a0_2, .int .i64 a0_3, .int .i64 a0_4, .int .i64 a0_5, .slice A0_6 l0_6.length c0_6, .bool a0_7]) (t := 87) ?hr ?_; (case hd => rfl); (case hg => rfl); (case hr => exact z209_); intro gb167 hg w3 hbox hb; have BK167 := Aside0.mk (hbox); have GW167 := Aside0.mk ((z85_ : w.heap.size ≤ gb167)); have GE167 := Aside0.mk ((z85_ : w.heap.size ≤ gb167)); replace HB := Aside0.mk (below_step z117_ hb); clear hb hbox hg; have hcz4_0 : w3.cell? ⟨gb167, 0, none⟩ = some (.int .i64 a0_0) := (blk_cell BK167.out 0).trans rfl; have hcz4_1 : w3.cell? ⟨gb167, 1, none⟩ = some (.int .i64 a0_1) := (blk_cell BK167.out 1).trans rfl; have hcz4_2 : w3.cell? ⟨gb167, 2, none⟩ = some (.int .i64 a0_2) := (blk_cell BK167.out 2).trans rfl; have hcz4_3 : w3.cell? ⟨gb167, 3, none⟩ = some (.int .i64 a0_3) := (blk_cell BK167.out 3).trans rfl; have hcz4_4 : w3.cell? ⟨gb167, 4, none⟩ = some (.int .i64 a0_4) := (blk_cell BK167.out 4).trans rfl; have hcz4_5 : w3.cell? ⟨gb167, 5, none⟩ = some (.int .i64 a0_5) := (blk_cell BK167.out 5).trans rfl; have hcz4_6 : w3.cell? ⟨gb167, 6, none⟩ = some (.slice A0_6 l0_6.length c0_6) := (blk_cell BK167.out 6).trans rfl; have hcz4_7 : w3.cell? ⟨gb167, 7, none⟩ = some (.bool a0_7) := (blk_cell BK167.out 7).trans rfl; have hfz4_0 := blk_frozen BK167.out 0; have hfz4_1 := blk_frozen BK167.out 1; have hfz4_2 := blk_frozen BK167.out 2; have hfz4_3 := blk_frozen BK167.out 3; have hfz4_4 := blk_frozen BK167.out 4; have hfz4_5 := blk_frozen BK167.out 5; have hfz4_6 := blk_frozen BK167.out 6; have hfz4_7 := blk_frozen BK167.out 7)); try go_wp2_with (first | ((with_reducible refine gate_dst (N := 2) rfl ?_); refine box_event ?hg (N := 2) ?hd (cs := #[.int .i64 a0_0, .int .i64 a0_1, .int .i64 a0_2, .int .i64 a0_3, .int .i64 a0_4, .int .i64 a0_5, .slice A0_6 l0_6.length c0_6, .bool a0_7]) (t := 87) ?hr ?_; (case hd => rfl); (case hg => rfl); (case hr => exact z209_); intro gb167 hg w3 hbox hb; have BK167 := Aside0.mk (hbox); have GW167 := Aside0.mk ((z85_ : w.heap.size ≤ gb167)); have GE167 := Aside0.mk ((z85_ : w.heap.size ≤ gb167)); replace HB := Aside0.mk (below_step z117_ hb); clear hb hbox hg; have hcz4_0 : w3.cell? ⟨gb167, 0, none⟩ = some (.int .i64 a0_0) := (blk_cell BK167.out 0).trans rfl; have hcz4_1 : w3.cell? ⟨gb167, 1, none⟩ = some (.int .i64 a0_1) := (blk_cell BK167.out 1).trans rfl; have hcz4_2 : w3.cell? ⟨gb167, 2, none⟩ = some (.int .i64 a0_2) := (blk_cell BK167.out 2).trans rfl; have hcz4_3 : w3.cell? ⟨gb167, 3, none⟩ = some (.int .i64 a0_3) := (blk_cell BK167.out 3).trans rfl; have hcz4_4 : w3.cell? ⟨gb167, 4, none⟩ = some (.int .i64 a0_4) := (blk_cell BK167.out 4).trans rfl; have hcz4_5 : w3.cell? ⟨gb167, 5, none⟩ = some (.int .i64 a0_5) := (blk_cell BK167.out 5).trans rfl; have hcz4_6 : w3.cell? ⟨gb167, 6, none⟩ = some (.slice A0_6 l0_6.length c0_6) := (blk_cell BK167.out 6).trans rfl; have hcz4_7 : w3.cell? ⟨gb167, 7, none⟩ = some (.bool a0_7) := (blk_cell BK167.out 7).trans rfl; have hfz4_0 := blk_frozen BK167.out 0; have hfz4_1 := blk_frozen BK167.out 1; have hfz4_2 := blk_frozen BK167.out 2; have hfz4_3 := blk_frozen BK167.out 3; have hfz4_4 := blk_frozen BK167.out 4; have hfz4_5 := blk_frozen BK167.out 5; have hfz4_6 := blk_frozen BK167.out 6; have hfz4_7 := blk_frozen BK167.out 7)))
  go_loopg [5, 6] k (fun kq v5 v6 w' => ∃ (x5_1 : Int) (x6_1 : Int), v5 = .int .i64 x5_1 ∧ v6 = .int .i64 x6_1 ∧ Aside0 (metrics_lookup.l0 kq a1 x5_1 x6_1 a0_0 a0_1 a0_2 a0_3 a0_4 a0_5 l0_6 a0_7 = some r) ∧ Aside0 (kq ≤ k) ∧ Aside0 (w'.heap[gb167]? = some (.cells #[.int .i64 a0_0, .int .i64 a0_1, .int .i64 a0_2, .int .i64 a0_3, .int .i64 a0_4, .int .i64 a0_5, (.slice A0_6 l0_6.length c0_6), .bool a0_7] 87 (0, 0))) ∧ Aside0 (Below w.heap.size w w'))
  case atStart => exact ⟨(0), ((l0_6.length : Int)), z208_, z208_, H', ⟨Nat.le_refl _⟩, ⟨z138_⟩, ⟨z93_⟩⟩
  case round =>
    clear H'
    try clear p2
    try clear hcz4_0
    try clear hcz4_1
    try clear hcz4_2
    try clear hcz4_3
    try clear hcz4_4
    try clear hcz4_5
    try clear hcz4_6
    try clear hcz4_7
    try clear hfz4_0
    try clear hfz4_1
    try clear hfz4_2
    try clear hfz4_3
    try clear hfz4_4
    try clear hfz4_5
    try clear hfz4_6
    try clear hfz4_7
    obtain ⟨x5_1, x6_1, rfl, rfl, HA, HK1, BK167, HB⟩ := hrel
    cases gk with
    | zero => exact absurd HA.out (by simp [metrics_lookup.l0])
    | succ k1 =>
      have H := HA.out
      clear HA
      simp only [metrics_lookup.l0] at H
      by_cases c5 : x5_1 < x6_1
      · rw [if_pos c5] at H
        have c5b0 : decide (x5_1 < x6_1) = true := decide_eq_true c5
        clear c5
        obtain ⟨ji6, hji6⟩ : ∃ j_ : Int, (wrap64 (Int.tdiv (wrap64 (x5_1 + x6_1)) 2)) = j_ := ⟨_, rfl⟩
        replace H : (if 0 ≤ (ji6) then (if (ji6) < (l0_6.length : Int) then (if ((rd_T134 l0_6 (ji6)).f1) < a1 then (metrics_lookup.l0 k1 a1 (wrap64 ((ji6) + 1)) x6_1 a0_0 a0_1 a0_2 a0_3 a0_4 a0_5 l0_6 a0_7) else (metrics_lookup.l0 k1 a1 x5_1 ji6 a0_0 a0_1 a0_2 a0_3 a0_4 a0_5 l0_6 a0_7)) else (none)) else (none)) = some r := by first | (rw [hji6] at H; exact H) | (simp only [hji6] at H ⊢; exact H)
        have hji6w : (IntKind.i64.wrap (Int.tdiv (wrap64 (x5_1 + x6_1)) 2)) = ji6 := (i64_w _).trans hji6
        by_cases c7 : 0 ≤ (ji6)
        rotate_left
        · rw [if_neg c7] at H
          exact absurd H (by simp)
        rw [if_pos c7] at H
        have c7b0 : decide (0 ≤ (ji6)) = true := decide_eq_true c7
        clear c7
        by_cases c8 : (ji6) < (l0_6.length : Int)
        rotate_left
        · rw [if_neg c8] at H
          exact absurd H (by simp)
        rw [if_pos c8] at H
        have c8b0 : decide ((ji6) < (l0_6.length : Int)) = true := decide_eq_true c8
        clear c8
        by_cases c9 : ((rd_T134 l0_6 (ji6)).f1) < a1
        rotate_left
        · rw [if_neg c9] at H
          have c9b0 : decide (((rd_T134 l0_6 (ji6)).f1) < a1) = false := decide_eq_false c9
          clear c9
          have H' := Aside0.mk H
          clear H
          have hcz11_0 : wr.cell? ⟨gb167, 0, none⟩ = some (.int .i64 a0_0) := (blk_cell BK167.out 0).trans rfl
          have hcz11_1 : wr.cell? ⟨gb167, 1, none⟩ = some (.int .i64 a0_1) := (blk_cell BK167.out 1).trans rfl
          have hcz11_2 : wr.cell? ⟨gb167, 2, none⟩ = some (.int .i64 a0_2) := (blk_cell BK167.out 2).trans rfl
          have hcz11_3 : wr.cell? ⟨gb167, 3, none⟩ = some (.int .i64 a0_3) := (blk_cell BK167.out 3).trans rfl
          have hcz11_4 : wr.cell? ⟨gb167, 4, none⟩ = some (.int .i64 a0_4) := (blk_cell BK167.out 4).trans rfl
          have hcz11_5 : wr.cell? ⟨gb167, 5, none⟩ = some (.int .i64 a0_5) := (blk_cell BK167.out 5).trans rfl
          have hcz11_6 : wr.cell? ⟨gb167, 6, none⟩ = some (.slice A0_6 l0_6.length c0_6) := (blk_cell BK167.out 6).trans rfl
          have hcz11_7 : wr.cell? ⟨gb167, 7, none⟩ = some (.bool a0_7) := (blk_cell BK167.out 7).trans rfl
          have hfz11_0 := blk_frozen BK167.out 0
          have hfz11_1 := blk_frozen BK167.out 1
          have hfz11_2 := blk_frozen BK167.out 2
          have hfz11_3 := blk_frozen BK167.out 3
          have hfz11_4 := blk_frozen BK167.out 4
          have hfz11_5 := blk_frozen BK167.out 5
          have hfz11_6 := blk_frozen BK167.out 6
          have hfz11_7 := blk_frozen BK167.out 7
          have p168 : 0 ≤ ((ji6) : Int) := of_decide_eq_true z204_
          have q168 : (ji6) < (l0_6.length : Int) := of_decide_eq_true z204_
          obtain ⟨ad168, e168, hx168_0, hx168_1, hx168_2⟩ := at_T134 HR0_6.out (ji6) p168 q168
          cases e168
          replace hx168_0 := (HB.out.cell (World.block_lt_of_cell? w _ hx168_0)).trans hx168_0
          replace hx168_1 := (HB.out.cell (World.block_lt_of_cell? w _ hx168_1)).trans hx168_1
          replace hx168_2 := (HB.out.cell (World.block_lt_of_cell? w _ hx168_2)).trans hx168_2
          replace p168 := eq_true p168
          replace q168 := eq_true q168
          go_wp2
          repeat (go_quiet (fail); try go_wp2)
          go_roundg k1
          case measure => have := HK1.out; omega
          case rel => exact ⟨(x5_1), (ji6), z208_, z182_, H', ⟨z218_⟩, ⟨z138_⟩, ⟨z93_⟩⟩
        rw [if_pos c9] at H
        have c9b0 : decide (((rd_T134 l0_6 (ji6)).f1) < a1) = true := decide_eq_true c9
        clear c9
        have H' := Aside0.mk H
        clear H
        have hcz10_0 : wr.cell? ⟨gb167, 0, none⟩ = some (.int .i64 a0_0) := (blk_cell BK167.out 0).trans rfl
        have hcz10_1 : wr.cell? ⟨gb167, 1, none⟩ = some (.int .i64 a0_1) := (blk_cell BK167.out 1).trans rfl
        have hcz10_2 : wr.cell? ⟨gb167, 2, none⟩ = some (.int .i64 a0_2) := (blk_cell BK167.out 2).trans rfl
        have hcz10_3 : wr.cell? ⟨gb167, 3, none⟩ = some (.int .i64 a0_3) := (blk_cell BK167.out 3).trans rfl
        have hcz10_4 : wr.cell? ⟨gb167, 4, none⟩ = some (.int .i64 a0_4) := (blk_cell BK167.out 4).trans rfl
        have hcz10_5 : wr.cell? ⟨gb167, 5, none⟩ = some (.int .i64 a0_5) := (blk_cell BK167.out 5).trans rfl
        have hcz10_6 : wr.cell? ⟨gb167, 6, none⟩ = some (.slice A0_6 l0_6.length c0_6) := (blk_cell BK167.out 6).trans rfl
        have hcz10_7 : wr.cell? ⟨gb167, 7, none⟩ = some (.bool a0_7) := (blk_cell BK167.out 7).trans rfl
        have hfz10_0 := blk_frozen BK167.out 0
        have hfz10_1 := blk_frozen BK167.out 1
        have hfz10_2 := blk_frozen BK167.out 2
        have hfz10_3 := blk_frozen BK167.out 3
        have hfz10_4 := blk_frozen BK167.out 4
        have hfz10_5 := blk_frozen BK167.out 5
        have hfz10_6 := blk_frozen BK167.out 6
        have hfz10_7 := blk_frozen BK167.out 7
        have p168 : 0 ≤ ((ji6) : Int) := of_decide_eq_true z204_
        have q168 : (ji6) < (l0_6.length : Int) := of_decide_eq_true z204_
        obtain ⟨ad168, e168, hx168_0, hx168_1, hx168_2⟩ := at_T134 HR0_6.out (ji6) p168 q168
        cases e168
        replace hx168_0 := (HB.out.cell (World.block_lt_of_cell? w _ hx168_0)).trans hx168_0
        replace hx168_1 := (HB.out.cell (World.block_lt_of_cell? w _ hx168_1)).trans hx168_1
        replace hx168_2 := (HB.out.cell (World.block_lt_of_cell? w _ hx168_2)).trans hx168_2
        replace p168 := eq_true p168
        replace q168 := eq_true q168
        go_wp2
        repeat (go_quiet (fail); try go_wp2)
        go_roundg k1
        case measure => have := HK1.out; omega
        case rel => exact ⟨(wrap64 ((ji6) + 1)), (x6_1), z182_, z208_, H', ⟨z218_⟩, ⟨z138_⟩, ⟨z93_⟩⟩
      rw [if_neg c5] at H
      have c5b0 : decide (x5_1 < x6_1) = false := decide_eq_false c5
      clear c5
      by_cases c12 : x5_1 < (l0_6.length : Int)
      rotate_left
      · rw [if_neg c12] at H
        have c12b0 : decide (x5_1 < (l0_6.length : Int)) = false := decide_eq_false c12
        clear c12
        obtain rfl := Option.some.inj H
        have hcz17_0 : wr.cell? ⟨gb167, 0, none⟩ = some (.int .i64 a0_0) := (blk_cell BK167.out 0).trans rfl
        have hcz17_1 : wr.cell? ⟨gb167, 1, none⟩ = some (.int .i64 a0_1) := (blk_cell BK167.out 1).trans rfl
        have hcz17_2 : wr.cell? ⟨gb167, 2, none⟩ = some (.int .i64 a0_2) := (blk_cell BK167.out 2).trans rfl
        have hcz17_3 : wr.cell? ⟨gb167, 3, none⟩ = some (.int .i64 a0_3) := (blk_cell BK167.out 3).trans rfl
        have hcz17_4 : wr.cell? ⟨gb167, 4, none⟩ = some (.int .i64 a0_4) := (blk_cell BK167.out 4).trans rfl
        have hcz17_5 : wr.cell? ⟨gb167, 5, none⟩ = some (.int .i64 a0_5) := (blk_cell BK167.out 5).trans rfl
        have hcz17_6 : wr.cell? ⟨gb167, 6, none⟩ = some (.slice A0_6 l0_6.length c0_6) := (blk_cell BK167.out 6).trans rfl
        have hcz17_7 : wr.cell? ⟨gb167, 7, none⟩ = some (.bool a0_7) := (blk_cell BK167.out 7).trans rfl
        have hfz17_0 := blk_frozen BK167.out 0
        have hfz17_1 := blk_frozen BK167.out 1
        have hfz17_2 := blk_frozen BK167.out 2
        have hfz17_3 := blk_frozen BK167.out 3
        have hfz17_4 := blk_frozen BK167.out 4
        have hfz17_5 := blk_frozen BK167.out 5
        have hfz17_6 := blk_frozen BK167.out 6
        have hfz17_7 := blk_frozen BK167.out 7
        go_wp2
        repeat (go_quiet (fail); try go_wp2)
        go_ret
        exact ⟨z178_, z93_⟩
      rw [if_pos c12] at H
      have c12b0 : decide (x5_1 < (l0_6.length : Int)) = true := decide_eq_true c12
      clear c12
      by_cases c13 : 0 ≤ x5_1
      rotate_left
      · rw [if_neg c13] at H
        exact absurd H (by simp)
      rw [if_pos c13] at H
      have c13b0 : decide (0 ≤ x5_1) = true := decide_eq_true c13
      clear c13
      by_cases c14 : ((rd_T134 l0_6 x5_1).f0) ≤ a1
      rotate_left
      · rw [if_neg c14] at H
        have c14b0 : decide (((rd_T134 l0_6 x5_1).f0) ≤ a1) = false := decide_eq_false c14
        clear c14
        obtain rfl := Option.some.inj H
        have hcz16_0 : wr.cell? ⟨gb167, 0, none⟩ = some (.int .i64 a0_0) := (blk_cell BK167.out 0).trans rfl
        have hcz16_1 : wr.cell? ⟨gb167, 1, none⟩ = some (.int .i64 a0_1) := (blk_cell BK167.out 1).trans rfl
        have hcz16_2 : wr.cell? ⟨gb167, 2, none⟩ = some (.int .i64 a0_2) := (blk_cell BK167.out 2).trans rfl
        have hcz16_3 : wr.cell? ⟨gb167, 3, none⟩ = some (.int .i64 a0_3) := (blk_cell BK167.out 3).trans rfl
        have hcz16_4 : wr.cell? ⟨gb167, 4, none⟩ = some (.int .i64 a0_4) := (blk_cell BK167.out 4).trans rfl
        have hcz16_5 : wr.cell? ⟨gb167, 5, none⟩ = some (.int .i64 a0_5) := (blk_cell BK167.out 5).trans rfl
        have hcz16_6 : wr.cell? ⟨gb167, 6, none⟩ = some (.slice A0_6 l0_6.length c0_6) := (blk_cell BK167.out 6).trans rfl
        have hcz16_7 : wr.cell? ⟨gb167, 7, none⟩ = some (.bool a0_7) := (blk_cell BK167.out 7).trans rfl
        have hfz16_0 := blk_frozen BK167.out 0
        have hfz16_1 := blk_frozen BK167.out 1
        have hfz16_2 := blk_frozen BK167.out 2
        have hfz16_3 := blk_frozen BK167.out 3
        have hfz16_4 := blk_frozen BK167.out 4
        have hfz16_5 := blk_frozen BK167.out 5
        have hfz16_6 := blk_frozen BK167.out 6
        have hfz16_7 := blk_frozen BK167.out 7
        have p169 : 0 ≤ (x5_1 : Int) := of_decide_eq_true z204_
        have q169 : x5_1 < (l0_6.length : Int) := of_decide_eq_true z204_
        obtain ⟨ad169, e169, hx169_0, hx169_1, hx169_2⟩ := at_T134 HR0_6.out x5_1 p169 q169
        cases e169
        replace hx169_0 := (HB.out.cell (World.block_lt_of_cell? w _ hx169_0)).trans hx169_0
        replace hx169_1 := (HB.out.cell (World.block_lt_of_cell? w _ hx169_1)).trans hx169_1
        replace hx169_2 := (HB.out.cell (World.block_lt_of_cell? w _ hx169_2)).trans hx169_2
        replace p169 := eq_true p169
        replace q169 := eq_true q169
        go_wp2
        repeat (go_quiet (fail); try go_wp2)
        go_ret
        exact ⟨z178_, z93_⟩
      rw [if_pos c14] at H
      have c14b0 : decide (((rd_T134 l0_6 x5_1).f0) ≤ a1) = true := decide_eq_true c14
      clear c14
      obtain rfl := Option.some.inj H
      have hcz15_0 : wr.cell? ⟨gb167, 0, none⟩ = some (.int .i64 a0_0) := (blk_cell BK167.out 0).trans rfl
      have hcz15_1 : wr.cell? ⟨gb167, 1, none⟩ = some (.int .i64 a0_1) := (blk_cell BK167.out 1).trans rfl
      have hcz15_2 : wr.cell? ⟨gb167, 2, none⟩ = some (.int .i64 a0_2) := (blk_cell BK167.out 2).trans rfl
      have hcz15_3 : wr.cell? ⟨gb167, 3, none⟩ = some (.int .i64 a0_3) := (blk_cell BK167.out 3).trans rfl
      have hcz15_4 : wr.cell? ⟨gb167, 4, none⟩ = some (.int .i64 a0_4) := (blk_cell BK167.out 4).trans rfl
      have hcz15_5 : wr.cell? ⟨gb167, 5, none⟩ = some (.int .i64 a0_5) := (blk_cell BK167.out 5).trans rfl
      have hcz15_6 : wr.cell? ⟨gb167, 6, none⟩ = some (.slice A0_6 l0_6.length c0_6) := (blk_cell BK167.out 6).trans rfl
      have hcz15_7 : wr.cell? ⟨gb167, 7, none⟩ = some (.bool a0_7) := (blk_cell BK167.out 7).trans rfl
      have hfz15_0 := blk_frozen BK167.out 0
      have hfz15_1 := blk_frozen BK167.out 1
      have hfz15_2 := blk_frozen BK167.out 2
      have hfz15_3 := blk_frozen BK167.out 3
      have hfz15_4 := blk_frozen BK167.out 4
      have hfz15_5 := blk_frozen BK167.out 5
      have hfz15_6 := blk_frozen BK167.out 6
      have hfz15_7 := blk_frozen BK167.out 7
      have p169 : 0 ≤ (x5_1 : Int) := of_decide_eq_true z204_
      have q169 : x5_1 < (l0_6.length : Int) := of_decide_eq_true z204_
      obtain ⟨ad169, e169, hx169_0, hx169_1, hx169_2⟩ := at_T134 HR0_6.out x5_1 p169 q169
      cases e169
      replace hx169_0 := (HB.out.cell (World.block_lt_of_cell? w _ hx169_0)).trans hx169_0
      replace hx169_1 := (HB.out.cell (World.block_lt_of_cell? w _ hx169_1)).trans hx169_1
      replace hx169_2 := (HB.out.cell (World.block_lt_of_cell? w _ hx169_2)).trans hx169_2
      replace p169 := eq_true p169
      replace q169 := eq_true q169
      have p170 : 0 ≤ (x5_1 : Int) := of_decide_eq_true z204_
      have q170 : x5_1 < (l0_6.length : Int) := of_decide_eq_true z204_
      obtain ⟨ad170, e170, hx170_0, hx170_1, hx170_2⟩ := at_T134 HR0_6.out x5_1 p170 q170
      obtain rfl : ad169 = ad170 := (by injection e170)
      replace hx170_0 := (HB.out.cell (World.block_lt_of_cell? w _ hx170_0)).trans hx170_0
      replace hx170_1 := (HB.out.cell (World.block_lt_of_cell? w _ hx170_1)).trans hx170_1
      replace hx170_2 := (HB.out.cell (World.block_lt_of_cell? w _ hx170_2)).trans hx170_2
      replace p170 := eq_true p170
      replace q170 := eq_true q170
      go_wp2
      repeat (go_quiet (fail); try go_wp2)
      go_ret
      exact ⟨z178_, z93_⟩
end Go.Proofs.Ytblmcdpfhdamjaa.PPaintWindow
