-- WRITTEN BY wip/xprint.py of this repo, over the kit's print; functions the print does not take are by hand
import Derived.Test.YtblmcdpfhdamjaaPPaintWindowx0
import Derived.Test.YtblmcdpfhdamjaaPPaintWindowx4
namespace Go.Proofs.Ytblmcdpfhdamjaa.PPaintWindow
open Go.RowKit Go.Proofs.YtblmcdpfhdamjaaW.PrintWords Go.Proofs.YtblmcdpfhdamjaaW.PrintLast Go.Proofs.YtblmcdpfhdamjaaW.PrintMore
attribute [local go_sem] max2_int min2_int max_two min_two max_three min_three max_four min_four   -- for this text's walks alone
set_option linter.unusedVariables false
set_option linter.unusedSimpArgs false
/-! ### regletref04_Check: function 38 -/
mutual
def regletref04_Check.j0 : Nat → List (S87) → Bool → Option (Int × Int)
  | 0, _, _ => none
  | k + 1, x0, x13 => if x13 = true then (some (40, 0)) else (regletref04_Check.l0 k x0 0)
def regletref04_Check.l0 : Nat → List (S87) → Int → Option (Int × Int)
  | 0, _, _ => none
  | k + 1, x0, x4 => if x4 < (x0.length : Int) then (if 0 ≤ x4 then ((regletref04_Style.f k ((rd_T87 x0 x4).f0) ((rd_T87 x0 x4).f1) ((rd_T87 x0 x4).f2) ((rd_T87 x0 x4).f3) ((rd_T87 x0 x4).f4) ((rd_T87 x0 x4).f5) ((rd_T87 x0 x4).f6) ((rd_T87 x0 x4).f7)).bind fun t114 => (if t114 = 0 then (regletref04_Check.l0 k x0 (wrap64 (x4 + 1))) else (some (t114, x4)))) else (none)) else (some (0, 0))
end
def regletref04_Check.f (k : Nat) (l0 : List (S87)) : Option (Int × Int) := if (l0.length : Int) = 0 then (regletref04_Check.j0 k l0 true) else (regletref04_Check.j0 k l0 (decide ((l0.length : Int) > 32)))
theorem regletref04_Check.mono_l : ∀ k, (∀ y0 y1, LeO (regletref04_Check.j0 k y0 y1) (regletref04_Check.j0 (k + 1) y0 y1)) ∧ (∀ y0 y1, LeO (regletref04_Check.l0 k y0 y1) (regletref04_Check.l0 (k + 1) y0 y1))
  | 0 => ⟨fun _ _ r h => by simp [regletref04_Check.j0] at h, fun _ _ r h => by simp [regletref04_Check.l0] at h⟩
  | k + 1 => by
    obtain ⟨ih0, ih1⟩ := regletref04_Check.mono_l k
    refine ⟨?_, ?_⟩
    · intro y0 y1
      unfold regletref04_Check.j0
      repeat' first | (with_reducible first | exact ih0 _ _ | exact ih1 _ _ | exact regletref04_Style.mono _ _ _ _ _ _ _ _ _ | exact LeO.refl _ | exact LeO.none _ | refine LeO.ite ?_ ?_ | refine LeO.bind ?_ (fun _ => ?_)) | exact ih0 _ _ | exact ih1 _ _ | exact regletref04_Style.mono _ _ _ _ _ _ _ _ _ | exact LeO.none _ | refine LeO.ite ?_ ?_ | refine LeO.bind ?_ (fun _ => ?_)
    · intro y0 y1
      unfold regletref04_Check.l0
      repeat' first | (with_reducible first | exact ih0 _ _ | exact ih1 _ _ | exact regletref04_Style.mono _ _ _ _ _ _ _ _ _ | exact LeO.refl _ | exact LeO.none _ | refine LeO.ite ?_ ?_ | refine LeO.bind ?_ (fun _ => ?_)) | exact ih0 _ _ | exact ih1 _ _ | exact regletref04_Style.mono _ _ _ _ _ _ _ _ _ | exact LeO.none _ | refine LeO.ite ?_ ?_ | refine LeO.bind ?_ (fun _ => ?_)
theorem regletref04_Check.mono : ∀ a0 k, LeO (regletref04_Check.f k a0) (regletref04_Check.f (k + 1) a0) := by
  intro a0 k
  obtain ⟨ih0, ih1⟩ := regletref04_Check.mono_l k
  unfold regletref04_Check.f
  repeat' first | (with_reducible first | exact ih0 _ _ | exact ih1 _ _ | exact regletref04_Style.mono _ _ _ _ _ _ _ _ _ | exact LeO.refl _ | exact LeO.none _ | refine LeO.ite ?_ ?_ | refine LeO.bind ?_ (fun _ => ?_)) | exact ih0 _ _ | exact ih1 _ _ | exact regletref04_Style.mono _ _ _ _ _ _ _ _ _ | exact LeO.none _ | refine LeO.ite ?_ ?_ | refine LeO.bind ?_ (fun _ => ?_)
set_option maxHeartbeats 8000000 in
set_option maxRecDepth 100000 in
theorem regletref04_Check.calls (k : Nat) (A0 : Option Addr) (c0 : Nat) (l0 : List (S87)) (r1 : Int) (r2 : Int) (w : World) (hr0 : Kd.C k87 w A0 l0.length l0) (hc0 : l0.length ≤ c0) (h : regletref04_Check.f k l0 = some (r1, r2)) :
    Calls Try.prog 38 #[.slice A0 l0.length c0] w fun e w' => e = .returned (.tuple #[.int .i64 r1, .int .i64 r2]) ∧ Below w.heap.size w w' := by
  have hu87 := Try.underlying87
  have HR0 := Aside0.mk hr0
  have HC0 := Aside0.mk hc0
  clear hr0 hc0
  have HB := Aside0.mk (Below.refl w.heap.size w)
  have H : (if (l0.length : Int) = 0 then (regletref04_Check.j0 k l0 true) else (regletref04_Check.j0 k l0 (decide ((l0.length : Int) > 32)))) = some (r1, r2) := h
  clear h
  have HC2 := Aside0.mk H
  clear H
  go_enter Try.func38, Try.ntmps38
  go_upto_region 1 with (fail)
  go_cut [13] (fun v13 wc => ∃ (kq : Nat) (x13_1 : Bool), v13 = .bool x13_1 ∧ Aside0 (regletref04_Check.j0 kq l0 x13_1 = some (r1, r2)) ∧ Aside0 (kq ≤ k) ∧ Aside0 (Below w.heap.size w wc))
  case first =>
    have H := HC2.out
    clear HC2
    by_cases c3 : (l0.length : Int) = 0
    rotate_left
    · rw [if_neg c3] at H
      have c3b0 : ((l0.length : Int) == 0) = false := beq_eq_false_iff_ne.mpr c3
      have c3b1 : ((l0.length : Int) != 0) = true := bne_iff_ne.mpr c3
      have c3b2 : ¬ (l0 = []) := fun h_ => c3 (by rw [h_]; rfl)
      (first | rw [c3b0] | (simp only [i64_w, i32_w]; rw [c3b0]) | skip)
      have H' := Aside0.mk H
      clear H
      go_wp2
      go_meet
      case rel => exact ⟨_, (decide ((l0.length : Int) > 32)), z208_, H', ⟨z210_⟩, ⟨z117_⟩⟩
    rw [if_pos c3] at H
    have c3b0 : ((l0.length : Int) == 0) = true := beq_iff_eq.mpr c3
    have c3b1 : ((l0.length : Int) != 0) = false := bne_eq_false_iff_eq.mpr c3
    clear c3
    (first | rw [c3b0] | (simp only [i64_w, i32_w]; rw [c3b0]) | skip)
    have H' := Aside0.mk H
    clear H
    go_wp2
    go_meet
    case rel => exact ⟨_, (true), z208_, H', ⟨z210_⟩, ⟨z117_⟩⟩
  case rest =>
    clear HC2
    try clear p2
    try clear c3
    try clear c3b0
    try clear c3b1
    try clear c3b2
    obtain ⟨kq, x13_1, rfl, HA, HJ1, HB⟩ := hcut
    cases kq with
    | zero => exact absurd HA.out (by simp [regletref04_Check.j0])
    | succ kj1 =>
      have H := HA.out
      clear HA
      simp only [regletref04_Check.j0] at H
      by_cases c4 : x13_1 = true
      · subst c4
        have H1 : (some (40, 0)) = some (r1, r2) := by rw [if_pos rfl] at H; exact H
        clear H
        have H := H1
        clear H1
        simp only [Option.some.injEq, Prod.mk.injEq] at H
        obtain ⟨rfl, rfl⟩ := H
        go_wp2
        go_ret2
        exact ⟨z178_, z117_⟩
      replace c4 := Bool.eq_false_iff.mpr c4
      subst c4
      have H1 : (regletref04_Check.l0 kj1 l0 0) = some (r1, r2) := by rw [if_neg (show ¬ (false = true) by decide)] at H; exact H
      clear H
      have H := H1
      clear H1
      have H' := Aside0.mk H
      clear H
      go_wp2
      go_loopg [4] kj1 (fun kq v4 w' => ∃ (x4_2 : Int), v4 = .int .i64 x4_2 ∧ Aside0 (regletref04_Check.l0 kq l0 x4_2 = some (r1, r2)) ∧ Aside0 (kq ≤ kj1) ∧ Aside0 (Below w.heap.size w w'))
      case atStart => exact ⟨(0), z208_, H', ⟨Nat.le_refl _⟩, ⟨z117_⟩⟩
      case round =>
        clear H'
        try clear p2
        try clear c3
        try clear c3b0
        try clear c3b1
        try clear c3b2
        try clear c4
        try clear p2
        obtain ⟨x4_2, rfl, HA, HK2, HB⟩ := hrel
        cases gk with
        | zero => exact absurd HA.out (by simp [regletref04_Check.l0])
        | succ k2 =>
          have H := HA.out
          clear HA
          simp only [regletref04_Check.l0] at H
          by_cases c5 : x4_2 < (l0.length : Int)
          rotate_left
          · rw [if_neg c5] at H
            have c5b0 : decide (x4_2 < (l0.length : Int)) = false := decide_eq_false c5
            clear c5
            simp only [Option.some.injEq, Prod.mk.injEq] at H
            obtain ⟨rfl, rfl⟩ := H
            go_wp2
            go_ret2
            exact ⟨z178_, z117_⟩
          rw [if_pos c5] at H
          have c5b0 : decide (x4_2 < (l0.length : Int)) = true := decide_eq_true c5
          clear c5
          by_cases c6 : 0 ≤ x4_2
          rotate_left
          · rw [if_neg c6] at H
            exact absurd H (by simp)
          rw [if_pos c6] at H
          have c6b0 : decide (0 ≤ x4_2) = true := decide_eq_true c6
          clear c6
          replace H := Option.bind_eq_some_iff.mp H
          obtain ⟨t114, A70, H⟩ := H
          replace H : (if t114 = 0 then (regletref04_Check.l0 k2 l0 (wrap64 (x4_2 + 1))) else (some (t114, x4_2))) = some (r1, r2) := H
          have A7 := Aside0.mk A70
          clear A70
          by_cases c8 : t114 = 0
          rotate_left
          · rw [if_neg c8] at H
            have c8b0 : (t114 == 0) = false := beq_eq_false_iff_ne.mpr c8
            have c8b1 : (t114 != 0) = true := bne_iff_ne.mpr c8
            simp only [Option.some.injEq, Prod.mk.injEq] at H
            obtain ⟨rfl, rfl⟩ := H
            have p113 : 0 ≤ (x4_2 : Int) := of_decide_eq_true z204_
            have q113 : x4_2 < (l0.length : Int) := of_decide_eq_true z204_
            obtain ⟨ad113, A113_6, c113_6, e113, hx113_0, hx113_1, hx113_2, hx113_3, hx113_4, hx113_5, hx113_6, hx113_7, hl113_6, hi113_6⟩ := at_T87 HR0.out x4_2 p113 q113
            cases e113
            replace hx113_0 := (HB.out.cell (World.block_lt_of_cell? w _ hx113_0)).trans hx113_0
            replace hx113_1 := (HB.out.cell (World.block_lt_of_cell? w _ hx113_1)).trans hx113_1
            replace hx113_2 := (HB.out.cell (World.block_lt_of_cell? w _ hx113_2)).trans hx113_2
            replace hx113_3 := (HB.out.cell (World.block_lt_of_cell? w _ hx113_3)).trans hx113_3
            replace hx113_4 := (HB.out.cell (World.block_lt_of_cell? w _ hx113_4)).trans hx113_4
            replace hx113_5 := (HB.out.cell (World.block_lt_of_cell? w _ hx113_5)).trans hx113_5
            replace hx113_6 := (HB.out.cell (World.block_lt_of_cell? w _ hx113_6)).trans hx113_6
            replace hx113_7 := (HB.out.cell (World.block_lt_of_cell? w _ hx113_7)).trans hx113_7
            have HR113_6 := Aside0.mk hi113_6
            have HC113_6 := Aside0.mk hl113_6
            clear hi113_6 hl113_6
            replace p113 := eq_true p113
            replace q113 := eq_true q113
            go_wp2_with (first | ((with_reducible refine gate_callee (f := 69) rfl ?_); refine goesL_ (some 24) rfl rfl Try.func69 (by kernel_rfl) rfl #[.agg #[.int .i64 ((rd_T87 l0 x4_2).f0), .int .i64 ((rd_T87 l0 x4_2).f1), .int .i64 ((rd_T87 l0 x4_2).f2), .int .i64 ((rd_T87 l0 x4_2).f3), .int .i64 ((rd_T87 l0 x4_2).f4), .int .i64 ((rd_T87 l0 x4_2).f5), .slice A113_6 ((rd_T87 l0 x4_2).f6).length c113_6, .bool ((rd_T87 l0 x4_2).f7)]] rfl z113_ ?_; (with_reducible refine (regletref04_Style.calls k2 ((rd_T87 l0 x4_2).f0) ((rd_T87 l0 x4_2).f1) ((rd_T87 l0 x4_2).f2) ((rd_T87 l0 x4_2).f3) ((rd_T87 l0 x4_2).f4) ((rd_T87 l0 x4_2).f5) _ _ ((rd_T87 l0 x4_2).f6) ((rd_T87 l0 x4_2).f7) t114 _ ?side1 ?side2 A7.out).mono ?_); (case side1 => exact z74_); (case side2 => exact HC113_6.out); rintro e w10 ⟨rfl, hb⟩; refine ⟨_, rfl, ?_⟩; replace HB := Aside0.mk (below_step z117_ hb); (try clear hb); (try clear hb2); (try clear hk); (try clear hi)))
            go_ret2
            exact ⟨z178_, z117_⟩
          rw [if_pos c8] at H
          have c8b0 : (t114 == 0) = true := beq_iff_eq.mpr c8
          have c8b1 : (t114 != 0) = false := bne_eq_false_iff_eq.mpr c8
          clear c8
          have H' := Aside0.mk H
          clear H
          have p113 : 0 ≤ (x4_2 : Int) := of_decide_eq_true z204_
          have q113 : x4_2 < (l0.length : Int) := of_decide_eq_true z204_
          obtain ⟨ad113, A113_6, c113_6, e113, hx113_0, hx113_1, hx113_2, hx113_3, hx113_4, hx113_5, hx113_6, hx113_7, hl113_6, hi113_6⟩ := at_T87 HR0.out x4_2 p113 q113
          cases e113
          replace hx113_0 := (HB.out.cell (World.block_lt_of_cell? w _ hx113_0)).trans hx113_0
          replace hx113_1 := (HB.out.cell (World.block_lt_of_cell? w _ hx113_1)).trans hx113_1
          replace hx113_2 := (HB.out.cell (World.block_lt_of_cell? w _ hx113_2)).trans hx113_2
          replace hx113_3 := (HB.out.cell (World.block_lt_of_cell? w _ hx113_3)).trans hx113_3
          replace hx113_4 := (HB.out.cell (World.block_lt_of_cell? w _ hx113_4)).trans hx113_4
          replace hx113_5 := (HB.out.cell (World.block_lt_of_cell? w _ hx113_5)).trans hx113_5
          replace hx113_6 := (HB.out.cell (World.block_lt_of_cell? w _ hx113_6)).trans hx113_6
          replace hx113_7 := (HB.out.cell (World.block_lt_of_cell? w _ hx113_7)).trans hx113_7
          have HR113_6 := Aside0.mk hi113_6
          have HC113_6 := Aside0.mk hl113_6
          clear hi113_6 hl113_6
          replace p113 := eq_true p113
          replace q113 := eq_true q113
          go_wp2_with (first | ((with_reducible refine gate_callee (f := 69) rfl ?_); refine goesL_ (some 24) rfl rfl Try.func69 (by kernel_rfl) rfl #[.agg #[.int .i64 ((rd_T87 l0 x4_2).f0), .int .i64 ((rd_T87 l0 x4_2).f1), .int .i64 ((rd_T87 l0 x4_2).f2), .int .i64 ((rd_T87 l0 x4_2).f3), .int .i64 ((rd_T87 l0 x4_2).f4), .int .i64 ((rd_T87 l0 x4_2).f5), .slice A113_6 ((rd_T87 l0 x4_2).f6).length c113_6, .bool ((rd_T87 l0 x4_2).f7)]] rfl z113_ ?_; (with_reducible refine (regletref04_Style.calls k2 ((rd_T87 l0 x4_2).f0) ((rd_T87 l0 x4_2).f1) ((rd_T87 l0 x4_2).f2) ((rd_T87 l0 x4_2).f3) ((rd_T87 l0 x4_2).f4) ((rd_T87 l0 x4_2).f5) _ _ ((rd_T87 l0 x4_2).f6) ((rd_T87 l0 x4_2).f7) t114 _ ?side1 ?side2 A7.out).mono ?_); (case side1 => exact z74_); (case side2 => exact HC113_6.out); rintro e w9 ⟨rfl, hb⟩; refine ⟨_, rfl, ?_⟩; replace HB := Aside0.mk (below_step z117_ hb); (try clear hb); (try clear hb2); (try clear hk); (try clear hi)))
          go_roundg k2
          case measure => have := HJ1.out; have := HK2.out; omega
          case rel => exact ⟨(wrap64 (x4_2 + 1)), z208_, H', ⟨by have := HJ1.out; have := HK2.out; omega⟩, ⟨z117_⟩⟩
/-! ### metrics_unit: function 88 -/
def metrics_unit.f (a0 : Int) (a1 : Int) : Option (Bool) := if a0 ≥ a1 then (some (decide (a0 ≤ 1048576))) else (some false)
set_option maxHeartbeats 8000000 in
set_option maxRecDepth 100000 in
theorem metrics_unit.calls (a0 : Int) (a1 : Int) (r : Bool) (w : World) (h : metrics_unit.f a0 a1 = some r) :
    Calls Try.prog 88 #[.int .i64 a0, .int .i64 a1] w fun e w' => e = .returned (.bool r) ∧ Drawn0 w w' := by
  have H : (if a0 ≥ a1 then (some (decide (a0 ≤ 1048576))) else (some false)) = some r := h
  clear h
  by_cases c3 : a0 ≥ a1
  rotate_left
  · rw [if_neg c3] at H
    have c3b0 : decide (a1 ≤ a0) = false := decide_eq_false c3
    clear c3
    obtain rfl := Option.some.inj H
    go_enter Try.func88, Try.ntmps88
    go_wp2
    go_ret
    exact ⟨z190_, z199_⟩
  rw [if_pos c3] at H
  have c3b0 : decide (a1 ≤ a0) = true := decide_eq_true c3
  clear c3
  obtain rfl := Option.some.inj H
  go_enter Try.func88, Try.ntmps88
  go_wp2
  go_ret
  exact ⟨z190_, z199_⟩
end Go.Proofs.Ytblmcdpfhdamjaa.PPaintWindow
