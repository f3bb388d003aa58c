-- WRITTEN BY wip/xprint.py of this repo, over the kit's print; functions the print does not take are by hand
import Derived.Test.YtblmcdpfhdamjaaPPaintWindowx0
import Derived.Test.YtblmcdpfhdamjaaPPaintWindowx5
import Derived.Test.YtblmcdpfhdamjaaPPaintWindowx6
namespace Go.Proofs.Ytblmcdpfhdamjaa.PPaintWindow
open Go.RowKit Go.Proofs.YtblmcdpfhdamjaaW.PrintWords Go.Proofs.YtblmcdpfhdamjaaW.PrintLast Go.Proofs.YtblmcdpfhdamjaaW.PrintMore
attribute [local go_sem] max2_int min2_int max_two min_two max_three min_three max_four min_four   -- for this text's walks alone
set_option linter.unusedVariables false
set_option linter.unusedSimpArgs false
/-! ### metrics_New: function 39 -/
def metrics_New.l0 : Nat → List (S87) → Int → Int → List (S87) → Option ((List (S124)) × Int × Int)
  | 0, _, _, _, _ => none
  | k + 1, x19, x20, x21, x126000 => if x21 < x20 then (if 0 ≤ x21 then (if x21 < (x19.length : Int) then ((metrics_check.f k ((rd_T87 x19 x21).f0) ((rd_T87 x19 x21).f1) ((rd_T87 x19 x21).f2) ((rd_T87 x19 x21).f3) ((rd_T87 x19 x21).f4) ((rd_T87 x19 x21).f5) ((rd_T87 x19 x21).f6) ((rd_T87 x19 x21).f7)).bind fun t128 => (if t128 = 0 then ((some (([] : List (S134)) : List (S134))).bind fun y129 => (if y129.length + ((rd_T87 x19 x21).f6).length < 5864062014805 then (if x126000.length < 1759218604441 then (metrics_New.l0 k x19 x20 (wrap64 (x21 + 1)) (x126000 ++ [(⟨(rd_T87 x19 x21).f0, (rd_T87 x19 x21).f1, (rd_T87 x19 x21).f2, (rd_T87 x19 x21).f3, (rd_T87 x19 x21).f4, (rd_T87 x19 x21).f5, (y129 ++ ((rd_T87 x19 x21).f6)), (rd_T87 x19 x21).f7⟩ : S87)])) else (none)) else (none))) else (some (([] : List (S124)), t128, x21)))) else (none)) else (none)) else (some ([(⟨x126000⟩ : S124)], 0, 0))
def metrics_New.f (k : Nat) (l0 : List (S87)) : Option ((List (S124)) × Int × Int) := if (l0.length : Int) = 0 then (some (([] : List (S124)), 40, 0)) else (if (l0.length : Int) > 32 then (some (([] : List (S124)), 40, 0)) else (metrics_New.l0 k l0 (l0.length : Int) 0 ([] : List (S87))))
theorem metrics_New.mono_l : ∀ k, (∀ y0 y1 y2 y3, LeO (metrics_New.l0 k y0 y1 y2 y3) (metrics_New.l0 (k + 1) y0 y1 y2 y3))
  | 0 => fun _ _ _ _ r h => by simp [metrics_New.l0] at h
  | k + 1 => by
    have ih0 := metrics_New.mono_l k
    · intro y0 y1 y2 y3
      unfold metrics_New.l0
      repeat' first | (with_reducible first | exact ih0 _ _ _ _ | exact metrics_check.mono _ _ _ _ _ _ _ _ _ | exact LeO.refl _ | exact LeO.none _ | refine LeO.ite ?_ ?_ | refine LeO.bind ?_ (fun _ => ?_)) | exact ih0 _ _ _ _ | exact metrics_check.mono _ _ _ _ _ _ _ _ _ | exact LeO.none _ | refine LeO.ite ?_ ?_ | refine LeO.bind ?_ (fun _ => ?_)
theorem metrics_New.mono : ∀ a0 k, LeO (metrics_New.f k a0) (metrics_New.f (k + 1) a0) := by
  intro a0 k
  have ih0 := metrics_New.mono_l k
  unfold metrics_New.f
  repeat' first | (with_reducible first | exact ih0 _ _ _ _ | exact metrics_check.mono _ _ _ _ _ _ _ _ _ | exact LeO.refl _ | exact LeO.none _ | refine LeO.ite ?_ ?_ | refine LeO.bind ?_ (fun _ => ?_)) | exact ih0 _ _ _ _ | exact metrics_check.mono _ _ _ _ _ _ _ _ _ | exact LeO.none _ | refine LeO.ite ?_ ?_ | refine LeO.bind ?_ (fun _ => ?_)
def metrics_New.T11 : Bool × List (List Nat × List Nat) := (true, [([], []), ([], []), ([1], [1]), ([2], [2]), ([3], [3]), ([], []), ([5], [5]), ([4, 6], [4, 6]), ([0, 0, 1, 2, 3, 4, 5, 6, 7], [0]), ([8, 0, 1, 2, 3, 4, 5, 6, 7], [8]), ([9, 7, 7, 0, 1, 2, 3, 4, 5, 6, 7], [7, 9])])
def metrics_New.B11 : List Nat := [0, 0, 2, 6, 14, 0, 32, 126, 255, 511, 1023]
theorem metrics_New.tab11 : rtab .any (opsOf Try.f39 11) = metrics_New.T11 := by kernel_rfl
theorem metrics_New.bits11 : waitsOk metrics_New.T11.2 metrics_New.B11 = true := by kernel_rfl
set_option maxHeartbeats 8000000 in
set_option maxRecDepth 100000 in
theorem metrics_New.calls (k : Nat) (A0 : Option Addr) (c0 : Nat) (l0 : List (S87)) (r1 : List (S124)) (r2 : Int) (r3 : Int) (w : World) (hr0 : Kd.C k87 w A0 l0.length l0) (hc0 : l0.length ≤ c0) (h : metrics_New.f k l0 = some (r1, r2, r3)) :
    Calls Try.prog 39 #[.slice A0 l0.length c0] w fun e w' => ∃ v0_ : Value, e = .returned (.tuple #[ptrV v0_ r1, .int .i64 r2, .int .i64 r3]) ∧ Kd.V k124 124 w' w.heap.size (fun k_ => (w.heap.size ≤ k_)) v0_ r1 ∧ Below w.heap.size w w' := by
  have hu124 := Try.underlying124
  have hu87 := Try.underlying87
  have HR0 := Aside0.mk hr0
  have HC0 := Aside0.mk hc0
  clear hr0 hc0
  have HB := Aside0.mk (Below.refl w.heap.size w)
  have H : (if (l0.length : Int) = 0 then (some (([] : List (S124)), 40, 0)) else (if (l0.length : Int) > 32 then (some (([] : List (S124)), 40, 0)) else (metrics_New.l0 k l0 (l0.length : Int) 0 ([] : List (S87))))) = some (r1, r2, r3) := h
  clear h
  by_cases c2 : (l0.length : Int) = 0
  · rw [if_pos c2] at H
    have c2b0 : ((l0.length : Int) == 0) = true := beq_iff_eq.mpr c2
    have c2b1 : ((l0.length : Int) != 0) = false := bne_eq_false_iff_eq.mpr c2
    clear c2
    simp only [Option.some.injEq, Prod.mk.injEq] at H
    obtain ⟨rfl, rfl, rfl⟩ := H
    go_enter Try.func39, Try.ntmps39
    go_wp2
    go_ret3
    exact ⟨(.slice none 0 0), z178_, Kd.V_nil _ _ _ _ _, z117_⟩
  rw [if_neg c2] at H
  have c2b0 : ((l0.length : Int) == 0) = false := beq_eq_false_iff_ne.mpr c2
  have c2b1 : ((l0.length : Int) != 0) = true := bne_iff_ne.mpr c2
  have c2b2 : ¬ (l0 = []) := fun h_ => c2 (by rw [h_]; rfl)
  by_cases c3 : (l0.length : Int) > 32
  · rw [if_pos c3] at H
    have c3b0 : decide (32 < (l0.length : Int)) = true := decide_eq_true c3
    have c3b1 : decide (32 < l0.length) = true := decide_eq_true (by omega)
    clear c3
    simp only [Option.some.injEq, Prod.mk.injEq] at H
    obtain ⟨rfl, rfl, rfl⟩ := H
    go_enter Try.func39, Try.ntmps39
    go_wp2
    go_ret3
    exact ⟨(.slice none 0 0), z178_, Kd.V_nil _ _ _ _ _, z117_⟩
  rw [if_neg c3] at H
  have c3b0 : decide (32 < (l0.length : Int)) = false := decide_eq_false c3
  have c3b1 : decide (32 < l0.length) = false := decide_eq_false (by omega)
  clear c3
  have H' := Aside0.mk H
  clear H
  go_enter Try.func39, Try.ntmps39
  go_wp2_with (first | ((with_reducible refine gate_dst (N := 18) rfl ?_); (try (refine gate_guard (by rfl) ?_; dsimp only)); refine box_event ?hg (N := 18) ?hd (cs := #[.slice none 0 0]) (t := 124) ?hr ?_; (case hd => rfl); (case hg => rfl); (case hr => exact z209_); intro gb125 hg w4 hbox hb; have BK125 := Aside0.mk (hbox); have GW125 := Aside0.mk ((z85_ : w.heap.size ≤ gb125)); have GE125 := Aside0.mk ((z85_ : w.heap.size ≤ gb125)); replace HB := Aside0.mk (below_step z117_ hb); clear hb hbox hg))
  go_loopg [21] k (fun kq v21 w' => ∃ (x21_1 : Int) (x126000_1 : List (S87)) (u126000 : Value), v21 = .int .i64 x21_1 ∧ Aside0 (metrics_New.l0 kq l0 (l0.length : Int) x21_1 x126000_1 = some (r1, r2, r3)) ∧ Aside0 (kq ≤ k) ∧ Aside0 (Kd.S k87 87 w' w.heap.size (fun k_ => (w.heap.size ≤ k_)) u126000 x126000_1) ∧ Aside0 (w'.heap[gb125]? = some (.cells #[u126000] 124 (0, 0))) ∧ Aside0 (Below w.heap.size w w'))
  case atStart => exact ⟨(0), (([] : List (S87))), (.slice none 0 0), z208_, H', ⟨Nat.le_refl _⟩, ⟨by first | exact Kd.S_nil _ _ _ _ _ | exact Kd.N_nil _ _ _ _ _ | exact Kd.V_nil _ _ _ _ _ | exact Kd.Q_nil _ _ _ _ _ | exact Kd.R_nil _ _ _ _ _⟩, ⟨z134_⟩, ⟨z88_⟩⟩
  case round =>
    clear H'
    try clear c2
    try clear c2b0
    try clear c2b1
    try clear c2b2
    try clear p2
    try clear c3
    try clear c3b0
    try clear c3b1
    obtain ⟨x21_1, x126000_1, u126000, rfl, HA, HK1, HO_126000, BK125, HB⟩ := hrel
    cases gk with
    | zero => exact absurd HA.out (by simp [metrics_New.l0])
    | succ k1 =>
      have H := HA.out
      clear HA
      simp only [metrics_New.l0] at H
      by_cases c5 : x21_1 < (l0.length : Int)
      rotate_left
      · rw [if_neg c5] at H
        have c5b0 : decide (x21_1 < (l0.length : Int)) = false := decide_eq_false c5
        clear c5
        simp only [Option.some.injEq, Prod.mk.injEq] at H
        obtain ⟨rfl, rfl, rfl⟩ := H
        obtain ⟨Ao31, co31, eo31⟩ := Kd.S_slice HO_126000.out
        subst eo31
        go_wp2
        go_ret3
        exact ⟨(.slice (some ⟨gb125, 0, none⟩) ([(⟨x126000_1⟩ : S124)] : List _).length 1), z178_, by (with_reducible repeat (first | apply Kd.V_alloc | apply Kd.V_drewN | apply Kd.V_drew)); exact Kd.V_mono (ptr_box z134_ rfl (k124_mkF _ _ (⟨x126000_1⟩ : S124) (Kd.S_reads' (Kd.S_mono (ok' := fun k_ => (w.heap.size ≤ k_)) (HO_126000.out) (fun k_ hk => hk))).2.1 (Kd.S_F (Kd.S_mono (ok' := fun k_ => (w.heap.size ≤ k_)) (HO_126000.out) (fun k_ hk => hk))))) (fun k_ hk => Or.elim hk (fun e_ => e_ ▸ GW125.out) (fun h_ => h_)), z88_⟩
      rw [if_pos c5] at H
      have c5b0 : decide (x21_1 < (l0.length : Int)) = true := decide_eq_true c5
      clear c5
      by_cases c6 : 0 ≤ x21_1
      rotate_left
      · rw [if_neg c6] at H
        exact absurd H (by simp)
      rw [if_pos c6] at H
      have c6b0 : decide (0 ≤ x21_1) = true := decide_eq_true c6
      clear c6
      by_cases c7 : x21_1 < (l0.length : Int)
      rotate_left
      · rw [if_neg c7] at H
        exact absurd H (by simp)
      rw [if_pos c7] at H
      have c7b0 : decide (x21_1 < (l0.length : Int)) = true := decide_eq_true c7
      clear c7
      replace H := Option.bind_eq_some_iff.mp H
      obtain ⟨t128, A80, H⟩ := H
      replace H : (if t128 = 0 then ((some (([] : List (S134)) : List (S134))).bind fun y129 => (if y129.length + ((rd_T87 l0 x21_1).f6).length < 5864062014805 then (if x126000_1.length < 1759218604441 then (metrics_New.l0 k1 l0 (l0.length : Int) (wrap64 (x21_1 + 1)) (x126000_1 ++ [(⟨(rd_T87 l0 x21_1).f0, (rd_T87 l0 x21_1).f1, (rd_T87 l0 x21_1).f2, (rd_T87 l0 x21_1).f3, (rd_T87 l0 x21_1).f4, (rd_T87 l0 x21_1).f5, (y129 ++ ((rd_T87 l0 x21_1).f6)), (rd_T87 l0 x21_1).f7⟩ : S87)])) else (none)) else (none))) else (some (([] : List (S124)), t128, x21_1))) = some (r1, r2, r3) := H
      have A8 := Aside0.mk A80
      clear A80
      by_cases c9 : t128 = 0
      rotate_left
      · rw [if_neg c9] at H
        have c9b0 : (t128 == 0) = false := beq_eq_false_iff_ne.mpr c9
        have c9b1 : (t128 != 0) = true := bne_iff_ne.mpr c9
        simp only [Option.some.injEq, Prod.mk.injEq] at H
        obtain ⟨rfl, rfl, rfl⟩ := H
        have p126 : 0 ≤ (x21_1 : Int) := of_decide_eq_true z204_
        have q126 : x21_1 < (l0.length : Int) := of_decide_eq_true z204_
        obtain ⟨ad126, A126_6, c126_6, e126, hx126_0, hx126_1, hx126_2, hx126_3, hx126_4, hx126_5, hx126_6, hx126_7, hl126_6, hi126_6⟩ := at_T87 HR0.out x21_1 p126 q126
        cases e126
        replace hx126_0 := (HB.out.cell (World.block_lt_of_cell? w _ hx126_0)).trans hx126_0
        replace hx126_1 := (HB.out.cell (World.block_lt_of_cell? w _ hx126_1)).trans hx126_1
        replace hx126_2 := (HB.out.cell (World.block_lt_of_cell? w _ hx126_2)).trans hx126_2
        replace hx126_3 := (HB.out.cell (World.block_lt_of_cell? w _ hx126_3)).trans hx126_3
        replace hx126_4 := (HB.out.cell (World.block_lt_of_cell? w _ hx126_4)).trans hx126_4
        replace hx126_5 := (HB.out.cell (World.block_lt_of_cell? w _ hx126_5)).trans hx126_5
        replace hx126_6 := (HB.out.cell (World.block_lt_of_cell? w _ hx126_6)).trans hx126_6
        replace hx126_7 := (HB.out.cell (World.block_lt_of_cell? w _ hx126_7)).trans hx126_7
        have HR126_6 := Aside0.mk hi126_6
        have HC126_6 := Aside0.mk hl126_6
        clear hi126_6 hl126_6
        replace p126 := eq_true p126
        replace q126 := eq_true q126
        go_wp2_with (first | ((with_reducible refine gate_dst (N := 7) rfl ?_); (try (refine gate_guard (by rfl) ?_; dsimp only)); refine box_event ?hg (N := 7) ?hd (cs := #[.int .i64 0, .int .i64 0, .int .i64 0, .int .i64 0, .int .i64 0, .int .i64 0, .slice none 0 0, .bool false]) (t := 87) ?hr ?_; (case hd => rfl); (case hg => rfl); (case hr => exact z209_); intro gb127 hg w27 hbox hb; replace HO_126000 := Aside0.mk (Kd.S_below (Kd.S_elderB z156_ gb127 (Nat.le_of_eq hg.symm)) hb); have BK127 := Aside0.mk (hbox); have GW127 := Aside0.mk ((z59_ : w.heap.size ≤ gb127)); have GE127 := Aside0.mk ((z59_ : w.heap.size ≤ gb127)); replace HB := Aside0.mk (below_step z88_ hb); have NB125_127 := Aside0.mk ((z50_ : gb125 ≠ gb127)); have NB127_125 := Aside0.mk ((z49_ : gb127 ≠ gb125)); replace BK125 := Aside0.mk (blk_below (g := gb125) (o := .cells #[u126000] 124 (0, 0)) z134_ hb); clear hb hbox hg; have hnb28 := NB127_125.out; have hnc28 := NB125_127.out; have hcz29_0 : w27.cell? ⟨gb127, 0, none⟩ = some (.int .i64 0) := (blk_cell BK127.out 0).trans rfl; have hcz29_1 : w27.cell? ⟨gb127, 1, none⟩ = some (.int .i64 0) := (blk_cell BK127.out 1).trans rfl; have hcz29_2 : w27.cell? ⟨gb127, 2, none⟩ = some (.int .i64 0) := (blk_cell BK127.out 2).trans rfl; have hcz29_3 : w27.cell? ⟨gb127, 3, none⟩ = some (.int .i64 0) := (blk_cell BK127.out 3).trans rfl; have hcz29_4 : w27.cell? ⟨gb127, 4, none⟩ = some (.int .i64 0) := (blk_cell BK127.out 4).trans rfl; have hcz29_5 : w27.cell? ⟨gb127, 5, none⟩ = some (.int .i64 0) := (blk_cell BK127.out 5).trans rfl; have hcz29_6 : w27.cell? ⟨gb127, 6, none⟩ = some (.slice none 0 0) := (blk_cell BK127.out 6).trans rfl; have hcz29_7 : w27.cell? ⟨gb127, 7, none⟩ = some (.bool false) := (blk_cell BK127.out 7).trans rfl; have hfz29_0 := blk_frozen BK127.out 0; have hfz29_1 := blk_frozen BK127.out 1; have hfz29_2 := blk_frozen BK127.out 2; have hfz29_3 := blk_frozen BK127.out 3; have hfz29_4 := blk_frozen BK127.out 4; have hfz29_5 := blk_frozen BK127.out 5; have hfz29_6 := blk_frozen BK127.out 6; have hfz29_7 := blk_frozen BK127.out 7) | ((with_reducible refine gate_callee (f := 70) rfl ?_); refine goesL_ (some 27) rfl rfl Try.func70 (by kernel_rfl) rfl #[.agg #[.int .i64 ((rd_T87 l0 x21_1).f0), .int .i64 ((rd_T87 l0 x21_1).f1), .int .i64 ((rd_T87 l0 x21_1).f2), .int .i64 ((rd_T87 l0 x21_1).f3), .int .i64 ((rd_T87 l0 x21_1).f4), .int .i64 ((rd_T87 l0 x21_1).f5), .slice A126_6 ((rd_T87 l0 x21_1).f6).length c126_6, .bool ((rd_T87 l0 x21_1).f7)]] rfl z113_ ?_; (with_reducible refine (metrics_check.calls k1 ((rd_T87 l0 x21_1).f0) ((rd_T87 l0 x21_1).f1) ((rd_T87 l0 x21_1).f2) ((rd_T87 l0 x21_1).f3) ((rd_T87 l0 x21_1).f4) ((rd_T87 l0 x21_1).f5) _ _ ((rd_T87 l0 x21_1).f6) ((rd_T87 l0 x21_1).f7) t128 _ ?side1 ?side2 A8.out).mono ?_); (case side1 => exact z36_); (case side2 => exact HC126_6.out); rintro e w30 ⟨rfl, hb⟩; refine ⟨_, rfl, ?_⟩; replace HO_126000 := Aside0.mk (Kd.S_below z3_ hb); replace BK125 := Aside0.mk (blk_below (g := gb125) (o := .cells #[u126000] 124 (0, 0)) z2_ hb); replace BK127 := Aside0.mk (blk_below (g := gb127) (o := .cells #[.int .i64 ((rd_T87 l0 x21_1).f0), .int .i64 ((rd_T87 l0 x21_1).f1), .int .i64 ((rd_T87 l0 x21_1).f2), .int .i64 ((rd_T87 l0 x21_1).f3), .int .i64 ((rd_T87 l0 x21_1).f4), .int .i64 ((rd_T87 l0 x21_1).f5), .slice A126_6 ((rd_T87 l0 x21_1).f6).length c126_6, .bool ((rd_T87 l0 x21_1).f7)] 87 (0, 0)) z0_ hb); replace HB := Aside0.mk (below_step z66_ hb); (try clear hb); (try clear hb2); (try clear hk); (try clear hi)))
        go_ret3
        exact ⟨(.slice none 0 0), z178_, Kd.V_nil _ _ _ _ _, z66_⟩
      rw [if_pos c9] at H
      have c9b0 : (t128 == 0) = true := beq_iff_eq.mpr c9
      have c9b1 : (t128 != 0) = false := bne_eq_false_iff_eq.mpr c9
      clear c9
      obtain ⟨y129, hy129⟩ : ∃ y_ : List (S134), y_ = (([] : List (S134))) := ⟨_, rfl⟩
      replace H : (if y129.length + ((rd_T87 l0 x21_1).f6).length < 5864062014805 then (if x126000_1.length < 1759218604441 then (metrics_New.l0 k1 l0 (l0.length : Int) (wrap64 (x21_1 + 1)) (x126000_1 ++ [(⟨(rd_T87 l0 x21_1).f0, (rd_T87 l0 x21_1).f1, (rd_T87 l0 x21_1).f2, (rd_T87 l0 x21_1).f3, (rd_T87 l0 x21_1).f4, (rd_T87 l0 x21_1).f5, (y129 ++ ((rd_T87 l0 x21_1).f6)), (rd_T87 l0 x21_1).f7⟩ : S87)])) else (none)) else (none)) = some (r1, r2, r3) := by first | (rw [hy129]; with_reducible exact H) | (have H2_ := (Option.bind_some _ _).symm.trans H; rw [hy129]; with_reducible exact H2_) | (have H2_ := (Option.bind_some _ _).symm.trans H; with_reducible exact H2_) | with_reducible exact H | (rw [hy129]; exact H) | exact H
      have Ny129 := Aside0.mk hy129
      clear hy129
      by_cases c10 : y129.length + ((rd_T87 l0 x21_1).f6).length < 5864062014805
      rotate_left
      · rw [if_neg c10] at H
        exact absurd H (by simp)
      rw [if_pos c10] at H
      have LMc10 := Aside0.mk c10
      clear c10
      obtain ⟨y132, hy132⟩ : ∃ y_ : List (S134), y_ = (y129 ++ ((rd_T87 l0 x21_1).f6)) := ⟨_, rfl⟩
      replace H : (if x126000_1.length < 1759218604441 then (metrics_New.l0 k1 l0 (l0.length : Int) (wrap64 (x21_1 + 1)) (x126000_1 ++ [(⟨(rd_T87 l0 x21_1).f0, (rd_T87 l0 x21_1).f1, (rd_T87 l0 x21_1).f2, (rd_T87 l0 x21_1).f3, (rd_T87 l0 x21_1).f4, (rd_T87 l0 x21_1).f5, y132, (rd_T87 l0 x21_1).f7⟩ : S87)])) else (none)) = some (r1, r2, r3) := by first | (rw [hy132]; with_reducible exact H) | (have H2_ := (Option.bind_some _ _).symm.trans H; rw [hy132]; with_reducible exact H2_) | (have H2_ := (Option.bind_some _ _).symm.trans H; with_reducible exact H2_) | with_reducible exact H | (rw [hy132]; exact H) | exact H
      have Ny132 := Aside0.mk hy132
      clear hy132
      by_cases c11 : x126000_1.length < 1759218604441
      rotate_left
      · rw [if_neg c11] at H
        exact absurd H (by simp)
      rw [if_pos c11] at H
      have LMc11 := Aside0.mk c11
      clear c11
      obtain ⟨y135, hy135⟩ : ∃ y_ : List (S87), y_ = (x126000_1 ++ [(⟨(rd_T87 l0 x21_1).f0, (rd_T87 l0 x21_1).f1, (rd_T87 l0 x21_1).f2, (rd_T87 l0 x21_1).f3, (rd_T87 l0 x21_1).f4, (rd_T87 l0 x21_1).f5, y132, (rd_T87 l0 x21_1).f7⟩ : S87)]) := ⟨_, rfl⟩
      replace H : (metrics_New.l0 k1 l0 (l0.length : Int) (wrap64 (x21_1 + 1)) y135) = some (r1, r2, r3) := by first | (rw [hy135]; with_reducible exact H) | (have H2_ := (Option.bind_some _ _).symm.trans H; rw [hy135]; with_reducible exact H2_) | (have H2_ := (Option.bind_some _ _).symm.trans H; with_reducible exact H2_) | with_reducible exact H | (rw [hy135]; exact H) | exact H
      have Ny135 := Aside0.mk hy135
      clear hy135
      have H' := Aside0.mk H
      clear H
      have p126 : 0 ≤ (x21_1 : Int) := of_decide_eq_true z204_
      have q126 : x21_1 < (l0.length : Int) := of_decide_eq_true z204_
      obtain ⟨ad126, A126_6, c126_6, e126, hx126_0, hx126_1, hx126_2, hx126_3, hx126_4, hx126_5, hx126_6, hx126_7, hl126_6, hi126_6⟩ := at_T87 HR0.out x21_1 p126 q126
      cases e126
      replace hx126_0 := (HB.out.cell (World.block_lt_of_cell? w _ hx126_0)).trans hx126_0
      replace hx126_1 := (HB.out.cell (World.block_lt_of_cell? w _ hx126_1)).trans hx126_1
      replace hx126_2 := (HB.out.cell (World.block_lt_of_cell? w _ hx126_2)).trans hx126_2
      replace hx126_3 := (HB.out.cell (World.block_lt_of_cell? w _ hx126_3)).trans hx126_3
      replace hx126_4 := (HB.out.cell (World.block_lt_of_cell? w _ hx126_4)).trans hx126_4
      replace hx126_5 := (HB.out.cell (World.block_lt_of_cell? w _ hx126_5)).trans hx126_5
      replace hx126_6 := (HB.out.cell (World.block_lt_of_cell? w _ hx126_6)).trans hx126_6
      replace hx126_7 := (HB.out.cell (World.block_lt_of_cell? w _ hx126_7)).trans hx126_7
      have HR126_6 := Aside0.mk hi126_6
      have HC126_6 := Aside0.mk hl126_6
      clear hi126_6 hl126_6
      replace p126 := eq_true p126
      replace q126 := eq_true q126
      try go_wp2_with (first | ((with_reducible refine gate_dst (N := 7) rfl ?_); (try (refine gate_guard (by rfl) ?_; dsimp only)); refine box_event ?hg (N := 7) ?hd (cs := #[.int .i64 0, .int .i64 0, .int .i64 0, .int .i64 0, .int .i64 0, .int .i64 0, .slice none 0 0, .bool false]) (t := 87) ?hr ?_; (case hd => rfl); (case hg => rfl); (case hr => exact z209_); intro gb127 hg w12 hbox hb; replace HO_126000 := Aside0.mk (Kd.S_below (Kd.S_elderB z156_ gb127 (Nat.le_of_eq hg.symm)) hb); have BK127 := Aside0.mk (hbox); have GW127 := Aside0.mk ((z59_ : w.heap.size ≤ gb127)); have GE127 := Aside0.mk ((z59_ : w.heap.size ≤ gb127)); replace HB := Aside0.mk (below_step z88_ hb); have NB125_127 := Aside0.mk ((z50_ : gb125 ≠ gb127)); have NB127_125 := Aside0.mk ((z49_ : gb127 ≠ gb125)); replace BK125 := Aside0.mk (blk_below (g := gb125) (o := .cells #[u126000] 124 (0, 0)) z134_ hb); clear hb hbox hg; have hnb13 := NB127_125.out; have hnc13 := NB125_127.out; have hcz14_0 : w12.cell? ⟨gb127, 0, none⟩ = some (.int .i64 0) := (blk_cell BK127.out 0).trans rfl; have hcz14_1 : w12.cell? ⟨gb127, 1, none⟩ = some (.int .i64 0) := (blk_cell BK127.out 1).trans rfl; have hcz14_2 : w12.cell? ⟨gb127, 2, none⟩ = some (.int .i64 0) := (blk_cell BK127.out 2).trans rfl; have hcz14_3 : w12.cell? ⟨gb127, 3, none⟩ = some (.int .i64 0) := (blk_cell BK127.out 3).trans rfl; have hcz14_4 : w12.cell? ⟨gb127, 4, none⟩ = some (.int .i64 0) := (blk_cell BK127.out 4).trans rfl; have hcz14_5 : w12.cell? ⟨gb127, 5, none⟩ = some (.int .i64 0) := (blk_cell BK127.out 5).trans rfl; have hcz14_6 : w12.cell? ⟨gb127, 6, none⟩ = some (.slice none 0 0) := (blk_cell BK127.out 6).trans rfl; have hcz14_7 : w12.cell? ⟨gb127, 7, none⟩ = some (.bool false) := (blk_cell BK127.out 7).trans rfl; have hfz14_0 := blk_frozen BK127.out 0; have hfz14_1 := blk_frozen BK127.out 1; have hfz14_2 := blk_frozen BK127.out 2; have hfz14_3 := blk_frozen BK127.out 3; have hfz14_4 := blk_frozen BK127.out 4; have hfz14_5 := blk_frozen BK127.out 5; have hfz14_6 := blk_frozen BK127.out 6; have hfz14_7 := blk_frozen BK127.out 7) | ((with_reducible refine gate_callee (f := 70) rfl ?_); refine goesL_ (some 27) rfl rfl Try.func70 (by kernel_rfl) rfl #[.agg #[.int .i64 ((rd_T87 l0 x21_1).f0), .int .i64 ((rd_T87 l0 x21_1).f1), .int .i64 ((rd_T87 l0 x21_1).f2), .int .i64 ((rd_T87 l0 x21_1).f3), .int .i64 ((rd_T87 l0 x21_1).f4), .int .i64 ((rd_T87 l0 x21_1).f5), .slice A126_6 ((rd_T87 l0 x21_1).f6).length c126_6, .bool ((rd_T87 l0 x21_1).f7)]] rfl z113_ ?_; (with_reducible refine (metrics_check.calls k1 ((rd_T87 l0 x21_1).f0) ((rd_T87 l0 x21_1).f1) ((rd_T87 l0 x21_1).f2) ((rd_T87 l0 x21_1).f3) ((rd_T87 l0 x21_1).f4) ((rd_T87 l0 x21_1).f5) _ _ ((rd_T87 l0 x21_1).f6) ((rd_T87 l0 x21_1).f7) t128 _ ?side1 ?side2 A8.out).mono ?_); (case side1 => exact z36_); (case side2 => exact HC126_6.out); rintro e w15 ⟨rfl, hb⟩; refine ⟨_, rfl, ?_⟩; replace HO_126000 := Aside0.mk (Kd.S_below z3_ hb); replace BK125 := Aside0.mk (blk_below (g := gb125) (o := .cells #[u126000] 124 (0, 0)) z2_ hb); replace BK127 := Aside0.mk (blk_below (g := gb127) (o := .cells #[.int .i64 ((rd_T87 l0 x21_1).f0), .int .i64 ((rd_T87 l0 x21_1).f1), .int .i64 ((rd_T87 l0 x21_1).f2), .int .i64 ((rd_T87 l0 x21_1).f3), .int .i64 ((rd_T87 l0 x21_1).f4), .int .i64 ((rd_T87 l0 x21_1).f5), .slice A126_6 ((rd_T87 l0 x21_1).f6).length c126_6, .bool ((rd_T87 l0 x21_1).f7)] 87 (0, 0)) z0_ hb); replace HB := Aside0.mk (below_step z66_ hb); (try clear hb); (try clear hb2); (try clear hk); (try clear hi)) | ((with_reducible refine gate_dst (N := 32) rfl ?_); (try (refine gate_guard (by rfl) ?_; dsimp only)); refine Kd.R_lit k134 _ 134 ?hg (N := 32) ?hd (xs := ([] : List (S134))) (inner := []) (ok := fun _ => True) (okp := fun _ => True) ?hr ?hp (fun _ hk => hk) trivial (Below.refl _ _) (Nat.le_refl _) (by simp) ?_; (case hd => rfl); (case hg => rfl); (case hr => exact z209_); (case hp => exact (Reps.none _ _)); intro v130 w16 ho17 hb hg_ hnew_; clear hg_ hnew_; (first | rw [← Ny129.out] at ho17 | (simp only [Int.reduceToNat] at ho17; rw [← Ny129.out] at ho17)); replace HO_126000 := Aside0.mk (Kd.S_elder' z156_ (Kd.R_base ho17) hb); have HO131 := Aside0.mk (Kd.R_lower (Kd.R_newM (M := fun k_ => (w.heap.size ≤ k_)) ho17 (below_size z66_) (fun k_ h_ => h_)) (below_size z66_)); replace BK125 := Aside0.mk (blk_below (g := gb125) (o := .cells #[u126000] 124 (0, 0)) z134_ hb); replace BK127 := Aside0.mk (blk_below (g := gb127) (o := .cells #[.int .i64 ((rd_T87 l0 x21_1).f0), .int .i64 ((rd_T87 l0 x21_1).f1), .int .i64 ((rd_T87 l0 x21_1).f2), .int .i64 ((rd_T87 l0 x21_1).f3), .int .i64 ((rd_T87 l0 x21_1).f4), .int .i64 ((rd_T87 l0 x21_1).f5), .slice A126_6 ((rd_T87 l0 x21_1).f6).length c126_6, .bool ((rd_T87 l0 x21_1).f7)] 87 (0, 0)) z135_ hb); replace HB := Aside0.mk (below_step z66_ hb); clear hb ho17; have hcz18_0 : w16.cell? ⟨gb127, 0, none⟩ = some (.int .i64 ((rd_T87 l0 x21_1).f0)) := (blk_cell BK127.out 0).trans rfl; have hcz18_1 : w16.cell? ⟨gb127, 1, none⟩ = some (.int .i64 ((rd_T87 l0 x21_1).f1)) := (blk_cell BK127.out 1).trans rfl; have hcz18_2 : w16.cell? ⟨gb127, 2, none⟩ = some (.int .i64 ((rd_T87 l0 x21_1).f2)) := (blk_cell BK127.out 2).trans rfl; have hcz18_3 : w16.cell? ⟨gb127, 3, none⟩ = some (.int .i64 ((rd_T87 l0 x21_1).f3)) := (blk_cell BK127.out 3).trans rfl; have hcz18_4 : w16.cell? ⟨gb127, 4, none⟩ = some (.int .i64 ((rd_T87 l0 x21_1).f4)) := (blk_cell BK127.out 4).trans rfl; have hcz18_5 : w16.cell? ⟨gb127, 5, none⟩ = some (.int .i64 ((rd_T87 l0 x21_1).f5)) := (blk_cell BK127.out 5).trans rfl; have hcz18_6 : w16.cell? ⟨gb127, 6, none⟩ = some (.slice A126_6 ((rd_T87 l0 x21_1).f6).length c126_6) := (blk_cell BK127.out 6).trans rfl; have hcz18_7 : w16.cell? ⟨gb127, 7, none⟩ = some (.bool ((rd_T87 l0 x21_1).f7)) := (blk_cell BK127.out 7).trans rfl; have hfz18_0 := blk_frozen BK127.out 0; have hfz18_1 := blk_frozen BK127.out 1; have hfz18_2 := blk_frozen BK127.out 2; have hfz18_3 := blk_frozen BK127.out 3; have hfz18_4 := blk_frozen BK127.out 4; have hfz18_5 := blk_frozen BK127.out 5; have hfz18_6 := blk_frozen BK127.out 6; have hfz18_7 := blk_frozen BK127.out 7) | ((with_reducible refine gate_builtin (b := .append) (xs := #[.tmp 32, .tmp 34]) rfl ?_); (try (refine gate_guard (by rfl) ?_; dsimp only)); at_builtin; refine Kd.R_append_rows k134 (w0 := w) w.heap.size rfl (.tmp 32) (.tmp 34) 85 134 (.agg #[(.int .i64 0), (.int .i64 0), (.int .i64 0)]) 24 rfl Try.underlying85 info134 rfl (by decide) (by omega) v130 y129 ((rd_T87 l0 x21_1).f6) _ _ _ (fun k_ => (w.heap.size ≤ k_)) (fun _ => False) rfl rfl ?aO ?aR (fun _ _ h => h) (fun _ h => h.elim) ?aF ?aB ?aS ?aL ?_; (case aR => repeat (first | exact (Kd.C_below HR126_6.out HB.out) | (with_reducible refine Kd.C_alloc ?_ _) | (with_reducible refine Kd.C_drewN ?_ _) | (with_reducible refine Kd.C_drew ?_))); (case aB => exact z51_); (case aF => exact (fun k_ hk => (Nat.le_trans (below_size z66_) hk))); (case aO => exact (by (with_reducible repeat (first | apply Kd.R_alloc | apply Kd.R_drewN | apply Kd.R_drew)); exact Kd.R_mono HO131.out (fun _ hk => hk.1))); (case aS => exact z46_); (case aL => exact z217_); intro v133 w19 ho hb hg hat; rw [← Ny132.out] at ho; have n0_ := Aside0.mk (Kd.S_after (ok := (fun k_ => (w.heap.size ≤ k_) ∧ k_ ≠ gb127)) z156_ hg hat); have n1_ := Aside0.mk (blk_grown (g := gb125) (o := .cells #[u126000] 124 (0, 0)) z134_ hg (Kd.R_ne HO131.out BK125.out (by decide))); have n2_ := Aside0.mk (blk_grown (g := gb127) (o := .cells #[.int .i64 ((rd_T87 l0 x21_1).f0), .int .i64 ((rd_T87 l0 x21_1).f1), .int .i64 ((rd_T87 l0 x21_1).f2), .int .i64 ((rd_T87 l0 x21_1).f3), .int .i64 ((rd_T87 l0 x21_1).f4), .int .i64 ((rd_T87 l0 x21_1).f5), .slice A126_6 ((rd_T87 l0 x21_1).f6).length c126_6, .bool ((rd_T87 l0 x21_1).f7)] 87 (0, 0)) z135_ hg (Kd.R_ne HO131.out BK127.out (by decide))); have n3_ := Aside0.mk (hb); have n4_ := Aside0.mk (ho); clear HO_126000; clear BK125; clear BK127; clear HB; clear HO131; have HO_126000 := n0_; have BK125 := n1_; have BK127 := n2_; have HB := n3_; have HO134 := n4_; clear n0_ n1_ n2_ n3_ n4_; clear ho hb hg hat; obtain ⟨Ao20, co20, eo20⟩ := Kd.R_slice HO134.out; subst eo20; have hcz21_0 : w19.cell? ⟨gb127, 0, none⟩ = some (.int .i64 ((rd_T87 l0 x21_1).f0)) := (blk_cell BK127.out 0).trans rfl; have hcz21_1 : w19.cell? ⟨gb127, 1, none⟩ = some (.int .i64 ((rd_T87 l0 x21_1).f1)) := (blk_cell BK127.out 1).trans rfl; have hcz21_2 : w19.cell? ⟨gb127, 2, none⟩ = some (.int .i64 ((rd_T87 l0 x21_1).f2)) := (blk_cell BK127.out 2).trans rfl; have hcz21_3 : w19.cell? ⟨gb127, 3, none⟩ = some (.int .i64 ((rd_T87 l0 x21_1).f3)) := (blk_cell BK127.out 3).trans rfl; have hcz21_4 : w19.cell? ⟨gb127, 4, none⟩ = some (.int .i64 ((rd_T87 l0 x21_1).f4)) := (blk_cell BK127.out 4).trans rfl; have hcz21_5 : w19.cell? ⟨gb127, 5, none⟩ = some (.int .i64 ((rd_T87 l0 x21_1).f5)) := (blk_cell BK127.out 5).trans rfl; have hcz21_6 : w19.cell? ⟨gb127, 6, none⟩ = some (.slice A126_6 ((rd_T87 l0 x21_1).f6).length c126_6) := (blk_cell BK127.out 6).trans rfl; have hcz21_7 : w19.cell? ⟨gb127, 7, none⟩ = some (.bool ((rd_T87 l0 x21_1).f7)) := (blk_cell BK127.out 7).trans rfl; have hfz21_0 := blk_frozen BK127.out 0; have hfz21_1 := blk_frozen BK127.out 1; have hfz21_2 := blk_frozen BK127.out 2; have hfz21_3 := blk_frozen BK127.out 3; have hfz21_4 := blk_frozen BK127.out 4; have hfz21_5 := blk_frozen BK127.out 5; have hfz21_6 := blk_frozen BK127.out 6; have hfz21_7 := blk_frozen BK127.out 7))
      have n0_ : Aside0 (Kd.S k87 87 (w19.setCell ⟨gb127, 6, none⟩ (.slice Ao20 y132.length co20)) w.heap.size (fun k_ => (w.heap.size ≤ k_) ∧ some k_ ≠ (.slice Ao20 y132.length co20 : Value).ownBlock ∧ k_ ≠ gb127) u126000 x126000_1) := ⟨by (with_reducible repeat (first | apply Kd.S_alloc | apply Kd.S_drewN | apply Kd.S_drew)); exact Kd.S_mono (Kd.S_far (p := ⟨gb127, 6, none⟩) (Kd.S_mono HO_126000.out (fun k_ hk => (⟨hk, hk.1.2⟩ : _ ∧ k_ ≠ gb127))) (fun _ hk => hk.2) (.slice Ao20 y132.length co20)) (fun _ hk => ⟨hk.1.1.1, ⟨hk.1.2, hk.1.1.2⟩⟩)⟩
      have n1_ : Aside0 (Kd.R k134 134 (w19.setCell ⟨gb127, 6, none⟩ (.slice Ao20 y132.length co20)) w.heap.size (fun k_ => (w.heap.size ≤ k_)) (.slice Ao20 y132.length co20) y132) := ⟨by (with_reducible repeat (first | apply Kd.R_alloc | apply Kd.R_drewN | apply Kd.R_drew)); exact Kd.R_mono (Kd.R_far (p := ⟨gb127, 6, none⟩) (Kd.R_types HO134.out BK127.out (by decide)) (fun _ hk => hk.2) (.slice Ao20 y132.length co20)) (fun _ hk => hk.1)⟩
      have n2_ : Aside0 ((w19.setCell ⟨gb127, 6, none⟩ (.slice Ao20 y132.length co20)).heap[gb125]? = some (.cells #[u126000] 124 (0, 0))) := ⟨by (with_reducible repeat (first | refine blk_drewN ?_ _ | refine blk_drew ?_ | refine blk_alloc ?_ _)); refine blk_far ?_ NB125_127.out _; (with_reducible repeat (first | refine blk_drewN ?_ _ | refine blk_drew ?_ | refine blk_alloc ?_ _)); exact BK125.out⟩
      have n3_ : Aside0 ((w19.setCell ⟨gb127, 6, none⟩ (.slice Ao20 y132.length co20)).heap[gb127]? = some (.cells #[.int .i64 ((rd_T87 l0 x21_1).f0), .int .i64 ((rd_T87 l0 x21_1).f1), .int .i64 ((rd_T87 l0 x21_1).f2), .int .i64 ((rd_T87 l0 x21_1).f3), .int .i64 ((rd_T87 l0 x21_1).f4), .int .i64 ((rd_T87 l0 x21_1).f5), .slice Ao20 y132.length co20, .bool ((rd_T87 l0 x21_1).f7)] 87 (0, 0))) := ⟨by (with_reducible repeat (first | refine blk_drewN ?_ _ | refine blk_drew ?_ | refine blk_alloc ?_ _)); refine blk_put (cs := #[.int .i64 ((rd_T87 l0 x21_1).f0), .int .i64 ((rd_T87 l0 x21_1).f1), .int .i64 ((rd_T87 l0 x21_1).f2), .int .i64 ((rd_T87 l0 x21_1).f3), .int .i64 ((rd_T87 l0 x21_1).f4), .int .i64 ((rd_T87 l0 x21_1).f5), .slice A126_6 ((rd_T87 l0 x21_1).f6).length c126_6, .bool ((rd_T87 l0 x21_1).f7)]) ?_ 6 _ rfl; (with_reducible repeat (first | refine blk_drewN ?_ _ | refine blk_drew ?_ | refine blk_alloc ?_ _)); exact BK127.out⟩
      have n4_ : Aside0 (Below w.heap.size w (w19.setCell ⟨gb127, 6, none⟩ (.slice Ao20 y132.length co20))) := ⟨z66_⟩
      (try clear HO_126000)
      (try clear HO134)
      (try clear BK125)
      (try clear BK127)
      (try clear HB)
      generalize (w19.setCell ⟨gb127, 6, none⟩ (.slice Ao20 y132.length co20)) = w22 at n0_ n1_ n2_ n3_ n4_ ⊢
      have HO_126000 := n0_
      have HO134 := n1_
      have BK125 := n2_
      have BK127 := n3_
      have HB := n4_
      clear n0_ n1_ n2_ n3_ n4_
      replace HO_126000 := Aside0.mk (Kd.S_drew HO_126000.out)
      replace HO134 := Aside0.mk (Kd.R_drew HO134.out)
      replace BK125 := Aside0.mk (blk_drew BK125.out)
      replace BK127 := Aside0.mk (blk_drew BK127.out)
      replace HB := Aside0.mk (below_drew1 HB.out)
      refine start_ (n := 11) (S := fun w' => w'.cell? ⟨gb125, 0, none⟩ = some (u126000) ∧ w'.cell? ⟨gb127, 0, none⟩ = some (.int .i64 ((rd_T87 l0 x21_1).f0)) ∧ w'.cell? ⟨gb127, 1, none⟩ = some (.int .i64 ((rd_T87 l0 x21_1).f1)) ∧ w'.cell? ⟨gb127, 2, none⟩ = some (.int .i64 ((rd_T87 l0 x21_1).f2)) ∧ w'.cell? ⟨gb127, 3, none⟩ = some (.int .i64 ((rd_T87 l0 x21_1).f3)) ∧ w'.cell? ⟨gb127, 4, none⟩ = some (.int .i64 ((rd_T87 l0 x21_1).f4)) ∧ w'.cell? ⟨gb127, 5, none⟩ = some (.int .i64 ((rd_T87 l0 x21_1).f5)) ∧ w'.cell? ⟨gb127, 6, none⟩ = some (.slice Ao20 y132.length co20) ∧ w'.cell? ⟨gb127, 7, none⟩ = some (.bool ((rd_T87 l0 x21_1).f7))) (ds := [10]) #[false, false, false, false, false, false, false, false, false, false, false] (by kernel_rfl) rfl rfl ⟨(blk_cell BK125.out 0).trans rfl, (blk_cell BK127.out 0).trans rfl, (blk_cell BK127.out 1).trans rfl, (blk_cell BK127.out 2).trans rfl, (blk_cell BK127.out 3).trans rfl, (blk_cell BK127.out 4).trans rfl, (blk_cell BK127.out 5).trans rfl, (blk_cell BK127.out 6).trans rfl, (blk_cell BK127.out 7).trans rfl⟩ (fun hHeld => ?_); refine with_tabW metrics_New.tab11 metrics_New.bits11 (fun HT_ HW_ => ?_)
      generalize w22.drew = w23 at HO_126000 HO134 BK125 BK127 HB hHeld ⊢
      refine p1_ 0 37 #[true, false, false, false, false, false, false, false, false, false, false] ?_
      refine p1_ 1 38 #[true, true, false, false, false, false, false, false, false, false, false] ?_
      refine p1_ 2 39 #[true, true, true, false, false, false, false, false, false, false, false] ?_
      refine p1_ 3 40 #[true, true, true, true, false, false, false, false, false, false, false] ?_
      refine take_ (i := 4) (N := some 41) (v := ?_) (a' := ?_) #[true, true, true, true, true, false, false, false, false, false, false] rfl rfl (take_ofW HT_.out HW_.out (by kernel_rfl)) (fun _ _ _ h => h) (Or.inl ⟨by rfl, ?_⟩) hHeld ?_ ?_
      rotate_left
      · rintro w' ⟨s0, s1, s2, s3, s4, s5, s6, s7, s8⟩
        go_simp
        with_reducible rfl
      rotate_left
      · simp only [Act.put, List.setIfInBounds_toArray, List.set_cons_zero, List.set_cons_succ, i64_w, i32_w]
        rfl
      refine take_ (i := 5) (N := some 42) (v := ?_) (a' := ?_) #[true, true, true, true, true, true, false, false, false, false, false] rfl rfl (take_ofW HT_.out HW_.out (by kernel_rfl)) (fun _ _ _ h => h) (Or.inl ⟨by rfl, ?_⟩) hHeld ?_ ?_
      rotate_left
      · rintro w' ⟨s0, s1, s2, s3, s4, s5, s6, s7, s8⟩
        go_simp
        with_reducible rfl
      rotate_left
      · simp only [Act.put, List.setIfInBounds_toArray, List.set_cons_zero, List.set_cons_succ, i64_w, i32_w]
        rfl
      refine one_ (i := 6) (N := some 43) #[true, true, true, true, true, true, true, false, false, false, false] rfl rfl (one_of HT_.out (by kernel_rfl)) (by decide) (fun K hK => ?_)
      refine value_ (w1 := ?_) (v := ?_) (by rfl) rfl ?_ ?_
      rotate_left 2
      · go_simp
        constructor
        · rfl
        · rfl
      refine hK.out _ _ ⟨(blk_cell (blk_alloc BK125.out _) 0).trans rfl, (blk_cell (blk_alloc BK127.out _) 0).trans rfl, (blk_cell (blk_alloc BK127.out _) 1).trans rfl, (blk_cell (blk_alloc BK127.out _) 2).trans rfl, (blk_cell (blk_alloc BK127.out _) 3).trans rfl, (blk_cell (blk_alloc BK127.out _) 4).trans rfl, (blk_cell (blk_alloc BK127.out _) 5).trans rfl, (blk_cell (blk_alloc BK127.out _) 6).trans rfl, (blk_cell (blk_alloc BK127.out _) 7).trans rfl⟩ (fun hHeld => ?_)
      clear hK K
      refine norm_ (a' := ?_) ?_ ?_
      rotate_left
      · show Act.put _ (some 43) _ = _
        simp only [Act.put, List.setIfInBounds_toArray, List.set_cons_zero, List.set_cons_succ, i64_w, i32_w]
        rfl
      refine one_ (i := 7) (N := some 44) #[true, true, true, true, true, true, true, true, false, false, false] rfl rfl (one_of HT_.out (by kernel_rfl)) (by decide) (fun K hK => ?_)
      refine Kd.S_append_step k87 (w0 := w) w.heap.size (by rfl) (.tmp 41) (.tmp 43) 22 87 (.agg #[(.int .i64 0), (.int .i64 0), (.int .i64 0), (.int .i64 0), (.int .i64 0), (.int .i64 0), (.slice none 0 0), (.bool false)]) 80 rfl Try.underlying22 info87 rfl (by decide) (by omega) u126000 x126000_1 (⟨(rd_T87 l0 x21_1).f0, (rd_T87 l0 x21_1).f1, (rd_T87 l0 x21_1).f2, (rd_T87 l0 x21_1).f3, (rd_T87 l0 x21_1).f4, (rd_T87 l0 x21_1).f5, y132, (rd_T87 l0 x21_1).f7⟩ : S87) [.int .i64 ((rd_T87 l0 x21_1).f0), .int .i64 ((rd_T87 l0 x21_1).f1), .int .i64 ((rd_T87 l0 x21_1).f2), .int .i64 ((rd_T87 l0 x21_1).f3), .int .i64 ((rd_T87 l0 x21_1).f4), .int .i64 ((rd_T87 l0 x21_1).f5), .slice Ao20 y132.length co20, .bool ((rd_T87 l0 x21_1).f7)] (fun k_ => (w.heap.size ≤ k_) ∧ k_ ≠ gb127) (fun k_ => some k_ = (.slice Ao20 y132.length co20 : Value).ownBlock) rfl rfl ?aP (fun k_ hk_ => ((Kd.R_mono (ok' := fun k_ => ((fun k_ => (w.heap.size ≤ k_) ∧ k_ ≠ gb127)) k_ ∧ some k_ ≠ (u126000 : Value).ownBlock) (Kd.R_types (Kd.R_apart' (HO134.out) (Kd.S_typed HO_126000.out) (by decide)) BK127.out (by decide)) (fun k_ hk => ⟨⟨hk.1.1, hk.2⟩, hk.1.2⟩))).1 k_ hk_.symm) ?aF ?aO ?aB ?aS ?aL ?_
      (case aP => exact k87_mkM _ _ _ (⟨(rd_T87 l0 x21_1).f0, (rd_T87 l0 x21_1).f1, (rd_T87 l0 x21_1).f2, (rd_T87 l0 x21_1).f3, (rd_T87 l0 x21_1).f4, (rd_T87 l0 x21_1).f5, y132, (rd_T87 l0 x21_1).f7⟩ : S87) (Kd.R_mono (Kd.R_tight rfl (Kd.R_mono (ok' := fun k_ => ((fun k_ => (w.heap.size ≤ k_) ∧ k_ ≠ gb127)) k_ ∧ some k_ ≠ (u126000 : Value).ownBlock) (Kd.R_types (Kd.R_apart' (HO134.out) (Kd.S_typed HO_126000.out) (by decide)) BK127.out (by decide)) (fun k_ hk => ⟨⟨hk.1.1, hk.2⟩, hk.1.2⟩))) (fun _ h_ => h_)))
      (case aB => exact z51_)
      (case aF => exact (fun k_ hk => ⟨(Nat.le_trans (below_size z66_) hk), Kd.freshB (g := gb127) (o := .cells #[.int .i64 ((rd_T87 l0 x21_1).f0), .int .i64 ((rd_T87 l0 x21_1).f1), .int .i64 ((rd_T87 l0 x21_1).f2), .int .i64 ((rd_T87 l0 x21_1).f3), .int .i64 ((rd_T87 l0 x21_1).f4), .int .i64 ((rd_T87 l0 x21_1).f5), .slice Ao20 y132.length co20, .bool ((rd_T87 l0 x21_1).f7)] 87 (0, 0)) z135_ k_ hk⟩))
      (case aO => exact (by (with_reducible repeat (first | apply Kd.S_alloc | apply Kd.S_drewN | apply Kd.S_drew)); exact Kd.S_mono HO_126000.out (fun k_ hk => ⟨⟨hk.1, hk.2.2⟩, fun e_ => hk.2.1 e_⟩)))
      (case aS => exact z46_)
      (case aL => have := LMc11.out; omega)
      intro v136 w24 ho hb hg hat
      rw [← Ny135.out] at ho
      have n0_ := Aside0.mk (blk_grown (g := gb125) (o := .cells #[u126000] 124 (0, 0)) z134_ hg (Kd.S_ne HO_126000.out BK125.out (by decide)))
      have n1_ := Aside0.mk (blk_grown (g := gb127) (o := .cells #[.int .i64 ((rd_T87 l0 x21_1).f0), .int .i64 ((rd_T87 l0 x21_1).f1), .int .i64 ((rd_T87 l0 x21_1).f2), .int .i64 ((rd_T87 l0 x21_1).f3), .int .i64 ((rd_T87 l0 x21_1).f4), .int .i64 ((rd_T87 l0 x21_1).f5), .slice Ao20 y132.length co20, .bool ((rd_T87 l0 x21_1).f7)] 87 (0, 0)) z135_ hg (Kd.S_away HO_126000.out (fun _ hk => hk.2.2)))
      have n2_ := Aside0.mk (hb)
      have n3_ := Aside0.mk (ho)
      clear BK125
      clear BK127
      clear HB
      clear HO_126000
      clear HO134
      have BK125 := n0_
      have BK127 := n1_
      have HB := n2_
      have HO137 := n3_
      clear n0_ n1_ n2_ n3_
      clear ho hb hg hat
      obtain ⟨Ao25, co25, eo25⟩ := Kd.S_slice HO137.out
      (first | subst eo25 | (injection eo25 with f1_ f2_ f3_; have f4_ := f1_.symm; have f5_ := f3_.symm; clear f1_ f2_ f3_; subst f4_; subst f5_))
      refine hK.out _ _ ⟨(blk_cell BK125.out 0).trans rfl, (blk_cell BK127.out 0).trans rfl, (blk_cell BK127.out 1).trans rfl, (blk_cell BK127.out 2).trans rfl, (blk_cell BK127.out 3).trans rfl, (blk_cell BK127.out 4).trans rfl, (blk_cell BK127.out 5).trans rfl, (blk_cell BK127.out 6).trans rfl, (blk_cell BK127.out 7).trans rfl⟩ (fun hHeld => ?_)
      clear hK K
      refine norm_ (a' := ?_) ?_ ?_
      rotate_left
      · show Act.put _ (some 44) _ = _
        simp only [Act.put, List.setIfInBounds_toArray, List.set_cons_zero, List.set_cons_succ, i64_w, i32_w]
        rfl
      refine p1_ 8 45 #[true, true, true, true, true, true, true, true, true, false, false] ?_
      refine p1_ 9 46 #[true, true, true, true, true, true, true, true, true, true, false] ?_
      refine last_ (i := 10) (N := none) #[true, true, true, true, true, true, true, true, true, true, true] rfl rfl (one_of HT_.out (by kernel_rfl)) (by decide) (fun K hK => ?_)
      have hs26 : w24.cell? ⟨gb125, 0, none⟩ = some (u126000) := (blk_cell BK125.out 0).trans rfl
      have hfs26 := blk_frozen BK125.out 0
      have hns26_1 := NB127_125.out
      have hms26_1 := NB125_127.out
      refine skip_ (w1 := ?_) (by rfl) rfl ?_ ?_
      rotate_left
      · go_simp
        rfl
      refine hK.out _ _ ?_
      clear hK K
      refine done_ (done_of HT_.out (by kernel_rfl)) ?_
      try go_wp2
      go_roundg k1
      case measure => have := HK1.out; omega
      case rel => exact ⟨(wrap64 (x21_1 + 1)), (y135), (.slice Ao25 y135.length co25), z208_, H', ⟨z218_⟩, ⟨by (with_reducible repeat (first | apply Kd.S_alloc | apply Kd.S_drewN | apply Kd.S_drew)); exact Kd.S_mono (Kd.S_far (p := ⟨gb125, 0, none⟩) (Kd.S_types HO137.out BK125.out (by decide)) (fun _ hk => hk.2) (.slice Ao25 y135.length co25)) (fun _ hk => hk.1.1)⟩, ⟨by (with_reducible repeat (first | refine blk_drewN ?_ _ | refine blk_drew ?_ | refine blk_alloc ?_ _)); refine blk_put (cs := #[u126000]) ?_ 0 _ rfl; (with_reducible repeat (first | refine blk_drewN ?_ _ | refine blk_drew ?_ | refine blk_alloc ?_ _)); exact BK125.out⟩, ⟨z66_⟩⟩
/-! ### regletlaw21_table: function 11 -/
def regletlaw21_table.f (k : Nat) (l0 : List (S87)) : Option ((List (S124))) := (regletref04_Check.f k l0).bind fun bt140 => (if bt140.1 = 0 then ((metrics_New.f k l0).bind fun bt142 => (some bt142.1)) else (some ([] : List (S124))))
theorem regletlaw21_table.mono : ∀ a0 k, LeO (regletlaw21_table.f k a0) (regletlaw21_table.f (k + 1) a0) := by
  intro a0 k
  unfold regletlaw21_table.f
  repeat' first | (with_reducible first | exact metrics_New.mono _ _ | exact regletref04_Check.mono _ _ | exact LeO.refl _ | exact LeO.none _ | refine LeO.ite ?_ ?_ | refine LeO.bind ?_ (fun _ => ?_)) | exact metrics_New.mono _ _ | exact regletref04_Check.mono _ _ | exact LeO.none _ | refine LeO.ite ?_ ?_ | refine LeO.bind ?_ (fun _ => ?_)
set_option maxHeartbeats 8000000 in
set_option maxRecDepth 100000 in
theorem regletlaw21_table.calls (k : Nat) (A0 : Option Addr) (c0 : Nat) (l0 : List (S87)) (r : List (S124)) (w : World) (hr0 : Kd.C k87 w A0 l0.length l0) (hc0 : l0.length ≤ c0) (h : regletlaw21_table.f k l0 = some r) :
    Calls Try.prog 11 #[.slice A0 l0.length c0] w fun e w' => ∃ v0_ : Value, e = .returned (ptrV v0_ r) ∧ Kd.V k124 124 w' w.heap.size (fun k_ => (w.heap.size ≤ k_)) v0_ r ∧ Below w.heap.size w w' := by
  have HR0 := Aside0.mk hr0
  have HC0 := Aside0.mk hc0
  clear hr0 hc0
  have HB := Aside0.mk (Below.refl w.heap.size w)
  have H : ((regletref04_Check.f k l0).bind fun bt140 => (if bt140.1 = 0 then ((metrics_New.f k l0).bind fun bt142 => (some bt142.1)) else (some ([] : List (S124))))) = some r := h
  clear h
  replace H := Option.bind_eq_some_iff.mp H
  obtain ⟨⟨t140, t141⟩, A20, H⟩ := H
  replace H : (if t140 = 0 then ((metrics_New.f k l0).bind fun bt142 => (some bt142.1)) else (some ([] : List (S124)))) = some r := H
  have A2 := Aside0.mk A20
  clear A20
  by_cases c3 : t140 = 0
  rotate_left
  · rw [if_neg c3] at H
    have c3b0 : (t140 == 0) = false := beq_eq_false_iff_ne.mpr c3
    have c3b1 : (t140 != 0) = true := bne_iff_ne.mpr c3
    obtain rfl := Option.some.inj H
    go_enter Try.func11, Try.ntmps11
    go_wp2_with (first | ((with_reducible refine gate_callee (f := 38) rfl ?_); refine goesL_ (some 10) rfl rfl Try.func38 (by kernel_rfl) rfl #[.slice A0 l0.length c0] rfl z113_ ?_; (with_reducible refine (regletref04_Check.calls k _ _ l0 t140 t141 _ ?side1 ?side2 A2.out).mono ?_); (case side1 => exact z107_); (case side2 => exact HC0.out); rintro e w7 ⟨rfl, hb⟩; refine ⟨_, rfl, ?_⟩; replace HB := Aside0.mk (below_step z117_ hb); (try clear hb); (try clear hb2); (try clear hk); (try clear hi)))
    go_ret
    exact ⟨(.slice none 0 0), z178_, Kd.V_nil _ _ _ _ _, z117_⟩
  rw [if_pos c3] at H
  have c3b0 : (t140 == 0) = true := beq_iff_eq.mpr c3
  have c3b1 : (t140 != 0) = false := bne_eq_false_iff_eq.mpr c3
  clear c3
  replace H := Option.bind_eq_some_iff.mp H
  obtain ⟨⟨t142, t145, t146⟩, A40, H⟩ := H
  replace H : (some t142) = some r := H
  have A4 := Aside0.mk A40
  clear A40
  obtain rfl := Option.some.inj H
  go_enter Try.func11, Try.ntmps11
  go_wp2_with (first | ((with_reducible refine gate_callee (f := 38) rfl ?_); refine goesL_ (some 10) rfl rfl Try.func38 (by kernel_rfl) rfl #[.slice A0 l0.length c0] rfl z113_ ?_; (with_reducible refine (regletref04_Check.calls k _ _ l0 t140 t141 _ ?side1 ?side2 A2.out).mono ?_); (case side1 => exact z107_); (case side2 => exact HC0.out); rintro e w5 ⟨rfl, hb⟩; refine ⟨_, rfl, ?_⟩; replace HB := Aside0.mk (below_step z117_ hb); (try clear hb); (try clear hb2); (try clear hk); (try clear hi)) | ((with_reducible refine gate_callee (f := 39) rfl ?_); refine goesL_ (some 17) rfl rfl Try.func39 (by kernel_rfl) rfl #[.slice A0 l0.length c0] rfl z113_ ?_; (with_reducible refine (metrics_New.calls k _ _ l0 t142 t145 t146 _ ?side1 ?side2 A4.out).mono ?_); (case side1 => exact z79_); (case side2 => exact HC0.out); rintro e w6 ⟨v143, rfl, ho0, hb⟩; refine ⟨_, rfl, ?_⟩; have HO144 := Aside0.mk (Kd.V_lower (Kd.V_mono (ok' := fun k_ => (w.heap.size ≤ k_)) ho0 (fun k_ hk_ => (Nat.le_trans (below_size z117_) hk_))) (below_size z117_)); replace HB := Aside0.mk (below_step z117_ hb); (try clear hb); (try clear hb2); (try clear hk); (try clear hi); (try clear ho0)))
  go_ret
  exact ⟨v143, z178_, y186_ HO144.out, z117_⟩
/-! ### runes_Kind: function 43 -/
mutual
def runes_Kind.j0 : Nat → Int → Bool → Option (Int)
  | 0, _, _ => none
  | k + 1, x3, x4 => if x4 = true then (some 1) else (if x3 = 160 then (runes_Kind.j1 k x3 (x3 == 160)) else (runes_Kind.j1 k x3 (x3 == 8239)))
def runes_Kind.j1 : Nat → Int → Bool → Option (Int)
  | 0, _, _ => none
  | k + 1, x3, x7 => if x7 = true then (some 2) else (if x3 = 173 then (some 3) else (if x3 = 8203 then (some 4) else (if x3 = 8288 then (runes_Kind.j2 k x3 (x3 == 8288)) else (runes_Kind.j2 k x3 (x3 == 65279)))))
def runes_Kind.j2 : Nat → Int → Bool → Option (Int)
  | 0, _, _ => none
  | k + 1, x3, x14 => if x14 = true then (some 5) else (if x3 = 45 then (runes_Kind.j3 k x3 (x3 == 45)) else (runes_Kind.j3 k x3 (x3 == 8208)))
def runes_Kind.j3 : Nat → Int → Bool → Option (Int)
  | 0, _, _ => none
  | k + 1, x3, x17 => if x17 = true then (some 6) else (if x3 = 8232 then (some 7) else (if x3 = 10 then (some 8) else (some 0)))
end
def runes_Kind.f (k : Nat) (a0 : Int) : Option (Int) := if a0 = 32 then (runes_Kind.j0 k a0 (a0 == 32)) else (runes_Kind.j0 k a0 (a0 == 9))
theorem runes_Kind.mono_l : ∀ k, (∀ y0 y1, LeO (runes_Kind.j0 k y0 y1) (runes_Kind.j0 (k + 1) y0 y1)) ∧ (∀ y0 y1, LeO (runes_Kind.j1 k y0 y1) (runes_Kind.j1 (k + 1) y0 y1)) ∧ (∀ y0 y1, LeO (runes_Kind.j2 k y0 y1) (runes_Kind.j2 (k + 1) y0 y1)) ∧ (∀ y0 y1, LeO (runes_Kind.j3 k y0 y1) (runes_Kind.j3 (k + 1) y0 y1))
  | 0 => ⟨fun _ _ r h => by simp [runes_Kind.j0] at h, fun _ _ r h => by simp [runes_Kind.j1] at h, fun _ _ r h => by simp [runes_Kind.j2] at h, fun _ _ r h => by simp [runes_Kind.j3] at h⟩
  | k + 1 => by
    obtain ⟨ih0, ih1, ih2, ih3⟩ := runes_Kind.mono_l k
    refine ⟨?_, ?_, ?_, ?_⟩
    · intro y0 y1
      unfold runes_Kind.j0
      repeat' first | (with_reducible first | exact ih0 _ _ | exact ih1 _ _ | exact ih2 _ _ | exact ih3 _ _ | exact LeO.refl _ | exact LeO.none _ | refine LeO.ite ?_ ?_ | refine LeO.bind ?_ (fun _ => ?_)) | exact ih0 _ _ | exact ih1 _ _ | exact ih2 _ _ | exact ih3 _ _ | exact LeO.none _ | refine LeO.ite ?_ ?_ | refine LeO.bind ?_ (fun _ => ?_)
    · intro y0 y1
      unfold runes_Kind.j1
      repeat' first | (with_reducible first | exact ih0 _ _ | exact ih1 _ _ | exact ih2 _ _ | exact ih3 _ _ | exact LeO.refl _ | exact LeO.none _ | refine LeO.ite ?_ ?_ | refine LeO.bind ?_ (fun _ => ?_)) | exact ih0 _ _ | exact ih1 _ _ | exact ih2 _ _ | exact ih3 _ _ | exact LeO.none _ | refine LeO.ite ?_ ?_ | refine LeO.bind ?_ (fun _ => ?_)
    · intro y0 y1
      unfold runes_Kind.j2
      repeat' first | (with_reducible first | exact ih0 _ _ | exact ih1 _ _ | exact ih2 _ _ | exact ih3 _ _ | exact LeO.refl _ | exact LeO.none _ | refine LeO.ite ?_ ?_ | refine LeO.bind ?_ (fun _ => ?_)) | exact ih0 _ _ | exact ih1 _ _ | exact ih2 _ _ | exact ih3 _ _ | exact LeO.none _ | refine LeO.ite ?_ ?_ | refine LeO.bind ?_ (fun _ => ?_)
    · intro y0 y1
      unfold runes_Kind.j3
      repeat' first | (with_reducible first | exact ih0 _ _ | exact ih1 _ _ | exact ih2 _ _ | exact ih3 _ _ | exact LeO.refl _ | exact LeO.none _ | refine LeO.ite ?_ ?_ | refine LeO.bind ?_ (fun _ => ?_)) | exact ih0 _ _ | exact ih1 _ _ | exact ih2 _ _ | exact ih3 _ _ | exact LeO.none _ | refine LeO.ite ?_ ?_ | refine LeO.bind ?_ (fun _ => ?_)
theorem runes_Kind.mono : ∀ a0 k, LeO (runes_Kind.f k a0) (runes_Kind.f (k + 1) a0) := by
  intro a0 k
  obtain ⟨ih0, ih1, ih2, ih3⟩ := runes_Kind.mono_l k
  unfold runes_Kind.f
  repeat' first | (with_reducible first | exact ih0 _ _ | exact ih1 _ _ | exact ih2 _ _ | exact ih3 _ _ | exact LeO.refl _ | exact LeO.none _ | refine LeO.ite ?_ ?_ | refine LeO.bind ?_ (fun _ => ?_)) | exact ih0 _ _ | exact ih1 _ _ | exact ih2 _ _ | exact ih3 _ _ | exact LeO.none _ | refine LeO.ite ?_ ?_ | refine LeO.bind ?_ (fun _ => ?_)
set_option maxHeartbeats 8000000 in
set_option maxRecDepth 100000 in
theorem runes_Kind.calls (k : Nat) (a0 : Int) (r : Int) (w : World) (h : runes_Kind.f k a0 = some r) :
    Calls Try.prog 43 #[.int .i32 a0] w fun e w' => e = .returned (.int .i64 r) ∧ Drawn0 w w' := by
  have H : (if a0 = 32 then (runes_Kind.j0 k a0 (a0 == 32)) else (runes_Kind.j0 k a0 (a0 == 9))) = some r := h
  clear h
  have HC2 := Aside0.mk H
  clear H
  go_enter Try.func43, Try.ntmps43
  go_upto_if 4 with (fail)
  go_cut [4] (fun v4 wc => ∃ (kq : Nat) (x4_1 : Bool), v4 = .bool x4_1 ∧ Aside0 (runes_Kind.j0 kq a0 x4_1 = some r) ∧ Aside0 (kq ≤ k) ∧ Drawn0 w wc)
  case first =>
    have H := HC2.out
    clear HC2
    by_cases c3 : a0 = 32
    rotate_left
    · rw [if_neg c3] at H
      have c3b0 : (a0 == 32) = false := beq_eq_false_iff_ne.mpr c3
      have c3b1 : (a0 != 32) = true := bne_iff_ne.mpr c3
      (first | rw [c3b0] | (simp only [i64_w, i32_w]; rw [c3b0]) | skip)
      have H' := Aside0.mk H
      clear H
      go_wp2
      go_meet
      case rel => exact ⟨_, ((a0 == 9)), z208_, H', ⟨z210_⟩, z199_⟩
    rw [if_pos c3] at H
    have c3b0 : (a0 == 32) = true := beq_iff_eq.mpr c3
    have c3b1 : (a0 != 32) = false := bne_eq_false_iff_eq.mpr c3
    clear c3
    (first | rw [c3b0] | (simp only [i64_w, i32_w]; rw [c3b0]) | skip)
    have H' := Aside0.mk H
    clear H
    go_wp2
    go_meet
    case rel => exact ⟨_, ((a0 == 32)), z208_, H', ⟨z210_⟩, z199_⟩
  case rest =>
    clear HC2
    try clear p2
    try clear c3
    try clear c3b0
    try clear c3b1
    obtain ⟨kq, x4_1, rfl, HA, HJ1, ⟨mc1, rfl⟩⟩ := hcut
    cases kq with
    | zero => exact absurd HA.out (by simp [runes_Kind.j0])
    | succ kj1 =>
      have H := HA.out
      clear HA
      simp only [runes_Kind.j0] at H
      by_cases c4 : x4_1 = true
      · subst c4
        have H1 : (some 1) = some r := by rw [if_pos rfl] at H; exact H
        clear H
        have H := H1
        clear H1
        obtain rfl := Option.some.inj H
        go_wp2
        go_ret
        exact ⟨z190_, z199_⟩
      replace c4 := Bool.eq_false_iff.mpr c4
      subst c4
      have H1 : (if a0 = 160 then (runes_Kind.j1 kj1 a0 (a0 == 160)) else (runes_Kind.j1 kj1 a0 (a0 == 8239))) = some r := by rw [if_neg (show ¬ (false = true) by decide)] at H; exact H
      clear H
      have H := H1
      clear H1
      have HC5 := Aside0.mk H
      clear H
      go_upto_if 7 with (fail)
      go_cut [7] (fun v7 wc => ∃ (kq : Nat) (x7_4 : Bool), v7 = .bool x7_4 ∧ Aside0 (runes_Kind.j1 kq a0 x7_4 = some r) ∧ Aside0 (kq ≤ kj1) ∧ Drawn0 w wc)
      case first =>
        have H := HC5.out
        clear HC5
        by_cases c6 : a0 = 160
        rotate_left
        · rw [if_neg c6] at H
          have c6b0 : (a0 == 160) = false := beq_eq_false_iff_ne.mpr c6
          have c6b1 : (a0 != 160) = true := bne_iff_ne.mpr c6
          (first | rw [c6b0] | (simp only [i64_w, i32_w]; rw [c6b0]) | skip)
          have H' := Aside0.mk H
          clear H
          go_wp2
          go_meet
          case rel => exact ⟨_, ((a0 == 8239)), z208_, H', ⟨by have := HJ1.out; first | omega | exact Nat.le_refl _⟩, z199_⟩
        rw [if_pos c6] at H
        have c6b0 : (a0 == 160) = true := beq_iff_eq.mpr c6
        have c6b1 : (a0 != 160) = false := bne_eq_false_iff_eq.mpr c6
        clear c6
        (first | rw [c6b0] | (simp only [i64_w, i32_w]; rw [c6b0]) | skip)
        have H' := Aside0.mk H
        clear H
        go_wp2
        go_meet
        case rel => exact ⟨_, ((a0 == 160)), z208_, H', ⟨by have := HJ1.out; first | omega | exact Nat.le_refl _⟩, z199_⟩
      case rest =>
        clear HC5
        try clear c1
        try clear p2
        try clear c3
        try clear c3b0
        try clear c3b1
        try clear c4
        try clear c6
        try clear c6b0
        try clear c6b1
        try clear p2
        obtain ⟨kq, x7_4, rfl, HA, HJ4, ⟨mc4, rfl⟩⟩ := hcut
        cases kq with
        | zero => exact absurd HA.out (by simp [runes_Kind.j1])
        | succ kj4 =>
          have H := HA.out
          clear HA
          simp only [runes_Kind.j1] at H
          by_cases c7 : x7_4 = true
          · subst c7
            have H1 : (some 2) = some r := by rw [if_pos rfl] at H; exact H
            clear H
            have H := H1
            clear H1
            obtain rfl := Option.some.inj H
            go_wp2
            go_ret
            exact ⟨z190_, z199_⟩
          replace c7 := Bool.eq_false_iff.mpr c7
          subst c7
          have H1 : (if a0 = 173 then (some 3) else (if a0 = 8203 then (some 4) else (if a0 = 8288 then (runes_Kind.j2 kj4 a0 (a0 == 8288)) else (runes_Kind.j2 kj4 a0 (a0 == 65279))))) = some r := by rw [if_neg (show ¬ (false = true) by decide)] at H; exact H
          clear H
          have H := H1
          clear H1
          by_cases c8 : a0 = 173
          · rw [if_pos c8] at H
            have c8b0 : (a0 == 173) = true := beq_iff_eq.mpr c8
            have c8b1 : (a0 != 173) = false := bne_eq_false_iff_eq.mpr c8
            clear c8
            obtain rfl := Option.some.inj H
            go_wp2
            go_ret
            exact ⟨z190_, z199_⟩
          rw [if_neg c8] at H
          have c8b0 : (a0 == 173) = false := beq_eq_false_iff_ne.mpr c8
          have c8b1 : (a0 != 173) = true := bne_iff_ne.mpr c8
          by_cases c9 : a0 = 8203
          · rw [if_pos c9] at H
            have c9b0 : (a0 == 8203) = true := beq_iff_eq.mpr c9
            have c9b1 : (a0 != 8203) = false := bne_eq_false_iff_eq.mpr c9
            clear c9
            obtain rfl := Option.some.inj H
            go_wp2
            go_ret
            exact ⟨z190_, z199_⟩
          rw [if_neg c9] at H
          have c9b0 : (a0 == 8203) = false := beq_eq_false_iff_ne.mpr c9
          have c9b1 : (a0 != 8203) = true := bne_iff_ne.mpr c9
          have HC10 := Aside0.mk H
          clear H
          go_upto_if 14 with (fail)
          go_cut [14] (fun v14 wc => ∃ (kq : Nat) (x14_9 : Bool), v14 = .bool x14_9 ∧ Aside0 (runes_Kind.j2 kq a0 x14_9 = some r) ∧ Aside0 (kq ≤ kj4) ∧ Drawn0 w wc)
          case first =>
            have H := HC10.out
            clear HC10
            by_cases c11 : a0 = 8288
            rotate_left
            · rw [if_neg c11] at H
              have c11b0 : (a0 == 8288) = false := beq_eq_false_iff_ne.mpr c11
              have c11b1 : (a0 != 8288) = true := bne_iff_ne.mpr c11
              (first | rw [c11b0] | (simp only [i64_w, i32_w]; rw [c11b0]) | skip)
              have H' := Aside0.mk H
              clear H
              go_wp2
              go_meet
              case rel => exact ⟨_, ((a0 == 65279)), z208_, H', ⟨z194_⟩, z199_⟩
            rw [if_pos c11] at H
            have c11b0 : (a0 == 8288) = true := beq_iff_eq.mpr c11
            have c11b1 : (a0 != 8288) = false := bne_eq_false_iff_eq.mpr c11
            clear c11
            (first | rw [c11b0] | (simp only [i64_w, i32_w]; rw [c11b0]) | skip)
            have H' := Aside0.mk H
            clear H
            go_wp2
            go_meet
            case rel => exact ⟨_, ((a0 == 8288)), z208_, H', ⟨z194_⟩, z199_⟩
          case rest =>
            clear HC10
            try clear c1
            try clear p2
            try clear c3
            try clear c3b0
            try clear c3b1
            try clear c4
            try clear c6
            try clear c6b0
            try clear c6b1
            try clear c7
            try clear c8
            try clear c8b0
            try clear c8b1
            try clear c9
            try clear c9b0
            try clear c9b1
            try clear c11
            try clear c11b0
            try clear c11b1
            try clear p2
            obtain ⟨kq, x14_9, rfl, HA, HJ9, ⟨mc9, rfl⟩⟩ := hcut
            cases kq with
            | zero => exact absurd HA.out (by simp [runes_Kind.j2])
            | succ kj9 =>
              have H := HA.out
              clear HA
              simp only [runes_Kind.j2] at H
              by_cases c12 : x14_9 = true
              · subst c12
                have H1 : (some 5) = some r := by rw [if_pos rfl] at H; exact H
                clear H
                have H := H1
                clear H1
                obtain rfl := Option.some.inj H
                go_wp2
                go_ret
                exact ⟨z190_, z199_⟩
              replace c12 := Bool.eq_false_iff.mpr c12
              subst c12
              have H1 : (if a0 = 45 then (runes_Kind.j3 kj9 a0 (a0 == 45)) else (runes_Kind.j3 kj9 a0 (a0 == 8208))) = some r := by rw [if_neg (show ¬ (false = true) by decide)] at H; exact H
              clear H
              have H := H1
              clear H1
              have HC13 := Aside0.mk H
              clear H
              go_upto_if 17 with (fail)
              go_cut [17] (fun v17 wc => ∃ (kq : Nat) (x17_12 : Bool), v17 = .bool x17_12 ∧ Aside0 (runes_Kind.j3 kq a0 x17_12 = some r) ∧ Aside0 (kq ≤ kj9) ∧ Drawn0 w wc)
              case first =>
                have H := HC13.out
                clear HC13
                by_cases c14 : a0 = 45
                rotate_left
                · rw [if_neg c14] at H
                  have c14b0 : (a0 == 45) = false := beq_eq_false_iff_ne.mpr c14
                  have c14b1 : (a0 != 45) = true := bne_iff_ne.mpr c14
                  (first | rw [c14b0] | (simp only [i64_w, i32_w]; rw [c14b0]) | skip)
                  have H' := Aside0.mk H
                  clear H
                  go_wp2
                  go_meet
                  case rel => exact ⟨_, ((a0 == 8208)), z208_, H', ⟨z189_⟩, z199_⟩
                rw [if_pos c14] at H
                have c14b0 : (a0 == 45) = true := beq_iff_eq.mpr c14
                have c14b1 : (a0 != 45) = false := bne_eq_false_iff_eq.mpr c14
                clear c14
                (first | rw [c14b0] | (simp only [i64_w, i32_w]; rw [c14b0]) | skip)
                have H' := Aside0.mk H
                clear H
                go_wp2
                go_meet
                case rel => exact ⟨_, ((a0 == 45)), z208_, H', ⟨z189_⟩, z199_⟩
              case rest =>
                clear HC13
                try clear c1
                try clear p2
                try clear c3
                try clear c3b0
                try clear c3b1
                try clear c4
                try clear c6
                try clear c6b0
                try clear c6b1
                try clear c7
                try clear c8
                try clear c8b0
                try clear c8b1
                try clear c9
                try clear c9b0
                try clear c9b1
                try clear c11
                try clear c11b0
                try clear c11b1
                try clear c12
                try clear c14
                try clear c14b0
                try clear c14b1
                try clear p2
                obtain ⟨kq, x17_12, rfl, HA, HJ12, ⟨mc12, rfl⟩⟩ := hcut
                cases kq with
                | zero => exact absurd HA.out (by simp [runes_Kind.j3])
                | succ kj12 =>
                  have H := HA.out
                  clear HA
                  simp only [runes_Kind.j3] at H
                  by_cases c15 : x17_12 = true
                  · subst c15
                    have H1 : (some 6) = some r := by rw [if_pos rfl] at H; exact H
                    clear H
                    have H := H1
                    clear H1
                    obtain rfl := Option.some.inj H
                    go_wp2
                    go_ret
                    exact ⟨z190_, z199_⟩
                  replace c15 := Bool.eq_false_iff.mpr c15
                  subst c15
                  have H1 : (if a0 = 8232 then (some 7) else (if a0 = 10 then (some 8) else (some 0))) = some r := by rw [if_neg (show ¬ (false = true) by decide)] at H; exact H
                  clear H
                  have H := H1
                  clear H1
                  by_cases c16 : a0 = 8232
                  · rw [if_pos c16] at H
                    have c16b0 : (a0 == 8232) = true := beq_iff_eq.mpr c16
                    have c16b1 : (a0 != 8232) = false := bne_eq_false_iff_eq.mpr c16
                    clear c16
                    obtain rfl := Option.some.inj H
                    go_wp2
                    go_ret
                    exact ⟨z190_, z199_⟩
                  rw [if_neg c16] at H
                  have c16b0 : (a0 == 8232) = false := beq_eq_false_iff_ne.mpr c16
                  have c16b1 : (a0 != 8232) = true := bne_iff_ne.mpr c16
                  by_cases c17 : a0 = 10
                  rotate_left
                  · rw [if_neg c17] at H
                    have c17b0 : (a0 == 10) = false := beq_eq_false_iff_ne.mpr c17
                    have c17b1 : (a0 != 10) = true := bne_iff_ne.mpr c17
                    obtain rfl := Option.some.inj H
                    go_wp2
                    go_ret
                    exact ⟨z190_, z199_⟩
                  rw [if_pos c17] at H
                  have c17b0 : (a0 == 10) = true := beq_iff_eq.mpr c17
                  have c17b1 : (a0 != 10) = false := bne_eq_false_iff_eq.mpr c17
                  clear c17
                  obtain rfl := Option.some.inj H
                  go_wp2
                  go_ret
                  exact ⟨z190_, z199_⟩
/-! ### scaled_Clamp: function 82 -/
def scaled_Clamp.f (a0 : Int) : Option (Int) := some (mx (-1152921504606846976) (mn 1152921504606846976 a0))
set_option maxHeartbeats 8000000 in
set_option maxRecDepth 100000 in
theorem scaled_Clamp.calls (a0 : Int) (r : Int) (w : World) (h : scaled_Clamp.f a0 = some r) :
    Calls Try.prog 82 #[.int .i64 a0] w fun e w' => e = .returned (.int .i64 r) ∧ Below w.heap.size w w' := by
  have HB := Aside0.mk (Below.refl w.heap.size w)
  have H : (some (mx (-1152921504606846976) (mn 1152921504606846976 a0))) = some r := h
  clear h
  obtain ⟨ji2, hji2⟩ : ∃ j_ : Int, (mn 1152921504606846976 a0) = j_ := ⟨_, rfl⟩
  replace H : (some (mx (-1152921504606846976) (ji2))) = some r := by first | (rw [hji2] at H; exact H) | (simp only [hji2] at H ⊢; exact H)
  (try (have hji2h : ji2 ≤ 1152921504606846976 := by (rw [← hji2]; unfold mn; (repeat' split) <;> omega)))
  (try (have hji2g : ji2 ≤ 64 := by omega))
  have hji2_ : (if a0 < 1152921504606846976 then a0 else 1152921504606846976) = ji2 := hji2
  obtain ⟨ji3, hji3⟩ : ∃ j_ : Int, (mx (-1152921504606846976) (ji2)) = j_ := ⟨_, rfl⟩
  replace H : (some ji3) = some r := by first | (rw [hji3] at H; exact H) | (simp only [hji3] at H ⊢; exact H)
  have hji3_ : (if (-1152921504606846976) < (ji2) then (ji2) else (-1152921504606846976)) = ji3 := hji3
  obtain rfl := Option.some.inj H
  go_enter Try.func82, Try.ntmps82
  go_wp2
  go_ret
  exact ⟨by first | rfl | (simp [errW_none, errW_some] <;> rfl) | (simp only [← hji2, ← hji3]; first | rfl | (simp [errW_none, errW_some] <;> rfl)) | (simp [*, errW_none, errW_some] <;> rfl), z117_⟩
end Go.Proofs.Ytblmcdpfhdamjaa.PPaintWindow
