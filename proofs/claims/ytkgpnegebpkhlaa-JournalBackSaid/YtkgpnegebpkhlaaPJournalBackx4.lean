-- WRITTEN BY wip/xprint.py of this repo, over the kit's print; functions the print does not take are by hand
import Derived.Test.YtkgpnegebpkhlaaPJournalBackx0
import Derived.Test.YtkgpnegebpkhlaaPJournalBackx2
import Derived.Test.YtkgpnegebpkhlaaPJournalBackx3
namespace Go.Proofs.Ytkgpnegebpkhlaa.PJournalBack
open Go.RowKit Go.Proofs.YtkgpnegebpkhlaaW.PrintWords Go.Proofs.YtkgpnegebpkhlaaW.PrintLast Go.Proofs.YtkgpnegebpkhlaaW.PrintMore
attribute [local go_sem] max2_int min2_int max_two min_two max_three min_three max_four min_four   -- for this text's walks alone
set_option linter.unusedVariables false
set_option linter.unusedSimpArgs false
/-! ### journal_Append: function 7 -/
def journal_Append.l0 : Nat → List Int → List Int → Int → Int → Int → Int → Int → Int → ByteArray → Option (List Int × Int)
  | 0, _, _, _, _, _, _, _, _, _ => none
  | k + 1, x6, x35, x36, x37, x113000, x113001, x113002, x113003, x113004 => if x37 < x36 then (if 0 ≤ x37 then (if x37 < (x35.length : Int) then ((journal_folded.f (rd x35 x37)).bind fun t131 => ((journal_putNumber.f k x6 t131).bind fun t132 => (journal_Append.l0 k t132 x35 x36 (wrap64 (x37 + 1)) x113000 x113001 x113002 x113003 x113004))) else (none)) else (none)) else (if x113000 = 1 then ((journal_putNumber.f k x6 (IntKind.u64.wrap ((x113004.size : Int)))).bind fun t135 => (if t135.length + x113004.size < 140737488355328 then (some ((t135 ++ bytesOf x113004), 0)) else (none))) else (some (x6, 0)))
def journal_Append.f (k : Nat) (l0 : List Int) (a1_0 : Int) (a1_1 : Int) (a1_2 : Int) (a1_3 : Int) (a1_4 : ByteArray) : Option (List Int × Int) := (some (([] : List Int) : List Int)).bind fun y113 => (if y113.length + l0.length < 140737488355328 then ((some (y113 ++ l0 : List Int)).bind fun y116 => ((journal_Right.f k a1_0 a1_1 a1_2 a1_3 a1_4).bind fun t119 => (if t119 = 0 then (if y116.length < 140737488355328 then ((some (([a1_1, a1_2, a1_3] : List Int) : List Int)).bind fun y123 => ((journal_numbers.f k a1_0).bind fun t126 => (if 0 ≤ t126 then (if t126 ≤ (y123.length : Int) then ((some (y123.take (t126 : Int).toNat : List Int)).bind fun y127 => (journal_Append.l0 k (y116 ++ [(a1_0) % 256]) y127 (y127.length : Int) 0 a1_0 a1_1 a1_2 a1_3 a1_4)) else (none)) else (none)))) else (none)) else (some (y116, t119))))) else (none))
theorem journal_Append.mono_l : ∀ k, (∀ y0 y1 y2 y3 y4 y5 y6 y7 y8, LeO (journal_Append.l0 k y0 y1 y2 y3 y4 y5 y6 y7 y8) (journal_Append.l0 (k + 1) y0 y1 y2 y3 y4 y5 y6 y7 y8))
  | 0 => fun _ _ _ _ _ _ _ _ _ r h => by simp [journal_Append.l0] at h
  | k + 1 => by
    have ih0 := journal_Append.mono_l k
    · intro y0 y1 y2 y3 y4 y5 y6 y7 y8
      unfold journal_Append.l0
      repeat' first | (with_reducible first | exact ih0 _ _ _ _ _ _ _ _ _ | exact journal_Right.mono _ _ _ _ _ _ | exact journal_numbers.mono _ _ | exact journal_putNumber.mono _ _ _ | exact LeO.refl _ | exact LeO.none _ | refine LeO.ite ?_ ?_ | refine LeO.bind ?_ (fun _ => ?_)) | exact ih0 _ _ _ _ _ _ _ _ _ | exact journal_Right.mono _ _ _ _ _ _ | exact journal_numbers.mono _ _ | exact journal_putNumber.mono _ _ _ | exact LeO.none _ | refine LeO.ite ?_ ?_ | refine LeO.bind ?_ (fun _ => ?_)
theorem journal_Append.mono : ∀ a0 a1 a2 a3 a4 a5 k, LeO (journal_Append.f k a0 a1 a2 a3 a4 a5) (journal_Append.f (k + 1) a0 a1 a2 a3 a4 a5) := by
  intro a0 a1 a2 a3 a4 a5 k
  have ih0 := journal_Append.mono_l k
  unfold journal_Append.f
  repeat' first | (with_reducible first | exact ih0 _ _ _ _ _ _ _ _ _ | exact journal_Right.mono _ _ _ _ _ _ | exact journal_numbers.mono _ _ | exact journal_putNumber.mono _ _ _ | exact LeO.refl _ | exact LeO.none _ | refine LeO.ite ?_ ?_ | refine LeO.bind ?_ (fun _ => ?_)) | exact ih0 _ _ _ _ _ _ _ _ _ | exact journal_Right.mono _ _ _ _ _ _ | exact journal_numbers.mono _ _ | exact journal_putNumber.mono _ _ _ | exact LeO.none _ | refine LeO.ite ?_ ?_ | refine LeO.bind ?_ (fun _ => ?_)
def journal_Append.T6 : Bool × List (List Nat × List Nat) := (true, [([], []), ([0], [0]), ([], []), ([2], [2]), ([], []), ([4], [4]), ([1, 3, 5], [1, 3, 5]), ([], []), ([7], [7]), ([8], [8]), ([6, 9], [6, 9]), ([10], [10]), ([], [])])
def journal_Append.B6 : List Nat := [0, 1, 0, 4, 0, 16, 63, 0, 128, 384, 1023, 2047, 0]
theorem journal_Append.tab6 : rtab .any (opsOf Try.f7 6) = journal_Append.T6 := by kernel_rfl
theorem journal_Append.bits6 : waitsOk journal_Append.T6.2 journal_Append.B6 = true := by kernel_rfl
set_option maxHeartbeats 8000000 in
set_option maxRecDepth 100000 in
theorem journal_Append.calls (k : Nat) (A0 : Option Addr) (c0 : Nat) (l0 : List Int) (a1_0 : Int) (a1_1 : Int) (a1_2 : Int) (a1_3 : Int) (a1_4 : ByteArray) (r1 : List Int) (r2 : Int) (w : World) (hr0 : Kd.C (Kd.int .u8) w A0 l0.length l0) (hc0 : l0.length ≤ c0) (h : journal_Append.f k l0 a1_0 a1_1 a1_2 a1_3 a1_4 = some (r1, r2)) :
    Calls Try.prog 7 #[.slice A0 l0.length c0, .agg #[.int .i64 a1_0, .int .i64 a1_1, .int .i64 a1_2, .int .i64 a1_3, .string a1_4]] w fun e w' => ∃ v0_ : Value, e = .returned (.tuple #[v0_, .int .i64 r2]) ∧ Kd.R (Kd.int .u8) 5 w' w.heap.size (fun _ => True) v0_ r1 ∧ Below w.heap.size w w' := by
  have hu24 := Try.underlying24
  have HR0 := Aside0.mk hr0
  have HC0 := Aside0.mk hc0
  clear hr0 hc0
  have HB := Aside0.mk (Below.refl w.heap.size w)
  have H : ((some (([] : List Int) : List Int)).bind fun y113 => (if y113.length + l0.length < 140737488355328 then ((some (y113 ++ l0 : List Int)).bind fun y116 => ((journal_Right.f k a1_0 a1_1 a1_2 a1_3 a1_4).bind fun t119 => (if t119 = 0 then (if y116.length < 140737488355328 then ((some (([a1_1, a1_2, a1_3] : List Int) : List Int)).bind fun y123 => ((journal_numbers.f k a1_0).bind fun t126 => (if 0 ≤ t126 then (if t126 ≤ (y123.length : Int) then ((some (y123.take (t126 : Int).toNat : List Int)).bind fun y127 => (journal_Append.l0 k (y116 ++ [(a1_0) % 256]) y127 (y127.length : Int) 0 a1_0 a1_1 a1_2 a1_3 a1_4)) else (none)) else (none)))) else (none)) else (some (y116, t119))))) else (none))) = some (r1, r2) := h
  clear h
  obtain ⟨y113, hy113⟩ : ∃ y_ : List Int, y_ = (([] : List Int)) := ⟨_, rfl⟩
  replace H : (if y113.length + l0.length < 140737488355328 then ((some (y113 ++ l0 : List Int)).bind fun y116 => ((journal_Right.f k a1_0 a1_1 a1_2 a1_3 a1_4).bind fun t119 => (if t119 = 0 then (if y116.length < 140737488355328 then ((some (([a1_1, a1_2, a1_3] : List Int) : List Int)).bind fun y123 => ((journal_numbers.f k a1_0).bind fun t126 => (if 0 ≤ t126 then (if t126 ≤ (y123.length : Int) then ((some (y123.take (t126 : Int).toNat : List Int)).bind fun y127 => (journal_Append.l0 k (y116 ++ [(a1_0) % 256]) y127 (y127.length : Int) 0 a1_0 a1_1 a1_2 a1_3 a1_4)) else (none)) else (none)))) else (none)) else (some (y116, t119))))) else (none)) = some (r1, r2) := by first | (rw [hy113]; with_reducible exact H) | (have H2_ := (Option.bind_some _ _).symm.trans H; rw [hy113]; with_reducible exact H2_) | (have H2_ := (Option.bind_some _ _).symm.trans H; with_reducible exact H2_) | with_reducible exact H | (rw [hy113]; exact H) | exact H
  have Ny113 := Aside0.mk hy113
  clear hy113
  by_cases c3 : y113.length + l0.length < 140737488355328
  rotate_left
  · rw [if_neg c3] at H
    exact absurd H (by simp)
  rw [if_pos c3] at H
  have LMc3 := Aside0.mk c3
  clear c3
  obtain ⟨y116, hy116⟩ : ∃ y_ : List Int, y_ = (y113 ++ l0) := ⟨_, rfl⟩
  replace H : ((journal_Right.f k a1_0 a1_1 a1_2 a1_3 a1_4).bind fun t119 => (if t119 = 0 then (if y116.length < 140737488355328 then ((some (([a1_1, a1_2, a1_3] : List Int) : List Int)).bind fun y123 => ((journal_numbers.f k a1_0).bind fun t126 => (if 0 ≤ t126 then (if t126 ≤ (y123.length : Int) then ((some (y123.take (t126 : Int).toNat : List Int)).bind fun y127 => (journal_Append.l0 k (y116 ++ [(a1_0) % 256]) y127 (y127.length : Int) 0 a1_0 a1_1 a1_2 a1_3 a1_4)) else (none)) else (none)))) else (none)) else (some (y116, t119)))) = some (r1, r2) := by first | (rw [hy116]; with_reducible exact H) | (have H2_ := (Option.bind_some _ _).symm.trans H; rw [hy116]; with_reducible exact H2_) | (have H2_ := (Option.bind_some _ _).symm.trans H; with_reducible exact H2_) | with_reducible exact H | (rw [hy116]; exact H) | exact H
  have Ny116 := Aside0.mk hy116
  clear hy116
  replace H := Option.bind_eq_some_iff.mp H
  obtain ⟨t119, A40, H⟩ := H
  replace H : (if t119 = 0 then (if y116.length < 140737488355328 then ((some (([a1_1, a1_2, a1_3] : List Int) : List Int)).bind fun y123 => ((journal_numbers.f k a1_0).bind fun t126 => (if 0 ≤ t126 then (if t126 ≤ (y123.length : Int) then ((some (y123.take (t126 : Int).toNat : List Int)).bind fun y127 => (journal_Append.l0 k (y116 ++ [(a1_0) % 256]) y127 (y127.length : Int) 0 a1_0 a1_1 a1_2 a1_3 a1_4)) else (none)) else (none)))) else (none)) else (some (y116, t119))) = some (r1, r2) := H
  have A4 := Aside0.mk A40
  clear A40
  by_cases c5 : t119 = 0
  rotate_left
  · rw [if_neg c5] at H
    have c5b0 : (t119 == 0) = false := beq_eq_false_iff_ne.mpr c5
    have c5b1 : (t119 != 0) = true := bne_iff_ne.mpr c5
    simp only [Option.some.injEq, Prod.mk.injEq] at H
    obtain ⟨rfl, rfl⟩ := H
    go_enter Try.func7, Try.ntmps7
    go_wp2_with (first | ((with_reducible refine gate_dst (N := 3) rfl ?_); refine box_event ?hg (N := 3) ?hd (cs := #[.int .i64 a1_0, .int .i64 a1_1, .int .i64 a1_2, .int .i64 a1_3, .string a1_4]) (t := 24) ?hr ?_; (case hd => rfl); (case hg => rfl); (case hr => exact z82_); intro gb112 hg w40 hbox hb; have BK112 := Aside0.mk (hbox); have GW112 := Aside0.mk ((z29_ : w.heap.size ≤ gb112)); have GE112 := Aside0.mk ((z29_ : w.heap.size ≤ gb112)); replace HB := Aside0.mk (below_step z44_ hb); clear hb hbox hg) | ((with_reducible refine gate_dst (N := 10) rfl ?_); refine Kd.R_lit (Kd.int .u8) _ 5 ?hg (N := 10) ?hd (xs := ([] : List Int)) (inner := []) (ok := fun _ => True) (okp := fun _ => True) ?hr ?hp (fun _ hk => hk) trivial (Below.refl _ _) (Nat.le_refl _) (by simp) ?_; (case hd => rfl); (case hg => rfl); (case hr => exact z82_); (case hp => exact (Reps.none _ _)); intro v114 w41 ho42 hb hg_ hnew_; clear hg_ hnew_; (first | rw [← Ny113.out] at ho42 | (simp only [Int.reduceToNat] at ho42; rw [← Ny113.out] at ho42)); have HO115 := Aside0.mk (Kd.R_lower ho42 (below_size z31_)); replace BK112 := Aside0.mk (blk_below (g := gb112) (o := .cells #[.int .i64 a1_0, .int .i64 a1_1, .int .i64 a1_2, .int .i64 a1_3, .string a1_4] 24 (0, 0)) z48_ hb); replace HB := Aside0.mk (below_step z31_ hb); clear hb ho42) | ((with_reducible refine gate_builtin (b := .append) (xs := #[.tmp 10, .tmp 11]) rfl ?_); at_builtin; refine Kd.R_append_rows (Kd.int .u8) (w0 := w) w.heap.size rfl (.tmp 10) (.tmp 11) 22 5 (.int .u8 0) 1 rfl Try.underlying22 info5 rfl (by decide) (by omega) v114 y113 l0 _ _ _ (fun _ => True) (fun _ => False) rfl rfl ?aO ?aR (fun _ _ h => h) (fun _ h => h.elim) ?aF ?aB ?aS ?aL ?_; (case aR => exact z22_); (case aB => exact z19_); (case aF => exact z89_); (case aO => exact z52_); (case aS => exact z18_); (case aL => have := LMc3.out; omega); intro v117 w43 ho hb hg hat; rw [← Ny116.out] at ho; have n0_ := Aside0.mk (blk_grown (g := gb112) (o := .cells #[.int .i64 a1_0, .int .i64 a1_1, .int .i64 a1_2, .int .i64 a1_3, .string a1_4] 24 (0, 0)) z48_ hg (Kd.R_ne HO115.out BK112.out (by decide))); have n1_ := Aside0.mk (hb); have n2_ := Aside0.mk (ho); clear BK112; clear HB; clear HO115; have BK112 := n0_; have HB := n1_; have HO118 := n2_; clear n0_ n1_ n2_; clear ho hb hg hat; have hcz44_0 : w43.cell? ⟨gb112, 0, none⟩ = some (.int .i64 a1_0) := (blk_cell BK112.out 0).trans rfl; have hcz44_1 : w43.cell? ⟨gb112, 1, none⟩ = some (.int .i64 a1_1) := (blk_cell BK112.out 1).trans rfl; have hcz44_2 : w43.cell? ⟨gb112, 2, none⟩ = some (.int .i64 a1_2) := (blk_cell BK112.out 2).trans rfl; have hcz44_3 : w43.cell? ⟨gb112, 3, none⟩ = some (.int .i64 a1_3) := (blk_cell BK112.out 3).trans rfl; have hcz44_4 : w43.cell? ⟨gb112, 4, none⟩ = some (.string a1_4) := (blk_cell BK112.out 4).trans rfl; have hfz44_0 := blk_frozen BK112.out 0; have hfz44_1 := blk_frozen BK112.out 1; have hfz44_2 := blk_frozen BK112.out 2; have hfz44_3 := blk_frozen BK112.out 3; have hfz44_4 := blk_frozen BK112.out 4) | ((with_reducible refine gate_callee (f := 10) rfl ?_); refine goesL_ (some 14) rfl rfl Try.func10 (by kernel_rfl) rfl #[.agg #[.int .i64 a1_0, .int .i64 a1_1, .int .i64 a1_2, .int .i64 a1_3, .string a1_4]] rfl z41_ ?_; (with_reducible refine (journal_Right.calls k a1_0 a1_1 a1_2 a1_3 a1_4 t119 _ A4.out).mono ?_); rintro e w45 ⟨rfl, hb⟩; refine ⟨_, rfl, ?_⟩; replace HO118 := Aside0.mk (Kd.R_below z55_ hb); replace BK112 := Aside0.mk (blk_below (g := gb112) (o := .cells #[.int .i64 a1_0, .int .i64 a1_1, .int .i64 a1_2, .int .i64 a1_3, .string a1_4] 24 (0, 0)) z48_ hb); replace HB := Aside0.mk (below_step z31_ hb); (try clear hb); (try clear hb2); (try clear hk); (try clear hi)))
    go_ret2
    exact ⟨_, z72_, z55_, z31_⟩
  rw [if_pos c5] at H
  have c5b0 : (t119 == 0) = true := beq_iff_eq.mpr c5
  have c5b1 : (t119 != 0) = false := bne_eq_false_iff_eq.mpr c5
  clear c5
  by_cases c6 : y116.length < 140737488355328
  rotate_left
  · rw [if_neg c6] at H
    exact absurd H (by simp)
  rw [if_pos c6] at H
  have LMc6 := Aside0.mk c6
  clear c6
  obtain ⟨y120, hy120⟩ : ∃ y_ : List Int, y_ = (y116 ++ [(a1_0) % 256]) := ⟨_, rfl⟩
  replace H : ((some (([a1_1, a1_2, a1_3] : List Int) : List Int)).bind fun y123 => ((journal_numbers.f k a1_0).bind fun t126 => (if 0 ≤ t126 then (if t126 ≤ (y123.length : Int) then ((some (y123.take (t126 : Int).toNat : List Int)).bind fun y127 => (journal_Append.l0 k y120 y127 (y127.length : Int) 0 a1_0 a1_1 a1_2 a1_3 a1_4)) else (none)) else (none)))) = some (r1, r2) := by first | (rw [hy120]; with_reducible exact H) | (have H2_ := (Option.bind_some _ _).symm.trans H; rw [hy120]; with_reducible exact H2_) | (have H2_ := (Option.bind_some _ _).symm.trans H; with_reducible exact H2_) | with_reducible exact H | (rw [hy120]; exact H) | exact H
  have Ny120 := Aside0.mk hy120
  clear hy120
  obtain ⟨y123, hy123⟩ : ∃ y_ : List Int, y_ = (([a1_1, a1_2, a1_3] : List Int)) := ⟨_, rfl⟩
  replace H : ((journal_numbers.f k a1_0).bind fun t126 => (if 0 ≤ t126 then (if t126 ≤ (y123.length : Int) then ((some (y123.take (t126 : Int).toNat : List Int)).bind fun y127 => (journal_Append.l0 k y120 y127 (y127.length : Int) 0 a1_0 a1_1 a1_2 a1_3 a1_4)) else (none)) else (none))) = some (r1, r2) := by first | (rw [hy123]; with_reducible exact H) | (have H2_ := (Option.bind_some _ _).symm.trans H; rw [hy123]; with_reducible exact H2_) | (have H2_ := (Option.bind_some _ _).symm.trans H; with_reducible exact H2_) | with_reducible exact H | (rw [hy123]; exact H) | exact H
  have Ny123 := Aside0.mk hy123
  clear hy123
  replace H := Option.bind_eq_some_iff.mp H
  obtain ⟨t126, A70, H⟩ := H
  replace H : (if 0 ≤ t126 then (if t126 ≤ (y123.length : Int) then ((some (y123.take (t126 : Int).toNat : List Int)).bind fun y127 => (journal_Append.l0 k y120 y127 (y127.length : Int) 0 a1_0 a1_1 a1_2 a1_3 a1_4)) else (none)) else (none)) = some (r1, r2) := H
  have A7 := Aside0.mk A70
  clear A70
  by_cases c8 : 0 ≤ t126
  rotate_left
  · rw [if_neg c8] at H
    exact absurd H (by simp)
  rw [if_pos c8] at H
  have c8b0 := eq_true c8
  have c8b1 : decide (0 ≤ t126) = true := decide_eq_true c8
  clear c8
  by_cases c9 : t126 ≤ (y123.length : Int)
  rotate_left
  · rw [if_neg c9] at H
    exact absurd H (by simp)
  rw [if_pos c9] at H
  have c9b0 := eq_true c9
  have c9b1 : decide (t126 ≤ (y123.length : Int)) = true := decide_eq_true c9
  clear c9
  obtain ⟨y127, hy127⟩ : ∃ y_ : List Int, y_ = (y123.take (t126 : Int).toNat) := ⟨_, rfl⟩
  replace H : (journal_Append.l0 k y120 y127 (y127.length : Int) 0 a1_0 a1_1 a1_2 a1_3 a1_4) = some (r1, r2) := by first | (rw [hy127]; with_reducible exact H) | (have H2_ := (Option.bind_some _ _).symm.trans H; rw [hy127]; with_reducible exact H2_) | (have H2_ := (Option.bind_some _ _).symm.trans H; with_reducible exact H2_) | with_reducible exact H | (rw [hy127]; exact H) | exact H
  have Ny127 := Aside0.mk hy127
  clear hy127
  have H' := Aside0.mk H
  clear H
  go_enter Try.func7, Try.ntmps7
  try go_wp2_with (first | ((with_reducible refine gate_dst (N := 3) rfl ?_); refine box_event ?hg (N := 3) ?hd (cs := #[.int .i64 a1_0, .int .i64 a1_1, .int .i64 a1_2, .int .i64 a1_3, .string a1_4]) (t := 24) ?hr ?_; (case hd => rfl); (case hg => rfl); (case hr => exact z82_); intro gb112 hg w10 hbox hb; have BK112 := Aside0.mk (hbox); have GW112 := Aside0.mk ((z29_ : w.heap.size ≤ gb112)); have GE112 := Aside0.mk ((z29_ : w.heap.size ≤ gb112)); replace HB := Aside0.mk (below_step z44_ hb); clear hb hbox hg) | ((with_reducible refine gate_dst (N := 10) rfl ?_); refine Kd.R_lit (Kd.int .u8) _ 5 ?hg (N := 10) ?hd (xs := ([] : List Int)) (inner := []) (ok := fun _ => True) (okp := fun _ => True) ?hr ?hp (fun _ hk => hk) trivial (Below.refl _ _) (Nat.le_refl _) (by simp) ?_; (case hd => rfl); (case hg => rfl); (case hr => exact z82_); (case hp => exact (Reps.none _ _)); intro v114 w11 ho12 hb hg_ hnew_; clear hg_ hnew_; (first | rw [← Ny113.out] at ho12 | (simp only [Int.reduceToNat] at ho12; rw [← Ny113.out] at ho12)); have HO115 := Aside0.mk (Kd.R_lower ho12 (below_size z31_)); replace BK112 := Aside0.mk (blk_below (g := gb112) (o := .cells #[.int .i64 a1_0, .int .i64 a1_1, .int .i64 a1_2, .int .i64 a1_3, .string a1_4] 24 (0, 0)) z48_ hb); replace HB := Aside0.mk (below_step z31_ hb); clear hb ho12) | ((with_reducible refine gate_builtin (b := .append) (xs := #[.tmp 10, .tmp 11]) rfl ?_); at_builtin; refine Kd.R_append_rows (Kd.int .u8) (w0 := w) w.heap.size rfl (.tmp 10) (.tmp 11) 22 5 (.int .u8 0) 1 rfl Try.underlying22 info5 rfl (by decide) (by omega) v114 y113 l0 _ _ _ (fun _ => True) (fun _ => False) rfl rfl ?aO ?aR (fun _ _ h => h) (fun _ h => h.elim) ?aF ?aB ?aS ?aL ?_; (case aR => exact z22_); (case aB => exact z19_); (case aF => exact z89_); (case aO => exact z52_); (case aS => exact z18_); (case aL => have := LMc3.out; omega); intro v117 w13 ho hb hg hat; rw [← Ny116.out] at ho; have n0_ := Aside0.mk (blk_grown (g := gb112) (o := .cells #[.int .i64 a1_0, .int .i64 a1_1, .int .i64 a1_2, .int .i64 a1_3, .string a1_4] 24 (0, 0)) z48_ hg (Kd.R_ne HO115.out BK112.out (by decide))); have n1_ := Aside0.mk (hb); have n2_ := Aside0.mk (ho); clear BK112; clear HB; clear HO115; have BK112 := n0_; have HB := n1_; have HO118 := n2_; clear n0_ n1_ n2_; clear ho hb hg hat; have hcz14_0 : w13.cell? ⟨gb112, 0, none⟩ = some (.int .i64 a1_0) := (blk_cell BK112.out 0).trans rfl; have hcz14_1 : w13.cell? ⟨gb112, 1, none⟩ = some (.int .i64 a1_1) := (blk_cell BK112.out 1).trans rfl; have hcz14_2 : w13.cell? ⟨gb112, 2, none⟩ = some (.int .i64 a1_2) := (blk_cell BK112.out 2).trans rfl; have hcz14_3 : w13.cell? ⟨gb112, 3, none⟩ = some (.int .i64 a1_3) := (blk_cell BK112.out 3).trans rfl; have hcz14_4 : w13.cell? ⟨gb112, 4, none⟩ = some (.string a1_4) := (blk_cell BK112.out 4).trans rfl; have hfz14_0 := blk_frozen BK112.out 0; have hfz14_1 := blk_frozen BK112.out 1; have hfz14_2 := blk_frozen BK112.out 2; have hfz14_3 := blk_frozen BK112.out 3; have hfz14_4 := blk_frozen BK112.out 4) | ((with_reducible refine gate_callee (f := 10) rfl ?_); refine goesL_ (some 14) rfl rfl Try.func10 (by kernel_rfl) rfl #[.agg #[.int .i64 a1_0, .int .i64 a1_1, .int .i64 a1_2, .int .i64 a1_3, .string a1_4]] rfl z41_ ?_; (with_reducible refine (journal_Right.calls k a1_0 a1_1 a1_2 a1_3 a1_4 t119 _ A4.out).mono ?_); rintro e w15 ⟨rfl, hb⟩; refine ⟨_, rfl, ?_⟩; replace HO118 := Aside0.mk (Kd.R_below z55_ hb); replace BK112 := Aside0.mk (blk_below (g := gb112) (o := .cells #[.int .i64 a1_0, .int .i64 a1_1, .int .i64 a1_2, .int .i64 a1_3, .string a1_4] 24 (0, 0)) z48_ hb); replace HB := Aside0.mk (below_step z31_ hb); (try clear hb); (try clear hb2); (try clear hk); (try clear hi); have hcz16_0 : w15.cell? ⟨gb112, 0, none⟩ = some (.int .i64 a1_0) := (blk_cell BK112.out 0).trans rfl; have hcz16_1 : w15.cell? ⟨gb112, 1, none⟩ = some (.int .i64 a1_1) := (blk_cell BK112.out 1).trans rfl; have hcz16_2 : w15.cell? ⟨gb112, 2, none⟩ = some (.int .i64 a1_2) := (blk_cell BK112.out 2).trans rfl; have hcz16_3 : w15.cell? ⟨gb112, 3, none⟩ = some (.int .i64 a1_3) := (blk_cell BK112.out 3).trans rfl; have hcz16_4 : w15.cell? ⟨gb112, 4, none⟩ = some (.string a1_4) := (blk_cell BK112.out 4).trans rfl; have hfz16_0 := blk_frozen BK112.out 0; have hfz16_1 := blk_frozen BK112.out 1; have hfz16_2 := blk_frozen BK112.out 2; have hfz16_3 := blk_frozen BK112.out 3; have hfz16_4 := blk_frozen BK112.out 4) | ((with_reducible refine gate_builtin (b := .append) (xs := #[.tmp 19, .tmp 23]) rfl ?_); at_builtin; refine Kd.R_append (Kd.int .u8) (w0 := w) w.heap.size rfl (.tmp 19) (.tmp 23) 22 5 (.int .u8 0) 1 rfl Try.underlying22 info5 rfl (by decide) (by omega) v117 y116 ((a1_0) % 256) [.int .u8 ((a1_0) % 256)] (fun _ => True) (fun _ => False) rfl rfl ?aP (fun _ hk => hk.elim) ?aF ?aO ?aB ?aS ?aL ?_; (case aP => exact rfl); (case aB => exact z19_); (case aF => exact z89_); (case aO => exact z55_); (case aS => exact z18_); (case aL => have := LMc6.out; omega); intro v121 w17 ho hb hg hat; rw [← Ny120.out] at ho; have n0_ := Aside0.mk (blk_grown (g := gb112) (o := .cells #[.int .i64 a1_0, .int .i64 a1_1, .int .i64 a1_2, .int .i64 a1_3, .string a1_4] 24 (0, 0)) z48_ hg (Kd.R_ne HO118.out BK112.out (by decide))); have n1_ := Aside0.mk (hb); have n2_ := Aside0.mk (ho); clear BK112; clear HB; clear HO118; have BK112 := n0_; have HB := n1_; have HO122 := n2_; clear n0_ n1_ n2_; clear ho hb hg hat))
  replace HO122 := Aside0.mk (Kd.R_drew HO122.out)
  replace BK112 := Aside0.mk (blk_drew BK112.out)
  replace HB := Aside0.mk (below_drew1 HB.out)
  refine start_ (n := 13) (S := fun w' => w'.cell? ⟨gb112, 0, none⟩ = some (.int .i64 a1_0) ∧ w'.cell? ⟨gb112, 1, none⟩ = some (.int .i64 a1_1) ∧ w'.cell? ⟨gb112, 2, none⟩ = some (.int .i64 a1_2) ∧ w'.cell? ⟨gb112, 3, none⟩ = some (.int .i64 a1_3) ∧ w'.cell? ⟨gb112, 4, none⟩ = some (.string a1_4)) (ds := []) #[false, false, false, false, false, false, false, false, false, false, false, false, false] (by kernel_rfl) rfl rfl ⟨(blk_cell BK112.out 0).trans rfl, (blk_cell BK112.out 1).trans rfl, (blk_cell BK112.out 2).trans rfl, (blk_cell BK112.out 3).trans rfl, (blk_cell BK112.out 4).trans rfl⟩ (fun hHeld => ?_); refine with_tabW journal_Append.tab6 journal_Append.bits6 (fun HT_ HW_ => ?_)
  generalize w17.drew = w18 at HO122 BK112 HB hHeld ⊢
  refine p1_ 0 25 #[true, false, false, false, false, false, false, false, false, false, false, false, false] ?_
  refine p1_ 2 27 #[true, false, true, false, false, false, false, false, false, false, false, false, false] ?_
  refine p1_ 4 29 #[true, false, true, false, true, false, false, false, false, false, false, false, false] ?_
  refine p1_ 7 32 #[true, false, true, false, true, false, false, true, false, false, false, false, false] ?_
  refine p1_ 12 37 #[true, false, true, false, true, false, false, true, false, false, false, false, true] ?_
  refine take_ (i := 1) (N := some 26) (v := ?_) (a' := ?_) #[true, true, true, false, true, false, false, true, false, false, false, false, true] rfl rfl (take_ofW HT_.out HW_.out (by kernel_rfl)) (fun _ _ _ h => h) (Or.inl ⟨by rfl, ?_⟩) hHeld ?_ ?_
  rotate_left
  · rintro w' ⟨s0, s1, s2, s3, s4⟩
    go_simp
    with_reducible rfl
  rotate_left
  · simp only [Act.put, List.setIfInBounds_toArray, List.set_cons_zero, List.set_cons_succ, i64_w, i32_w]
    rfl
  refine take_ (i := 3) (N := some 28) (v := ?_) (a' := ?_) #[true, true, true, true, true, false, false, true, false, false, false, false, true] rfl rfl (take_ofW HT_.out HW_.out (by kernel_rfl)) (fun _ _ _ h => h) (Or.inl ⟨by rfl, ?_⟩) hHeld ?_ ?_
  rotate_left
  · rintro w' ⟨s0, s1, s2, s3, s4⟩
    go_simp
    with_reducible rfl
  rotate_left
  · simp only [Act.put, List.setIfInBounds_toArray, List.set_cons_zero, List.set_cons_succ, i64_w, i32_w]
    rfl
  refine take_ (i := 5) (N := some 30) (v := ?_) (a' := ?_) #[true, true, true, true, true, true, false, true, false, false, false, false, true] rfl rfl (take_ofW HT_.out HW_.out (by kernel_rfl)) (fun _ _ _ h => h) (Or.inl ⟨by rfl, ?_⟩) hHeld ?_ ?_
  rotate_left
  · rintro w' ⟨s0, s1, s2, s3, s4⟩
    go_simp
    with_reducible rfl
  rotate_left
  · simp only [Act.put, List.setIfInBounds_toArray, List.set_cons_zero, List.set_cons_succ, i64_w, i32_w]
    rfl
  refine take_ (i := 8) (N := some 33) (v := ?_) (a' := ?_) #[true, true, true, true, true, true, false, true, true, false, false, false, true] rfl rfl (take_ofW HT_.out HW_.out (by kernel_rfl)) (fun _ _ _ h => h) (Or.inl ⟨by rfl, ?_⟩) hHeld ?_ ?_
  rotate_left
  · rintro w' ⟨s0, s1, s2, s3, s4⟩
    go_simp
    with_reducible rfl
  rotate_left
  · simp only [Act.put, List.setIfInBounds_toArray, List.set_cons_zero, List.set_cons_succ, i64_w, i32_w]
    rfl
  refine join_ (σ := Value) 2 bs43_ (fun s_ => [(31, s_), (34, .int .i64 t126)]) (fun s_ w' => (w'.cell? ⟨gb112, 0, none⟩ = some (.int .i64 a1_0) ∧ w'.cell? ⟨gb112, 1, none⟩ = some (.int .i64 a1_1) ∧ w'.cell? ⟨gb112, 2, none⟩ = some (.int .i64 a1_2) ∧ w'.cell? ⟨gb112, 3, none⟩ = some (.int .i64 a1_3) ∧ w'.cell? ⟨gb112, 4, none⟩ = some (.string a1_4)) ∧ (Kd.R (Kd.int .u8) 5 w' w.heap.size (fun _ => True) v121 y120) ∧ (Kd.R (Kd.int .i64) 3 w' w.heap.size (fun _ => True) s_ y123) ∧ (w'.heap[gb112]? = some (.cells #[.int .i64 a1_0, .int .i64 a1_1, .int .i64 a1_2, .int .i64 a1_3, .string a1_4] 24 (0, 0))) ∧ (Below w.heap.size w w')) ?_ ?_
  rotate_left
  · intro hCont
    refine two_ (i := 6) (j := 9) (Ni := some 31) (Nj := some 34) #[true, true, true, true, true, true, true, true, true, false, false, false, true] #[true, true, true, true, true, true, false, true, true, true, false, false, true] rfl rfl rfl rfl (two_of HT_.out (by kernel_rfl)) (by decide) (by decide) (fun K hK => ?_) (fun K hK => ?_)
    · skip
      refine Kd.R_lit_step (Kd.int .i64) _ 3 ?hg (N := 31) ?hd (xs := ([a1_1, a1_2, a1_3] : List Int)) (inner := [.int .i64 a1_1, .int .i64 a1_2, .int .i64 a1_3]) (ok := fun _ => True) (okp := fun _ => True) ?hr ?hp (fun _ hk => hk) trivial (Below.refl _ _) (Nat.le_refl _) (by simp) ?_; (case hd => rfl); (case hg => rfl); (case hr => exact z82_); (case hp => exact z11_)
      intro v124 w19 ho20 hb hg_ hnew_
      clear hg_ hnew_
      (first | rw [← Ny123.out] at ho20 | (simp only [Int.reduceToNat] at ho20; rw [← Ny123.out] at ho20))
      replace HO122 := Aside0.mk (Kd.R_below z56_ hb)
      have HO125 := Aside0.mk (Kd.R_lower ho20 (below_size z31_))
      replace BK112 := Aside0.mk (blk_below (g := gb112) (o := .cells #[.int .i64 a1_0, .int .i64 a1_1, .int .i64 a1_2, .int .i64 a1_3, .string a1_4] 24 (0, 0)) z48_ hb)
      replace HB := Aside0.mk (below_step z31_ hb)
      clear hb ho20
      refine hK.out _ _ ⟨(blk_cell BK112.out 0).trans rfl, (blk_cell BK112.out 1).trans rfl, (blk_cell BK112.out 2).trans rfl, (blk_cell BK112.out 3).trans rfl, (blk_cell BK112.out 4).trans rfl⟩ (fun hHeld => ?_)
      clear hK K
      refine norm_ (a' := ?_) ?_ ?_
      rotate_left
      · show Act.put _ (some 31) _ = _
        simp only [Act.put, List.setIfInBounds_toArray, List.set_cons_zero, List.set_cons_succ, i64_w, i32_w]
        rfl
      refine one_ (i := 9) (N := some 34) bs43_ rfl rfl (one_of HT_.out (by kernel_rfl)) (by decide) (fun K hK => ?_)
      refine goes_ Try.func18 (by kernel_rfl) rfl #[.int .i64 a1_0] (by rfl) rfl rfl z41_ ?_
      with_reducible refine (journal_numbers.calls k a1_0 t126 _ A7.out).mono ?_
      rintro e w' ⟨rfl, ⟨nd, rfl⟩⟩
      refine ⟨_, rfl, ?_⟩
      refine hK.out _ _ ⟨(blk_cell BK112.out 0).trans rfl, (blk_cell BK112.out 1).trans rfl, (blk_cell BK112.out 2).trans rfl, (blk_cell BK112.out 3).trans rfl, (blk_cell BK112.out 4).trans rfl⟩ (fun hHeld => ?_)
      clear hK K
      refine norm_ (a' := ?_) ?_ ?_
      rotate_left
      · show Act.put _ (some 34) _ = _
        simp only [Act.put, List.setIfInBounds_toArray, List.set_cons_zero, List.set_cons_succ, i64_w, i32_w]
        rfl
      exact norm_ z71_ (hCont (v124) _ ⟨hHeld, z56_, z57_, z48_, z31_⟩)
    · skip
      refine goes_ Try.func18 (by kernel_rfl) rfl #[.int .i64 a1_0] (by rfl) rfl rfl z41_ ?_
      with_reducible refine (journal_numbers.calls k a1_0 t126 _ A7.out).mono ?_
      rintro e w' ⟨rfl, ⟨nd, rfl⟩⟩
      refine ⟨_, rfl, ?_⟩
      refine hK.out _ _ ⟨(blk_cell BK112.out 0).trans rfl, (blk_cell BK112.out 1).trans rfl, (blk_cell BK112.out 2).trans rfl, (blk_cell BK112.out 3).trans rfl, (blk_cell BK112.out 4).trans rfl⟩ (fun hHeld => ?_)
      clear hK K
      refine norm_ (a' := ?_) ?_ ?_
      rotate_left
      · show Act.put _ (some 34) _ = _
        simp only [Act.put, List.setIfInBounds_toArray, List.set_cons_zero, List.set_cons_succ, i64_w, i32_w]
        rfl
      refine one_ (i := 6) (N := some 31) bs43_ rfl rfl (one_of HT_.out (by kernel_rfl)) (by decide) (fun K hK => ?_)
      refine Kd.R_lit_step (Kd.int .i64) _ 3 ?hg (N := 31) ?hd (xs := ([a1_1, a1_2, a1_3] : List Int)) (inner := [.int .i64 a1_1, .int .i64 a1_2, .int .i64 a1_3]) (ok := fun _ => True) (okp := fun _ => True) ?hr ?hp (fun _ hk => hk) trivial (Below.refl _ _) (Nat.le_refl _) (by simp) ?_; (case hd => rfl); (case hg => rfl); (case hr => exact z82_); (case hp => exact z11_)
      intro v124 w19 ho20 hb hg_ hnew_
      clear hg_ hnew_
      (first | rw [← Ny123.out] at ho20 | (simp only [Int.reduceToNat] at ho20; rw [← Ny123.out] at ho20))
      replace HO122 := Aside0.mk (Kd.R_below z56_ hb)
      have HO125 := Aside0.mk (Kd.R_lower ho20 (below_size z31_))
      replace BK112 := Aside0.mk (blk_below (g := gb112) (o := .cells #[.int .i64 a1_0, .int .i64 a1_1, .int .i64 a1_2, .int .i64 a1_3, .string a1_4] 24 (0, 0)) z48_ hb)
      replace HB := Aside0.mk (below_step z31_ hb)
      clear hb ho20
      refine hK.out _ _ ⟨(blk_cell BK112.out 0).trans rfl, (blk_cell BK112.out 1).trans rfl, (blk_cell BK112.out 2).trans rfl, (blk_cell BK112.out 3).trans rfl, (blk_cell BK112.out 4).trans rfl⟩ (fun hHeld => ?_)
      clear hK K
      refine norm_ (a' := ?_) ?_ ?_
      rotate_left
      · show Act.put _ (some 31) _ = _
        simp only [Act.put, List.setIfInBounds_toArray, List.set_cons_zero, List.set_cons_succ, i64_w, i32_w]
        rfl
      exact norm_ z71_ (hCont (v124) _ ⟨hHeld, z56_, z57_, z48_, z31_⟩)
  rintro v124 w21 ⟨hS_, h0_, h1_, h2_, h3_⟩
  have n0_ : Aside0 (Kd.R (Kd.int .u8) 5 w21 w.heap.size (fun _ => True) v121 y120) := ⟨h0_⟩
  have n1_ : Aside0 (Kd.R (Kd.int .i64) 3 w21 w.heap.size (fun _ => True) v124 y123) := ⟨h1_⟩
  have n2_ : Aside0 (w21.heap[gb112]? = some (.cells #[.int .i64 a1_0, .int .i64 a1_1, .int .i64 a1_2, .int .i64 a1_3, .string a1_4] 24 (0, 0))) := ⟨h2_⟩
  have n3_ : Aside0 (Below w.heap.size w w21) := ⟨h3_⟩
  clear HO122
  clear BK112
  clear HB
  clear h0_ h1_ h2_ h3_
  have HO122 := n0_
  have HO125 := n1_
  have BK112 := n2_
  have HB := n3_
  clear n0_ n1_ n2_ n3_
  have hHeld : w21.cell? ⟨gb112, 0, none⟩ = some (.int .i64 a1_0) ∧ w21.cell? ⟨gb112, 1, none⟩ = some (.int .i64 a1_1) ∧ w21.cell? ⟨gb112, 2, none⟩ = some (.int .i64 a1_2) ∧ w21.cell? ⟨gb112, 3, none⟩ = some (.int .i64 a1_3) ∧ w21.cell? ⟨gb112, 4, none⟩ = some (.string a1_4) := hS_
  obtain ⟨Ao22, co22, eo22⟩ := Kd.R_slice HO125.out
  (first | subst eo22 | (injection eo22 with f1_ f2_ f3_; have f4_ := f1_.symm; have f5_ := f3_.symm; clear f1_ f2_ f3_; subst f4_; subst f5_))
  have q23 : (t126 : Int) ≤ ((y123.length : Int) : Int) := of_decide_eq_true z80_
  obtain ⟨i023, hi023, _, hsz23, _⟩ := info_parts info3
  have hcut23 := cut_to (P := Try.prog) 45 3 .i64 Try.underlying45 hi023 Ao22 y123.length co22 t126 (of_decide_eq_true z80_) q23 (Kd.R_reads' HO125.out).2.1
  have hr23 := Kd.R_take (m := (t126 : Int).toNat) HO125.out (by omega)
  have hy23 : y127.length = (t126 : Int).toNat := (by rw [Ny127.out, List.length_take]; omega)
  rw [← Ny127.out] at hr23
  rw [← hy23] at hr23 hcut23
  clear hy23 hi023 hsz23 HO125
  have HO129 := Aside0.mk hr23
  clear hr23
  replace q23 := eq_true q23
  refine norm_ (a' := ?_) ?_ ?_
  rotate_left
  · simp only [putAll, Act.put, List.setIfInBounds_toArray, List.set_cons_zero, List.set_cons_succ]
    rfl
  refine p1_ 10 35 #[true, true, true, true, true, true, true, true, true, true, true, false, true] ?_
  refine p1_ 11 36 #[true, true, true, true, true, true, true, true, true, true, true, true, true] ?_
  refine done_ (done_of HT_.out (by kernel_rfl)) ?_
  try go_wp2
  go_loopg [6, 37] k (fun kq v6 v37 w' => ∃ (x6_1 : List Int) (x37_1 : Int), v37 = .int .i64 x37_1 ∧ Aside0 (journal_Append.l0 kq x6_1 y127 (y127.length : Int) x37_1 a1_0 a1_1 a1_2 a1_3 a1_4 = some (r1, r2)) ∧ Aside0 (kq ≤ k) ∧ Aside0 (Kd.R (Kd.int .u8) 5 w' w.heap.size (fun _ => True) v6 x6_1) ∧ Aside0 (Kd.R (Kd.int .i64) 3 w' w.heap.size (fun _ => True) (.slice Ao22 y127.length co22) y127) ∧ Aside0 (w'.heap[gb112]? = some (.cells #[.int .i64 a1_0, .int .i64 a1_1, .int .i64 a1_2, .int .i64 a1_3, .string a1_4] 24 (0, 0))) ∧ Aside0 (Below w.heap.size w w'))
  case atStart => exact ⟨(y120), (0), z81_, H', ⟨Nat.le_refl _⟩, ⟨z56_⟩, ⟨y74_ HO129.out⟩, ⟨z48_⟩, ⟨z31_⟩⟩
  case round =>
    clear H'
    try clear c1
    try clear p2
    try clear q2
    try clear c3
    try clear c5
    try clear c5b0
    try clear c5b1
    try clear c6
    try clear c7
    try clear c8
    try clear c8b0
    try clear c8b1
    try clear c9
    try clear c9b0
    try clear c9b1
    try clear c10
    try clear c18
    try clear q23
    try clear hcz14_0
    try clear hcz14_1
    try clear hcz14_2
    try clear hcz14_3
    try clear hcz14_4
    try clear hcz16_0
    try clear hcz16_1
    try clear hcz16_2
    try clear hcz16_3
    try clear hcz16_4
    try clear hfz14_0
    try clear hfz14_1
    try clear hfz14_2
    try clear hfz14_3
    try clear hfz14_4
    try clear hfz16_0
    try clear hfz16_1
    try clear hfz16_2
    try clear hfz16_3
    try clear hfz16_4
    try clear q23
    obtain ⟨x6_1, x37_1, rfl, HA, HK1, HO_6, HO_35, BK112, HB⟩ := hrel
    cases gk with
    | zero => exact absurd HA.out (by simp [journal_Append.l0])
    | succ k1 =>
      have H := HA.out
      clear HA
      simp only [journal_Append.l0] at H
      by_cases c24 : x37_1 < (y127.length : Int)
      · rw [if_pos c24] at H
        have c24b0 : decide (x37_1 < (y127.length : Int)) = true := decide_eq_true c24
        clear c24
        by_cases c25 : 0 ≤ x37_1
        rotate_left
        · rw [if_neg c25] at H
          exact absurd H (by simp)
        rw [if_pos c25] at H
        have c25b0 : decide (0 ≤ x37_1) = true := decide_eq_true c25
        clear c25
        by_cases c26 : x37_1 < (y127.length : Int)
        rotate_left
        · rw [if_neg c26] at H
          exact absurd H (by simp)
        rw [if_pos c26] at H
        have c26b0 : decide (x37_1 < (y127.length : Int)) = true := decide_eq_true c26
        clear c26
        replace H := Option.bind_eq_some_iff.mp H
        obtain ⟨t131, A270, H⟩ := H
        replace H : ((journal_putNumber.f k1 x6_1 t131).bind fun t132 => (journal_Append.l0 k1 t132 y127 (y127.length : Int) (wrap64 (x37_1 + 1)) a1_0 a1_1 a1_2 a1_3 a1_4)) = some (r1, r2) := H
        have A27 := Aside0.mk A270
        clear A270
        replace H := Option.bind_eq_some_iff.mp H
        obtain ⟨t132, A280, H⟩ := H
        replace H : (journal_Append.l0 k1 t132 y127 (y127.length : Int) (wrap64 (x37_1 + 1)) a1_0 a1_1 a1_2 a1_3 a1_4) = some (r1, r2) := H
        have A28 := Aside0.mk A280
        clear A280
        have H' := Aside0.mk H
        clear H
        have p130 : 0 ≤ (x37_1 : Int) := of_decide_eq_true z80_
        have q130 : x37_1 < (y127.length : Int) := of_decide_eq_true z80_
        obtain ⟨ad130, e130, hx130_0⟩ := Kd.at_int (Kd.R_reads' HO_35.out).2.2 x37_1 p130 q130
        cases e130
        replace p130 := eq_true p130
        replace q130 := eq_true q130
        go_wp2_with (first | ((with_reducible refine gate_callee (f := 20) rfl ?_); refine goesL_ (some 43) rfl rfl Try.func20 (by kernel_rfl) rfl #[.int .i64 (rd y127 x37_1)] rfl z41_ ?_; (with_reducible refine (journal_folded.calls (rd y127 x37_1) t131 _ A27.out).mono ?_); rintro e w' ⟨rfl, ⟨nd, rfl⟩⟩; refine ⟨_, rfl, ?_⟩; obtain ⟨Ao29, co29, eo29⟩ := Kd.R_slice HO_6.out; subst eo29) | ((with_reducible refine gate_callee (f := 19) rfl ?_); refine goesL_ (some 44) rfl rfl Try.func19 (by kernel_rfl) rfl #[.slice Ao29 x6_1.length co29, .int .u64 t131] rfl z41_ ?_; (with_reducible refine (journal_putNumber.calls k1 (fun k_ => some k_ = (.slice Ao29 x6_1.length co29 : Value).ownBlock) (.slice Ao29 x6_1.length co29) x6_1 t131 t132 w _ ?side1 ?side2 A28.out).mono ?_); (case side1 => exact z31_); (case side2 => exact Kd.R_tight rfl HO_6.out); rintro e w30 ⟨v133, rfl, ho0, hb, hkp⟩; refine ⟨_, rfl, ?_⟩; have n0_ := Aside0.mk (Kd.R_mono (ok' := fun k_ => True) (Kd.R_keptB ((Kd.R_apart' HO_35.out (Kd.R_typed HO_6.out) (by decide))) hkp (fun k_ hk_ hs_ => (hk_.2) hs_)) (fun k_ hk_ => trivial)); have n1_ := Aside0.mk (blk_kept z48_ hkp (fun hs_ => (fun e_ => (Kd.R_ne HO_6.out BK112.out (by decide)) e_) hs_)); have n2_ := Aside0.mk (Kd.R_mono (ok' := fun k_ => True) ho0 (fun k_ hk_ => trivial)); have n3_ := Aside0.mk (hb); clear HO_35; clear BK112; clear HB; clear HO_6; have HO_35 := n0_; have BK112 := n1_; have HO134 := n2_; have HB := n3_; clear n0_ n1_ n2_ n3_; (try clear hb); (try clear hkp); (try clear ho0)))
        go_roundg k1
        case measure => have := HK1.out; omega
        case rel => exact ⟨(t132), (wrap64 (x37_1 + 1)), z81_, H', ⟨z91_⟩, ⟨y74_ HO134.out⟩, ⟨z66_⟩, ⟨z48_⟩, ⟨z31_⟩⟩
      rw [if_neg c24] at H
      have c24b0 : decide (x37_1 < (y127.length : Int)) = false := decide_eq_false c24
      clear c24
      by_cases c31 : a1_0 = 1
      rotate_left
      · rw [if_neg c31] at H
        have c31b0 : (a1_0 == 1) = false := beq_eq_false_iff_ne.mpr c31
        have c31b1 : (a1_0 != 1) = true := bne_iff_ne.mpr c31
        simp only [Option.some.injEq, Prod.mk.injEq] at H
        obtain ⟨rfl, rfl⟩ := H
        have hcz39_0 : wr.cell? ⟨gb112, 0, none⟩ = some (.int .i64 a1_0) := (blk_cell BK112.out 0).trans rfl
        have hcz39_1 : wr.cell? ⟨gb112, 1, none⟩ = some (.int .i64 a1_1) := (blk_cell BK112.out 1).trans rfl
        have hcz39_2 : wr.cell? ⟨gb112, 2, none⟩ = some (.int .i64 a1_2) := (blk_cell BK112.out 2).trans rfl
        have hcz39_3 : wr.cell? ⟨gb112, 3, none⟩ = some (.int .i64 a1_3) := (blk_cell BK112.out 3).trans rfl
        have hcz39_4 : wr.cell? ⟨gb112, 4, none⟩ = some (.string a1_4) := (blk_cell BK112.out 4).trans rfl
        have hfz39_0 := blk_frozen BK112.out 0
        have hfz39_1 := blk_frozen BK112.out 1
        have hfz39_2 := blk_frozen BK112.out 2
        have hfz39_3 := blk_frozen BK112.out 3
        have hfz39_4 := blk_frozen BK112.out 4
        go_wp2
        go_ret2
        exact ⟨_, z72_, z69_, z31_⟩
      rw [if_pos c31] at H
      have c31b0 : (a1_0 == 1) = true := beq_iff_eq.mpr c31
      have c31b1 : (a1_0 != 1) = false := bne_eq_false_iff_eq.mpr c31
      clear c31
      replace H := Option.bind_eq_some_iff.mp H
      obtain ⟨t135, A320, H⟩ := H
      replace H : (if t135.length + a1_4.size < 140737488355328 then (some ((t135 ++ bytesOf a1_4), 0)) else (none)) = some (r1, r2) := H
      have A32 := Aside0.mk A320
      clear A320
      by_cases c33 : t135.length + a1_4.size < 140737488355328
      rotate_left
      · rw [if_neg c33] at H
        exact absurd H (by simp)
      rw [if_pos c33] at H
      have LMc33 := Aside0.mk c33
      clear c33
      obtain ⟨y138, hy138⟩ : ∃ y_ : List Int, y_ = (t135 ++ bytesOf a1_4) := ⟨_, rfl⟩
      replace H : (some (y138, 0)) = some (r1, r2) := by first | (rw [hy138]; with_reducible exact H) | (have H2_ := (Option.bind_some _ _).symm.trans H; rw [hy138]; with_reducible exact H2_) | (have H2_ := (Option.bind_some _ _).symm.trans H; with_reducible exact H2_) | with_reducible exact H | (rw [hy138]; exact H) | exact H
      have Ny138 := Aside0.mk hy138
      clear hy138
      simp only [Option.some.injEq, Prod.mk.injEq] at H
      obtain ⟨rfl, rfl⟩ := H
      have hcz34_0 : wr.cell? ⟨gb112, 0, none⟩ = some (.int .i64 a1_0) := (blk_cell BK112.out 0).trans rfl
      have hcz34_1 : wr.cell? ⟨gb112, 1, none⟩ = some (.int .i64 a1_1) := (blk_cell BK112.out 1).trans rfl
      have hcz34_2 : wr.cell? ⟨gb112, 2, none⟩ = some (.int .i64 a1_2) := (blk_cell BK112.out 2).trans rfl
      have hcz34_3 : wr.cell? ⟨gb112, 3, none⟩ = some (.int .i64 a1_3) := (blk_cell BK112.out 3).trans rfl
      have hcz34_4 : wr.cell? ⟨gb112, 4, none⟩ = some (.string a1_4) := (blk_cell BK112.out 4).trans rfl
      have hfz34_0 := blk_frozen BK112.out 0
      have hfz34_1 := blk_frozen BK112.out 1
      have hfz34_2 := blk_frozen BK112.out 2
      have hfz34_3 := blk_frozen BK112.out 3
      have hfz34_4 := blk_frozen BK112.out 4
      obtain ⟨Ao35, co35, eo35⟩ := Kd.R_slice HO_6.out
      subst eo35
      go_wp2_with (first | ((with_reducible refine gate_callee (f := 19) rfl ?_); refine goesL_ (some 54) rfl rfl Try.func19 (by kernel_rfl) rfl #[.slice Ao35 x6_1.length co35, .int .u64 (IntKind.u64.wrap ((a1_4.size : Int)))] rfl z41_ ?_; (with_reducible refine (journal_putNumber.calls k1 (fun k_ => some k_ = (.slice Ao35 x6_1.length co35 : Value).ownBlock) (.slice Ao35 x6_1.length co35) x6_1 (IntKind.u64.wrap ((a1_4.size : Int))) t135 w _ ?side1 ?side2 A32.out).mono ?_); (case side1 => exact z31_); (case side2 => exact Kd.R_tight rfl HO_6.out); rintro e w36 ⟨v136, rfl, ho0, hb, hkp⟩; refine ⟨_, rfl, ?_⟩; have n0_ := Aside0.mk (Kd.R_mono (ok' := fun k_ => True) (Kd.R_keptB ((Kd.R_apart' HO_35.out (Kd.R_typed HO_6.out) (by decide))) hkp (fun k_ hk_ hs_ => (hk_.2) hs_)) (fun k_ hk_ => trivial)); have n1_ := Aside0.mk (blk_kept z48_ hkp (fun hs_ => (fun e_ => (Kd.R_ne HO_6.out BK112.out (by decide)) e_) hs_)); have n2_ := Aside0.mk (Kd.R_mono (ok' := fun k_ => True) ho0 (fun k_ hk_ => trivial)); have n3_ := Aside0.mk (hb); clear HO_35; clear BK112; clear HB; clear HO_6; have HO_35 := n0_; have BK112 := n1_; have HO137 := n2_; have HB := n3_; clear n0_ n1_ n2_ n3_; (try clear hb); (try clear hkp); (try clear ho0); have hcz37_0 : w36.cell? ⟨gb112, 0, none⟩ = some (.int .i64 a1_0) := (blk_cell BK112.out 0).trans rfl; have hcz37_1 : w36.cell? ⟨gb112, 1, none⟩ = some (.int .i64 a1_1) := (blk_cell BK112.out 1).trans rfl; have hcz37_2 : w36.cell? ⟨gb112, 2, none⟩ = some (.int .i64 a1_2) := (blk_cell BK112.out 2).trans rfl; have hcz37_3 : w36.cell? ⟨gb112, 3, none⟩ = some (.int .i64 a1_3) := (blk_cell BK112.out 3).trans rfl; have hcz37_4 : w36.cell? ⟨gb112, 4, none⟩ = some (.string a1_4) := (blk_cell BK112.out 4).trans rfl; have hfz37_0 := blk_frozen BK112.out 0; have hfz37_1 := blk_frozen BK112.out 1; have hfz37_2 := blk_frozen BK112.out 2; have hfz37_3 := blk_frozen BK112.out 3; have hfz37_4 := blk_frozen BK112.out 4) | (at_builtin; refine print_append_str (w0 := w) w.heap.size rfl (.tmp 55) _ 22 9 5 rfl Try.underlying22 Try.underlying9 info5 v136 t135 a1_4 rfl rfl ?aO ?aB ?aS ?aL ?_; (case aB => exact z19_); (case aO => exact (Kd.own_of_R z58_)); (case aS => exact z18_); (case aL => have := LMc33.out; omega); intro v139 w38 ho0 hb hg; have ho := Kd.R_of_own (h1 := fun _ => rfl) (ok := fun _ => True) ho0 (fun _ _ => trivial); clear ho0; have hat := True.intro; rw [← Ny138.out] at ho; change Kd.R (Kd.int .u8) 5 w38 w.heap.size (fun _ => True) v139 y138 at ho; have n0_ := Aside0.mk (Kd.R_over' z66_ (Kd.R_typed z58_) (by decide) hg); have n1_ := Aside0.mk (blk_grown (g := gb112) (o := .cells #[.int .i64 a1_0, .int .i64 a1_1, .int .i64 a1_2, .int .i64 a1_3, .string a1_4] 24 (0, 0)) z48_ hg (Kd.R_ne HO137.out BK112.out (by decide))); have n2_ := Aside0.mk (hb); have n3_ := Aside0.mk (ho); clear HO_35; clear BK112; clear HB; clear HO137; have HO_35 := n0_; have BK112 := n1_; have HB := n2_; have HO140 := n3_; clear n0_ n1_ n2_ n3_; clear ho hb hg hat))
      go_ret2
      exact ⟨_, z72_, y74_ HO140.out, z31_⟩
/-! ### regletlaw23_awake: function 6 -/
def regletlaw23_awake.f (k : Nat)  : Option (Bool) := (journal_Append.f k ([] : List Int) 1 3 0 0 (⟨#[97, 98]⟩ : ByteArray)).bind fun bt141 => ((journal_Append.f k ([] : List Int) 4 (-1) 0 0 (⟨#[]⟩ : ByteArray)).bind fun bt145 => (if bt141.2 = 0 then (if bt145.2 = 0 then (if (strOfNums bt141.1).toList = ([1, 6, 2, 97, 98] : List UInt8) then (some ((strOfNums bt145.1).toList == ([4, 1] : List UInt8))) else (some false)) else (some false)) else (some false)))
theorem regletlaw23_awake.mono : ∀ k, LeO (regletlaw23_awake.f k ) (regletlaw23_awake.f (k + 1) ) := by
  intro  k
  unfold regletlaw23_awake.f
  repeat' first | (with_reducible first | exact journal_Append.mono _ _ _ _ _ _ _ | exact LeO.refl _ | exact LeO.none _ | refine LeO.ite ?_ ?_ | refine LeO.bind ?_ (fun _ => ?_)) | exact journal_Append.mono _ _ _ _ _ _ _ | exact LeO.none _ | refine LeO.ite ?_ ?_ | refine LeO.bind ?_ (fun _ => ?_)
set_option maxHeartbeats 8000000 in
set_option maxRecDepth 100000 in
theorem regletlaw23_awake.calls (k : Nat)  (r : Bool) (w : World) (h : regletlaw23_awake.f k  = some r) :
    Calls Try.prog 6 #[] w fun e w' => e = .returned (.bool r) ∧ Below w.heap.size w w' := by
  have hu24 := Try.underlying24
  have HB := Aside0.mk (Below.refl w.heap.size w)
  have H : ((journal_Append.f k ([] : List Int) 1 3 0 0 (⟨#[97, 98]⟩ : ByteArray)).bind fun bt141 => ((journal_Append.f k ([] : List Int) 4 (-1) 0 0 (⟨#[]⟩ : ByteArray)).bind fun bt145 => (if bt141.2 = 0 then (if bt145.2 = 0 then (if (strOfNums bt141.1).toList = ([1, 6, 2, 97, 98] : List UInt8) then (some ((strOfNums bt145.1).toList == ([4, 1] : List UInt8))) else (some false)) else (some false)) else (some false)))) = some r := h
  clear h
  replace H := Option.bind_eq_some_iff.mp H
  obtain ⟨⟨t141, t144⟩, A10, H⟩ := H
  replace H : ((journal_Append.f k ([] : List Int) 4 (-1) 0 0 (⟨#[]⟩ : ByteArray)).bind fun bt145 => (if t144 = 0 then (if bt145.2 = 0 then (if (strOfNums t141).toList = ([1, 6, 2, 97, 98] : List UInt8) then (some ((strOfNums bt145.1).toList == ([4, 1] : List UInt8))) else (some false)) else (some false)) else (some false))) = some r := H
  have A1 := Aside0.mk A10
  clear A10
  replace H := Option.bind_eq_some_iff.mp H
  obtain ⟨⟨t145, t148⟩, A20, H⟩ := H
  replace H : (if t144 = 0 then (if t148 = 0 then (if (strOfNums t141).toList = ([1, 6, 2, 97, 98] : List UInt8) then (some ((strOfNums t145).toList == ([4, 1] : List UInt8))) else (some false)) else (some false)) else (some false)) = some r := H
  have A2 := Aside0.mk A20
  clear A20
  by_cases c3 : t144 = 0
  rotate_left
  · rw [if_neg c3] at H
    have c3b0 : (t144 == 0) = false := beq_eq_false_iff_ne.mpr c3
    have c3b1 : (t144 != 0) = true := bne_iff_ne.mpr c3
    obtain rfl := Option.some.inj H
    go_enter Try.func6, Try.ntmps6
    go_wp2_with (first | ((with_reducible refine gate_callee (f := 7) rfl ?_); refine goesL_ (some 7) rfl rfl Try.func7 (by kernel_rfl) rfl #[.slice none 0 0, .agg #[.int .i64 1, .int .i64 3, .int .i64 0, .int .i64 0, .string (⟨#[97, 98]⟩ : ByteArray)]] rfl z41_ ?_; (refine (journal_Append.calls k _ _ ([] : List Int) 1 3 0 0 (⟨#[97, 98]⟩ : ByteArray) t141 t144 _ ?side1 ?side2 A1.out).mono ?_); (case side1 => exact Kd.C_nil _ _); (case side2 => exact Nat.le_refl _); rintro e w15 ⟨v142, rfl, ho0, hb⟩; refine ⟨_, rfl, ?_⟩; have HO143 := Aside0.mk (Kd.R_lower ho0 (below_size z44_)); replace HB := Aside0.mk (below_step z44_ hb); (try clear hb); (try clear hb2); (try clear hk); (try clear hi); (try clear ho0)) | ((with_reducible refine gate_callee (f := 7) rfl ?_); refine goesL_ (some 12) rfl rfl Try.func7 (by kernel_rfl) rfl #[.slice none 0 0, .agg #[.int .i64 4, .int .i64 (-1), .int .i64 0, .int .i64 0, .string (⟨#[]⟩ : ByteArray)]] rfl z41_ ?_; (refine (journal_Append.calls k _ _ ([] : List Int) 4 (-1) 0 0 (⟨#[]⟩ : ByteArray) t145 t148 _ ?side1 ?side2 A2.out).mono ?_); (case side1 => exact Kd.C_nil _ _); (case side2 => exact Nat.le_refl _); rintro e w16 ⟨v146, rfl, ho0, hb⟩; refine ⟨_, rfl, ?_⟩; have HO147 := Aside0.mk (Kd.R_lower (Kd.R_new' ho0 (Kd.R_lt z59_)) (below_size z44_)); replace HO143 := Aside0.mk (Kd.R_elder' z59_ (Kd.R_base ho0) hb); replace HB := Aside0.mk (below_step z44_ hb); (try clear hb); (try clear hb2); (try clear hk); (try clear hi); (try clear ho0)))
    go_ret
    exact ⟨z72_, z44_⟩
  rw [if_pos c3] at H
  have c3b0 : (t144 == 0) = true := beq_iff_eq.mpr c3
  have c3b1 : (t144 != 0) = false := bne_eq_false_iff_eq.mpr c3
  clear c3
  by_cases c4 : t148 = 0
  rotate_left
  · rw [if_neg c4] at H
    have c4b0 : (t148 == 0) = false := beq_eq_false_iff_ne.mpr c4
    have c4b1 : (t148 != 0) = true := bne_iff_ne.mpr c4
    obtain rfl := Option.some.inj H
    go_enter Try.func6, Try.ntmps6
    go_wp2_with (first | ((with_reducible refine gate_callee (f := 7) rfl ?_); refine goesL_ (some 7) rfl rfl Try.func7 (by kernel_rfl) rfl #[.slice none 0 0, .agg #[.int .i64 1, .int .i64 3, .int .i64 0, .int .i64 0, .string (⟨#[97, 98]⟩ : ByteArray)]] rfl z41_ ?_; (refine (journal_Append.calls k _ _ ([] : List Int) 1 3 0 0 (⟨#[97, 98]⟩ : ByteArray) t141 t144 _ ?side1 ?side2 A1.out).mono ?_); (case side1 => exact Kd.C_nil _ _); (case side2 => exact Nat.le_refl _); rintro e w13 ⟨v142, rfl, ho0, hb⟩; refine ⟨_, rfl, ?_⟩; have HO143 := Aside0.mk (Kd.R_lower ho0 (below_size z44_)); replace HB := Aside0.mk (below_step z44_ hb); (try clear hb); (try clear hb2); (try clear hk); (try clear hi); (try clear ho0)) | ((with_reducible refine gate_callee (f := 7) rfl ?_); refine goesL_ (some 12) rfl rfl Try.func7 (by kernel_rfl) rfl #[.slice none 0 0, .agg #[.int .i64 4, .int .i64 (-1), .int .i64 0, .int .i64 0, .string (⟨#[]⟩ : ByteArray)]] rfl z41_ ?_; (refine (journal_Append.calls k _ _ ([] : List Int) 4 (-1) 0 0 (⟨#[]⟩ : ByteArray) t145 t148 _ ?side1 ?side2 A2.out).mono ?_); (case side1 => exact Kd.C_nil _ _); (case side2 => exact Nat.le_refl _); rintro e w14 ⟨v146, rfl, ho0, hb⟩; refine ⟨_, rfl, ?_⟩; have HO147 := Aside0.mk (Kd.R_lower (Kd.R_new' ho0 (Kd.R_lt z59_)) (below_size z44_)); replace HO143 := Aside0.mk (Kd.R_elder' z59_ (Kd.R_base ho0) hb); replace HB := Aside0.mk (below_step z44_ hb); (try clear hb); (try clear hb2); (try clear hk); (try clear hi); (try clear ho0)))
    go_ret
    exact ⟨z72_, z44_⟩
  rw [if_pos c4] at H
  have c4b0 : (t148 == 0) = true := beq_iff_eq.mpr c4
  have c4b1 : (t148 != 0) = false := bne_eq_false_iff_eq.mpr c4
  clear c4
  by_cases c5 : (strOfNums t141).toList = ([1, 6, 2, 97, 98] : List UInt8)
  rotate_left
  · rw [if_neg c5] at H
    have c5b0 : ((strOfNums t141).toList == ([1, 6, 2, 97, 98] : List UInt8)) = false := beq_eq_false_iff_ne.mpr c5
    have c5b1 : ((strOfNums t141).toList != ([1, 6, 2, 97, 98] : List UInt8)) = true := bne_iff_ne.mpr c5
    obtain rfl := Option.some.inj H
    go_enter Try.func6, Try.ntmps6
    go_wp2_with (first | ((with_reducible refine gate_callee (f := 7) rfl ?_); refine goesL_ (some 7) rfl rfl Try.func7 (by kernel_rfl) rfl #[.slice none 0 0, .agg #[.int .i64 1, .int .i64 3, .int .i64 0, .int .i64 0, .string (⟨#[97, 98]⟩ : ByteArray)]] rfl z41_ ?_; (refine (journal_Append.calls k _ _ ([] : List Int) 1 3 0 0 (⟨#[97, 98]⟩ : ByteArray) t141 t144 _ ?side1 ?side2 A1.out).mono ?_); (case side1 => exact Kd.C_nil _ _); (case side2 => exact Nat.le_refl _); rintro e w10 ⟨v142, rfl, ho0, hb⟩; refine ⟨_, rfl, ?_⟩; have HO143 := Aside0.mk (Kd.R_lower ho0 (below_size z44_)); replace HB := Aside0.mk (below_step z44_ hb); (try clear hb); (try clear hb2); (try clear hk); (try clear hi); (try clear ho0)) | ((with_reducible refine gate_callee (f := 7) rfl ?_); refine goesL_ (some 12) rfl rfl Try.func7 (by kernel_rfl) rfl #[.slice none 0 0, .agg #[.int .i64 4, .int .i64 (-1), .int .i64 0, .int .i64 0, .string (⟨#[]⟩ : ByteArray)]] rfl z41_ ?_; (refine (journal_Append.calls k _ _ ([] : List Int) 4 (-1) 0 0 (⟨#[]⟩ : ByteArray) t145 t148 _ ?side1 ?side2 A2.out).mono ?_); (case side1 => exact Kd.C_nil _ _); (case side2 => exact Nat.le_refl _); rintro e w11 ⟨v146, rfl, ho0, hb⟩; refine ⟨_, rfl, ?_⟩; have HO147 := Aside0.mk (Kd.R_lower (Kd.R_new' ho0 (Kd.R_lt z59_)) (below_size z44_)); replace HO143 := Aside0.mk (Kd.R_elder' z59_ (Kd.R_base ho0) hb); replace HB := Aside0.mk (below_step z44_ hb); (try clear hb); (try clear hb2); (try clear hk); (try clear hi); (try clear ho0); have hcv12 : (convert 22 9 (v142)).run Try.prog _ = .ok (.string (strOfNums t141)) _ := own_string (P := Try.prog) Try.underlying22 Try.underlying5 Try.underlying9 (Kd.own_of_R HO143.out)))
    go_ret
    exact ⟨z72_, z44_⟩
  rw [if_pos c5] at H
  have c5b0 : ((strOfNums t141).toList == ([1, 6, 2, 97, 98] : List UInt8)) = true := beq_iff_eq.mpr c5
  have c5b1 : ((strOfNums t141).toList != ([1, 6, 2, 97, 98] : List UInt8)) = false := bne_eq_false_iff_eq.mpr c5
  clear c5
  obtain rfl := Option.some.inj H
  go_enter Try.func6, Try.ntmps6
  go_wp2_with (first | ((with_reducible refine gate_callee (f := 7) rfl ?_); refine goesL_ (some 7) rfl rfl Try.func7 (by kernel_rfl) rfl #[.slice none 0 0, .agg #[.int .i64 1, .int .i64 3, .int .i64 0, .int .i64 0, .string (⟨#[97, 98]⟩ : ByteArray)]] rfl z41_ ?_; (refine (journal_Append.calls k _ _ ([] : List Int) 1 3 0 0 (⟨#[97, 98]⟩ : ByteArray) t141 t144 _ ?side1 ?side2 A1.out).mono ?_); (case side1 => exact Kd.C_nil _ _); (case side2 => exact Nat.le_refl _); rintro e w6 ⟨v142, rfl, ho0, hb⟩; refine ⟨_, rfl, ?_⟩; have HO143 := Aside0.mk (Kd.R_lower ho0 (below_size z44_)); replace HB := Aside0.mk (below_step z44_ hb); (try clear hb); (try clear hb2); (try clear hk); (try clear hi); (try clear ho0)) | ((with_reducible refine gate_callee (f := 7) rfl ?_); refine goesL_ (some 12) rfl rfl Try.func7 (by kernel_rfl) rfl #[.slice none 0 0, .agg #[.int .i64 4, .int .i64 (-1), .int .i64 0, .int .i64 0, .string (⟨#[]⟩ : ByteArray)]] rfl z41_ ?_; (refine (journal_Append.calls k _ _ ([] : List Int) 4 (-1) 0 0 (⟨#[]⟩ : ByteArray) t145 t148 _ ?side1 ?side2 A2.out).mono ?_); (case side1 => exact Kd.C_nil _ _); (case side2 => exact Nat.le_refl _); rintro e w7 ⟨v146, rfl, ho0, hb⟩; refine ⟨_, rfl, ?_⟩; have HO147 := Aside0.mk (Kd.R_lower (Kd.R_new' ho0 (Kd.R_lt z59_)) (below_size z44_)); replace HO143 := Aside0.mk (Kd.R_elder' z59_ (Kd.R_base ho0) hb); replace HB := Aside0.mk (below_step z44_ hb); (try clear hb); (try clear hb2); (try clear hk); (try clear hi); (try clear ho0); have hcv8 : (convert 22 9 (v142)).run Try.prog _ = .ok (.string (strOfNums t141)) _ := own_string (P := Try.prog) Try.underlying22 Try.underlying5 Try.underlying9 (Kd.own_of_R HO143.out); have hcv9 : (convert 22 9 (v146)).run Try.prog _ = .ok (.string (strOfNums t145)) _ := own_string (P := Try.prog) Try.underlying22 Try.underlying5 Try.underlying9 (Kd.own_of_R HO147.out)))
  go_ret
  exact ⟨z72_, z44_⟩
end Go.Proofs.Ytkgpnegebpkhlaa.PJournalBack
