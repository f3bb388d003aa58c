-- WRITTEN BY wip/xprint.py of this repo, over the kit's print; functions the print does not take are by hand
import Derived.Test.YtblmcdpfhdamjaaPPaintWindowx0
import Derived.Test.YtblmcdpfhdamjaaPPaintWindowx7
import Derived.Test.YtblmcdpfhdamjaaPPaintWindowx12
namespace Go.Proofs.Ytblmcdpfhdamjaa.PPaintWindow
open Go.RowKit Go.Proofs.YtblmcdpfhdamjaaW.PrintWords Go.Proofs.YtblmcdpfhdamjaaW.PrintLast Go.Proofs.YtblmcdpfhdamjaaW.PrintMore
attribute [local go_sem] max2_int min2_int max_two min_two max_three min_three max_four min_four   -- for this text's walks alone
set_option linter.unusedVariables false
set_option linter.unusedSimpArgs false
/-! ### paint_Line: function 15 -/
mutual
def paint_Line.l0 : Nat → List (S124) → List (S38) → List (S99) → Bool → Int → ByteArray → List (S89) → Int → Int → Int → Bool → Int → Bool → Bool → ByteArray → Int → Option ((List (S38)))
  | 0, _, _, _, _, _, _, _, _, _, _, _, _, _, _, _, _ => none
  | k + 1, x0, x5, x6, x7, x8, x254000, x254001, x254002, x254003, x254004, x254005, x254006, x254007, x254008, x258000, x258001 => if (x258001 : Int).toNat < x258000.size then (if 0 ≤ x8 then (if x8 < (x6.length : Int) then (if 0 ≤ (wrap64 (x8 + 1)) then (if (wrap64 (x8 + 1)) < (x6.length : Int) then ((paint_drawn.f k (itR_ x258000 x258001)).bind fun t262 => (if t262 = true then ((paint_styleAt.f k x254001 (itP_ x258001)).bind fun t265 => (if 0 ≤ ((rd_T99 x6 x8).f0) then (if ((rd_T99 x6 x8).f0) ≤ ((rd_T99 x6 (wrap64 (x8 + 1))).f0) then (if ((rd_T99 x6 (wrap64 (x8 + 1))).f0) ≤ (x254000.size : Int) then (if x7 = true then (if 0 ≤ (wrap64 ((x5.length : Int) - 1)) then (if (wrap64 ((x5.length : Int) - 1)) < (x5.length : Int) then (paint_Line.j1 k x0 x5 x6 x7 (wrap64 (x8 + 1)) t265 (x254000.extract (((rd_T99 x6 x8).f0) : Int).toNat (((rd_T99 x6 (wrap64 (x8 + 1))).f0) : Int).toNat) (wrap64 ((x5.length : Int) - 1)) (((rd_T38 x5 (wrap64 ((x5.length : Int) - 1))).f4) == t265) x254000 x254001 x254002 x254003 x254004 x254005 x254006 x254007 x254008 x258000 (itN_ x258000 x258001) ((rd_T99 x6 x8).f0) ((rd_T99 x6 x8).f1) ((rd_T99 x6 (wrap64 (x8 + 1))).f0) ((rd_T99 x6 (wrap64 (x8 + 1))).f1)) else (none)) else (none)) else (paint_Line.j1 k x0 x5 x6 x7 (wrap64 (x8 + 1)) t265 (x254000.extract (((rd_T99 x6 x8).f0) : Int).toNat (((rd_T99 x6 (wrap64 (x8 + 1))).f0) : Int).toNat) (wrap64 ((x5.length : Int) - 1)) false x254000 x254001 x254002 x254003 x254004 x254005 x254006 x254007 x254008 x258000 (itN_ x258000 x258001) ((rd_T99 x6 x8).f0) ((rd_T99 x6 x8).f1) ((rd_T99 x6 (wrap64 (x8 + 1))).f0) ((rd_T99 x6 (wrap64 (x8 + 1))).f1))) else (none)) else (none)) else (none))) else (if x7 = true then (if ((rd_T99 x6 (wrap64 (x8 + 1))).f1) = ((rd_T99 x6 x8).f1) then ((runes_Kind.f k (itR_ x258000 x258001)).bind fun t263 => (if t263 = 1 then (paint_Line.l0 k x0 x5 x6 false (wrap64 (x8 + 1)) x254000 x254001 x254002 x254003 x254004 x254005 x254006 x254007 x254008 x258000 (itN_ x258000 x258001)) else ((runes_Kind.f k (itR_ x258000 x258001)).bind fun t264 => (paint_Line.l0 k x0 x5 x6 (t264 != 2) (wrap64 (x8 + 1)) x254000 x254001 x254002 x254003 x254004 x254005 x254006 x254007 x254008 x258000 (itN_ x258000 x258001))))) else (paint_Line.l0 k x0 x5 x6 false (wrap64 (x8 + 1)) x254000 x254001 x254002 x254003 x254004 x254005 x254006 x254007 x254008 x258000 (itN_ x258000 x258001))) else (paint_Line.l0 k x0 x5 x6 false (wrap64 (x8 + 1)) x254000 x254001 x254002 x254003 x254004 x254005 x254006 x254007 x254008 x258000 (itN_ x258000 x258001))))) else (none)) else (none)) else (none)) else (none)) else (if x254005 = true then ((paint_lastStyle.f k x254000 x254001 x254002 x254003 x254004 x254005 x254006 x254007 x254008).bind fun t276 => (if 0 ≤ (wrap64 ((x6.length : Int) - 1)) then (if (wrap64 ((x6.length : Int) - 1)) < (x6.length : Int) then ((metrics_Table_Hyphen.f x0 t276).bind fun t278 => (if x5.length < 2932031007402 then (some (x5 ++ [(⟨(rd_T99 x6 (wrap64 ((x6.length : Int) - 1))).f1, x254006, t278, (⟨#[45]⟩ : ByteArray), t276⟩ : S38)])) else (none))) else (none)) else (none))) else (some x5))
def paint_Line.j1 : Nat → List (S124) → List (S38) → List (S99) → Bool → Int → Int → ByteArray → Int → Bool → ByteArray → List (S89) → Int → Int → Int → Bool → Int → Bool → Bool → ByteArray → Int → Int → Int → Int → Int → Option ((List (S38)))
  | 0, _, _, _, _, _, _, _, _, _, _, _, _, _, _, _, _, _, _, _, _, _, _, _, _ => none
  | k + 1, x0, x5, x6, x7, x8, x13, x14, x15, x82, x254000, x254001, x254002, x254003, x254004, x254005, x254006, x254007, x254008, x258000, x258001, x261000, x261001, x262000, x262001 => if x82 = true then (if 0 ≤ x15 then (if x15 < (x5.length : Int) then (if ((rd_T38 x5 x15).f3).size + x14.size ≤ 9223372036854775807 then ((some (x5.set (x15 : Int).toNat (⟨(rd_T38 x5 x15).f0, (rd_T38 x5 x15).f1, (rd_T38 x5 x15).f2, ((rd_T38 x5 x15).f3) ++ x14, (rd_T38 x5 x15).f4⟩ : S38) : List (S38))).bind fun y268 => ((scaled_Sub.f x262001 ((rd_T38 y268 x15).f0)).bind fun t270 => (paint_Line.l0 k x0 (y268.set (x15 : Int).toNat (⟨(rd_T38 y268 x15).f0, (rd_T38 y268 x15).f1, t270, (rd_T38 y268 x15).f3, (rd_T38 y268 x15).f4⟩ : S38)) x6 x7 x8 x254000 x254001 x254002 x254003 x254004 x254005 x254006 x254007 x254008 x258000 x258001))) else (none)) else (none)) else (none)) else ((scaled_Sub.f x262001 x261001).bind fun t272 => (if x5.length < 2932031007402 then (paint_Line.l0 k x0 (x5 ++ [(⟨x261001, x254006, t272, x14, x13⟩ : S38)]) x6 true x8 x254000 x254001 x254002 x254003 x254004 x254005 x254006 x254007 x254008 x258000 x258001) else (none)))
end
def paint_Line.f (k : Nat) (l0 : List (S124)) (a1_0 : ByteArray) (l1_1 : List (S89)) (a1_2 : Int) (a1_3 : Int) (a1_4 : Int) (a1_5 : Bool) (a1_6 : Int) (a1_7 : Bool) (a1_8 : Bool) : Option ((List (S38))) := (locate_Stops.f k l0 a1_0 l1_1 a1_2 a1_3 a1_4 a1_5 a1_6 a1_7 a1_8).bind fun t254 => (paint_Line.l0 k l0 ([] : List (S38)) t254 false 0 a1_0 l1_1 a1_2 a1_3 a1_4 a1_5 a1_6 a1_7 a1_8 a1_0 0)
theorem paint_Line.mono_l : ∀ k, (∀ y0 y1 y2 y3 y4 y5 y6 y7 y8 y9 y10 y11 y12 y13 y14 y15, LeO (paint_Line.l0 k y0 y1 y2 y3 y4 y5 y6 y7 y8 y9 y10 y11 y12 y13 y14 y15) (paint_Line.l0 (k + 1) y0 y1 y2 y3 y4 y5 y6 y7 y8 y9 y10 y11 y12 y13 y14 y15)) ∧ (∀ y0 y1 y2 y3 y4 y5 y6 y7 y8 y9 y10 y11 y12 y13 y14 y15 y16 y17 y18 y19 y20 y21 y22 y23, LeO (paint_Line.j1 k y0 y1 y2 y3 y4 y5 y6 y7 y8 y9 y10 y11 y12 y13 y14 y15 y16 y17 y18 y19 y20 y21 y22 y23) (paint_Line.j1 (k + 1) y0 y1 y2 y3 y4 y5 y6 y7 y8 y9 y10 y11 y12 y13 y14 y15 y16 y17 y18 y19 y20 y21 y22 y23))
  | 0 => ⟨fun _ _ _ _ _ _ _ _ _ _ _ _ _ _ _ _ r h => by simp [paint_Line.l0] at h, fun _ _ _ _ _ _ _ _ _ _ _ _ _ _ _ _ _ _ _ _ _ _ _ _ r h => by simp [paint_Line.j1] at h⟩
  | k + 1 => by
    obtain ⟨ih0, ih1⟩ := paint_Line.mono_l k
    refine ⟨?_, ?_⟩
    · intro y0 y1 y2 y3 y4 y5 y6 y7 y8 y9 y10 y11 y12 y13 y14 y15
      unfold paint_Line.l0
      repeat' first | (with_reducible first | exact ih0 _ _ _ _ _ _ _ _ _ _ _ _ _ _ _ _ | exact ih1 _ _ _ _ _ _ _ _ _ _ _ _ _ _ _ _ _ _ _ _ _ _ _ _ | exact locate_Stops.mono _ _ _ _ _ _ _ _ _ _ _ | exact paint_drawn.mono _ _ | exact paint_lastStyle.mono _ _ _ _ _ _ _ _ _ _ | exact paint_styleAt.mono _ _ _ | exact runes_Kind.mono _ _ | exact LeO.refl _ | exact LeO.none _ | refine LeO.ite ?_ ?_ | refine LeO.bind ?_ (fun _ => ?_)) | exact ih0 _ _ _ _ _ _ _ _ _ _ _ _ _ _ _ _ | exact ih1 _ _ _ _ _ _ _ _ _ _ _ _ _ _ _ _ _ _ _ _ _ _ _ _ | exact locate_Stops.mono _ _ _ _ _ _ _ _ _ _ _ | exact paint_drawn.mono _ _ | exact paint_lastStyle.mono _ _ _ _ _ _ _ _ _ _ | exact paint_styleAt.mono _ _ _ | exact runes_Kind.mono _ _ | exact LeO.none _ | refine LeO.ite ?_ ?_ | refine LeO.bind ?_ (fun _ => ?_)
    · intro y0 y1 y2 y3 y4 y5 y6 y7 y8 y9 y10 y11 y12 y13 y14 y15 y16 y17 y18 y19 y20 y21 y22 y23
      unfold paint_Line.j1
      repeat' first | (with_reducible first | exact ih0 _ _ _ _ _ _ _ _ _ _ _ _ _ _ _ _ | exact ih1 _ _ _ _ _ _ _ _ _ _ _ _ _ _ _ _ _ _ _ _ _ _ _ _ | exact locate_Stops.mono _ _ _ _ _ _ _ _ _ _ _ | exact paint_drawn.mono _ _ | exact paint_lastStyle.mono _ _ _ _ _ _ _ _ _ _ | exact paint_styleAt.mono _ _ _ | exact runes_Kind.mono _ _ | exact LeO.refl _ | exact LeO.none _ | refine LeO.ite ?_ ?_ | refine LeO.bind ?_ (fun _ => ?_)) | exact ih0 _ _ _ _ _ _ _ _ _ _ _ _ _ _ _ _ | exact ih1 _ _ _ _ _ _ _ _ _ _ _ _ _ _ _ _ _ _ _ _ _ _ _ _ | exact locate_Stops.mono _ _ _ _ _ _ _ _ _ _ _ | exact paint_drawn.mono _ _ | exact paint_lastStyle.mono _ _ _ _ _ _ _ _ _ _ | exact paint_styleAt.mono _ _ _ | exact runes_Kind.mono _ _ | exact LeO.none _ | refine LeO.ite ?_ ?_ | refine LeO.bind ?_ (fun _ => ?_)
theorem paint_Line.mono : ∀ a0 a1 a2 a3 a4 a5 a6 a7 a8 a9 k, LeO (paint_Line.f k a0 a1 a2 a3 a4 a5 a6 a7 a8 a9) (paint_Line.f (k + 1) a0 a1 a2 a3 a4 a5 a6 a7 a8 a9) := by
  intro a0 a1 a2 a3 a4 a5 a6 a7 a8 a9 k
  obtain ⟨ih0, ih1⟩ := paint_Line.mono_l k
  unfold paint_Line.f
  repeat' first | (with_reducible first | exact ih0 _ _ _ _ _ _ _ _ _ _ _ _ _ _ _ _ | exact ih1 _ _ _ _ _ _ _ _ _ _ _ _ _ _ _ _ _ _ _ _ _ _ _ _ | exact locate_Stops.mono _ _ _ _ _ _ _ _ _ _ _ | exact paint_drawn.mono _ _ | exact paint_lastStyle.mono _ _ _ _ _ _ _ _ _ _ | exact paint_styleAt.mono _ _ _ | exact runes_Kind.mono _ _ | exact LeO.refl _ | exact LeO.none _ | refine LeO.ite ?_ ?_ | refine LeO.bind ?_ (fun _ => ?_)) | exact ih0 _ _ _ _ _ _ _ _ _ _ _ _ _ _ _ _ | exact ih1 _ _ _ _ _ _ _ _ _ _ _ _ _ _ _ _ _ _ _ _ _ _ _ _ | exact locate_Stops.mono _ _ _ _ _ _ _ _ _ _ _ | exact paint_drawn.mono _ _ | exact paint_lastStyle.mono _ _ _ _ _ _ _ _ _ _ | exact paint_styleAt.mono _ _ _ | exact runes_Kind.mono _ _ | exact LeO.none _ | refine LeO.ite ?_ ?_ | refine LeO.bind ?_ (fun _ => ?_)
def paint_Line.T8 : Bool × List (List Nat × List Nat) := (true, [([], []), ([], []), ([0, 1], [0, 1]), ([2], [2]), ([], []), ([], []), ([5], [5]), ([4, 6], [4, 6]), ([7], [7]), ([], []), ([], []), ([9, 3, 0, 1, 2, 3, 9, 10], [3, 9]), ([10, 8, 11, 0, 1, 2, 3, 4, 5, 6, 7, 8, 9, 10, 11], [8, 10])])
def paint_Line.B8 : List Nat := [0, 0, 3, 7, 0, 0, 32, 112, 240, 0, 0, 1551, 4095]
theorem paint_Line.tab8 : rtab .any (opsOf Try.f15 8) = paint_Line.T8 := by kernel_rfl
theorem paint_Line.bits8 : waitsOk paint_Line.T8.2 paint_Line.B8 = true := by kernel_rfl
def paint_Line.T17 : Bool × List (List Nat × List Nat) := (true, [([], []), ([], []), ([], []), ([2], [2]), ([], []), ([], []), ([4, 5], [4, 5]), ([6], [6]), ([7], [7]), ([3, 8], [3, 8]), ([0, 1, 0, 1, 2, 3, 4, 5, 6, 7, 8, 9], [0, 1]), ([10, 0, 1, 2, 3, 4, 5, 6, 7, 8, 9], [10]), ([11, 9, 9, 0, 1, 2, 3, 4, 5, 6, 7, 8, 9], [9, 11])])
def paint_Line.B17 : List Nat := [0, 0, 0, 4, 0, 0, 48, 112, 240, 508, 1023, 2047, 4095]
theorem paint_Line.tab17 : rtab .any (opsOf Try.f15 17) = paint_Line.T17 := by kernel_rfl
theorem paint_Line.bits17 : waitsOk paint_Line.T17.2 paint_Line.B17 = true := by kernel_rfl
def paint_Line.T18 : Bool × List (List Nat × List Nat) := (true, [([], []), ([], []), ([1], [1]), ([], []), ([3], [3]), ([], []), ([5], [5]), ([], []), ([7], [7]), ([6, 8], [6, 8]), ([], []), ([], []), ([2, 4, 9, 10, 11], [2, 4, 9, 10, 11]), ([12], [12]), ([0, 13, 9], [0, 13]), ([14, 14, 0, 1, 2, 3, 4, 5, 6, 7, 8, 9, 10, 11, 12, 13, 14], [0, 14])])
def paint_Line.B18 : List Nat := [0, 0, 2, 0, 8, 0, 32, 0, 128, 480, 0, 0, 4094, 8190, 16383, 32767]
theorem paint_Line.tab18 : rtab .any (opsOf Try.f15 18) = paint_Line.T18 := by kernel_rfl
theorem paint_Line.bits18 : waitsOk paint_Line.T18.2 paint_Line.B18 = true := by kernel_rfl
def paint_Line.T22 : Bool × List (List Nat × List Nat) := (true, [([], []), ([], []), ([], []), ([2], [2]), ([3], [3]), ([1, 4], [1, 4]), ([5], [5]), ([6], [6]), ([], []), ([8], [8]), ([], []), ([], []), ([10, 11], [10, 11]), ([], []), ([7, 9, 12, 13], [7, 9, 12, 13]), ([14], [14]), ([0, 15, 12], [0, 15]), ([16, 16, 0, 1, 2, 3, 4, 5, 6, 7, 8, 9, 10, 11, 12, 13, 14, 15, 16], [0, 16])])
def paint_Line.B22 : List Nat := [0, 0, 0, 4, 12, 30, 62, 126, 0, 256, 0, 0, 3072, 0, 16382, 32766, 65535, 131071]
theorem paint_Line.tab22 : rtab .any (opsOf Try.f15 22) = paint_Line.T22 := by kernel_rfl
theorem paint_Line.bits22 : waitsOk paint_Line.T22.2 paint_Line.B22 = true := by kernel_rfl
set_option maxHeartbeats 8000000 in
set_option maxRecDepth 100000 in
theorem paint_Line.calls (k : Nat) (A0 : Option Addr) (c0 : Nat) (l0 : List (S124)) (a1_0 : ByteArray) (A1_1 : Option Addr) (c1_1 : Nat) (l1_1 : List (S89)) (a1_2 : Int) (a1_3 : Int) (a1_4 : Int) (a1_5 : Bool) (a1_6 : Int) (a1_7 : Bool) (a1_8 : Bool) (r : List (S38)) (w : World) (hr0 : Kd.C k124 w A0 l0.length l0) (hc0 : l0.length ≤ c0) (hr1_1 : Kd.C k89 w A1_1 l1_1.length l1_1) (hc1_1 : l1_1.length ≤ c1_1) (h : paint_Line.f k l0 a1_0 l1_1 a1_2 a1_3 a1_4 a1_5 a1_6 a1_7 a1_8 = some r) :
    Calls Try.prog 15 #[.pointer A0, .agg #[.string a1_0, .slice A1_1 l1_1.length c1_1, .int .i64 a1_2, .int .i64 a1_3, .int .i64 a1_4, .bool a1_5, .int .i64 a1_6, .bool a1_7, .bool a1_8]] w fun e w' => ∃ v0_ : Value, e = .returned (v0_) ∧ Kd.R k38 38 w' w.heap.size (fun _ => True) v0_ r ∧ Below w.heap.size w w' := by
  have hu25 := Try.underlying25
  have hu99 := Try.underlying99
  have hu38 := Try.underlying38
  have HR0 := Aside0.mk hr0
  have HC0 := Aside0.mk hc0
  clear hr0 hc0
  have HR1_1 := Aside0.mk hr1_1
  have HC1_1 := Aside0.mk hc1_1
  clear hr1_1 hc1_1
  have HB := Aside0.mk (Below.refl w.heap.size w)
  have H : ((locate_Stops.f k l0 a1_0 l1_1 a1_2 a1_3 a1_4 a1_5 a1_6 a1_7 a1_8).bind fun t254 => (paint_Line.l0 k l0 ([] : List (S38)) t254 false 0 a1_0 l1_1 a1_2 a1_3 a1_4 a1_5 a1_6 a1_7 a1_8 a1_0 0)) = some r := h
  clear h
  replace H := Option.bind_eq_some_iff.mp H
  obtain ⟨t254, A30, H⟩ := H
  replace H : (paint_Line.l0 k l0 ([] : List (S38)) t254 false 0 a1_0 l1_1 a1_2 a1_3 a1_4 a1_5 a1_6 a1_7 a1_8 a1_0 0) = some r := H
  have A3 := Aside0.mk A30
  clear A30
  have H' := Aside0.mk H
  clear H
  go_enter Try.func15, Try.ntmps15
  go_wp2_with (first | ((with_reducible refine gate_dst (N := 3) rfl ?_); refine box_event ?hg (N := 3) ?hd (cs := #[.string a1_0, .slice A1_1 l1_1.length c1_1, .int .i64 a1_2, .int .i64 a1_3, .int .i64 a1_4, .bool a1_5, .int .i64 a1_6, .bool a1_7, .bool a1_8]) (t := 25) ?hr ?_; (case hd => rfl); (case hg => rfl); (case hr => exact z209_); intro gb253 hg w4 hbox hb; have BK253 := Aside0.mk (hbox); have GW253 := Aside0.mk ((z85_ : w.heap.size ≤ gb253)); have GE253 := Aside0.mk ((z85_ : w.heap.size ≤ gb253)); replace HB := Aside0.mk (below_step z117_ hb); clear hb hbox hg; have hcz5_0 : w4.cell? ⟨gb253, 0, none⟩ = some (.string a1_0) := (blk_cell BK253.out 0).trans rfl; have hcz5_1 : w4.cell? ⟨gb253, 1, none⟩ = some (.slice A1_1 l1_1.length c1_1) := (blk_cell BK253.out 1).trans rfl; have hcz5_2 : w4.cell? ⟨gb253, 2, none⟩ = some (.int .i64 a1_2) := (blk_cell BK253.out 2).trans rfl; have hcz5_3 : w4.cell? ⟨gb253, 3, none⟩ = some (.int .i64 a1_3) := (blk_cell BK253.out 3).trans rfl; have hcz5_4 : w4.cell? ⟨gb253, 4, none⟩ = some (.int .i64 a1_4) := (blk_cell BK253.out 4).trans rfl; have hcz5_5 : w4.cell? ⟨gb253, 5, none⟩ = some (.bool a1_5) := (blk_cell BK253.out 5).trans rfl; have hcz5_6 : w4.cell? ⟨gb253, 6, none⟩ = some (.int .i64 a1_6) := (blk_cell BK253.out 6).trans rfl; have hcz5_7 : w4.cell? ⟨gb253, 7, none⟩ = some (.bool a1_7) := (blk_cell BK253.out 7).trans rfl; have hcz5_8 : w4.cell? ⟨gb253, 8, none⟩ = some (.bool a1_8) := (blk_cell BK253.out 8).trans rfl; have hfz5_0 := blk_frozen BK253.out 0; have hfz5_1 := blk_frozen BK253.out 1; have hfz5_2 := blk_frozen BK253.out 2; have hfz5_3 := blk_frozen BK253.out 3; have hfz5_4 := blk_frozen BK253.out 4; have hfz5_5 := blk_frozen BK253.out 5; have hfz5_6 := blk_frozen BK253.out 6; have hfz5_7 := blk_frozen BK253.out 7; have hfz5_8 := blk_frozen BK253.out 8) | ((with_reducible refine gate_callee (f := 41) rfl ?_); refine goesL_ (some 19) rfl rfl Try.func41 (by kernel_rfl) rfl #[.pointer A0, .agg #[.string a1_0, .slice A1_1 l1_1.length c1_1, .int .i64 a1_2, .int .i64 a1_3, .int .i64 a1_4, .bool a1_5, .int .i64 a1_6, .bool a1_7, .bool a1_8]] rfl z113_ ?_; (with_reducible refine (locate_Stops.calls k _ c0 l0 a1_0 _ _ l1_1 a1_2 a1_3 a1_4 a1_5 a1_6 a1_7 a1_8 t254 _ ?side1 ?side2 ?side3 ?side4 A3.out).mono ?_); (case side1 => exact z79_); (case side2 => exact HC0.out); (case side3 => exact z78_); (case side4 => exact HC1_1.out); rintro e w6 ⟨v255, rfl, ho0, hb⟩; refine ⟨_, rfl, ?_⟩; have HO256 := Aside0.mk (Kd.R_lower ho0 (below_size z99_)); replace BK253 := Aside0.mk (blk_below (g := gb253) (o := .cells #[.string a1_0, .slice A1_1 l1_1.length c1_1, .int .i64 a1_2, .int .i64 a1_3, .int .i64 a1_4, .bool a1_5, .int .i64 a1_6, .bool a1_7, .bool a1_8] 25 (0, 0)) z143_ hb); replace HB := Aside0.mk (below_step z99_ hb); (try clear hb); (try clear hb2); (try clear hk); (try clear hi); (try clear ho0); have hcz7_0 : w6.cell? ⟨gb253, 0, none⟩ = some (.string a1_0) := (blk_cell BK253.out 0).trans rfl; have hcz7_1 : w6.cell? ⟨gb253, 1, none⟩ = some (.slice A1_1 l1_1.length c1_1) := (blk_cell BK253.out 1).trans rfl; have hcz7_2 : w6.cell? ⟨gb253, 2, none⟩ = some (.int .i64 a1_2) := (blk_cell BK253.out 2).trans rfl; have hcz7_3 : w6.cell? ⟨gb253, 3, none⟩ = some (.int .i64 a1_3) := (blk_cell BK253.out 3).trans rfl; have hcz7_4 : w6.cell? ⟨gb253, 4, none⟩ = some (.int .i64 a1_4) := (blk_cell BK253.out 4).trans rfl; have hcz7_5 : w6.cell? ⟨gb253, 5, none⟩ = some (.bool a1_5) := (blk_cell BK253.out 5).trans rfl; have hcz7_6 : w6.cell? ⟨gb253, 6, none⟩ = some (.int .i64 a1_6) := (blk_cell BK253.out 6).trans rfl; have hcz7_7 : w6.cell? ⟨gb253, 7, none⟩ = some (.bool a1_7) := (blk_cell BK253.out 7).trans rfl; have hcz7_8 : w6.cell? ⟨gb253, 8, none⟩ = some (.bool a1_8) := (blk_cell BK253.out 8).trans rfl; have hfz7_0 := blk_frozen BK253.out 0; have hfz7_1 := blk_frozen BK253.out 1; have hfz7_2 := blk_frozen BK253.out 2; have hfz7_3 := blk_frozen BK253.out 3; have hfz7_4 := blk_frozen BK253.out 4; have hfz7_5 := blk_frozen BK253.out 5; have hfz7_6 := blk_frozen BK253.out 6; have hfz7_7 := blk_frozen BK253.out 7; have hfz7_8 := blk_frozen BK253.out 8) | ((with_reducible refine gate_dst (N := 22) rfl ?_); refine iter_event ?hg (N := 22) ?hd (s := a1_0) ?hr ?_; (case hd => rfl); (case hg => rfl); (case hr => exact z209_); intro gb257 hg w8 hbox hb; replace HO256 := Aside0.mk (Kd.R_below z159_ hb); have BK257 := Aside0.mk (hbox); have GW257 := Aside0.mk ((z62_ : w.heap.size ≤ gb257)); have GE257 := Aside0.mk ((z62_ : w.heap.size ≤ gb257)); replace HB := Aside0.mk (below_step z99_ hb); have NB253_257 := Aside0.mk ((z26_ : gb253 ≠ gb257)); have NB257_253 := Aside0.mk ((z25_ : gb257 ≠ gb253)); replace BK253 := Aside0.mk (blk_below (g := gb253) (o := .cells #[.string a1_0, .slice A1_1 l1_1.length c1_1, .int .i64 a1_2, .int .i64 a1_3, .int .i64 a1_4, .bool a1_5, .int .i64 a1_6, .bool a1_7, .bool a1_8] 25 (0, 0)) z143_ hb); clear hb hbox hg))
  (try simp only [Act.put, List.setIfInBounds_toArray, List.set_cons_zero, List.set_cons_succ])
  go_loopg [5, 7, 8] k (fun kq v5 v7 v8 w' => ∃ (x5_1 : List (S38)) (x7_1 : Bool) (x8_1 : Int) (x258001_1 : Int), v7 = .bool x7_1 ∧ v8 = .int .i64 x8_1 ∧ Aside0 (paint_Line.l0 kq l0 x5_1 t254 x7_1 x8_1 a1_0 l1_1 a1_2 a1_3 a1_4 a1_5 a1_6 a1_7 a1_8 a1_0 x258001_1 = some r) ∧ Aside0 (kq ≤ k) ∧ Aside0 (Kd.R k38 38 w' w.heap.size (fun _ => True) v5 x5_1) ∧ Aside0 (Kd.R k99 99 w' w.heap.size (fun _ => True) v255 t254) ∧ Aside0 (w'.heap[gb253]? = some (.cells #[.string a1_0, (.slice A1_1 l1_1.length c1_1), .int .i64 a1_2, .int .i64 a1_3, .int .i64 a1_4, .bool a1_5, .int .i64 a1_6, .bool a1_7, .bool a1_8] 25 (0, 0))) ∧ Aside0 (w'.heap[gb257]? = some (.stringIter a1_0 (x258001_1 : Int).toNat)) ∧ Aside0 (Below w.heap.size w w'))
  case atStart => exact ⟨(([] : List (S38))), (false), (0), (0), z208_, z208_, H', ⟨Nat.le_refl _⟩, ⟨z111_⟩, ⟨z159_⟩, ⟨z143_⟩, ⟨z144_⟩, ⟨z69_⟩⟩
  case round =>
    clear H'
    try clear c1
    try clear p2
    try clear c4
    try clear hcz5_0
    try clear hcz5_1
    try clear hcz5_2
    try clear hcz5_3
    try clear hcz5_4
    try clear hcz5_5
    try clear hcz5_6
    try clear hcz5_7
    try clear hcz5_8
    try clear hcz7_0
    try clear hcz7_1
    try clear hcz7_2
    try clear hcz7_3
    try clear hcz7_4
    try clear hcz7_5
    try clear hcz7_6
    try clear hcz7_7
    try clear hcz7_8
    try clear hfz5_0
    try clear hfz5_1
    try clear hfz5_2
    try clear hfz5_3
    try clear hfz5_4
    try clear hfz5_5
    try clear hfz5_6
    try clear hfz5_7
    try clear hfz5_8
    try clear hfz7_0
    try clear hfz7_1
    try clear hfz7_2
    try clear hfz7_3
    try clear hfz7_4
    try clear hfz7_5
    try clear hfz7_6
    try clear hfz7_7
    try clear hfz7_8
    obtain ⟨x5_1, x7_1, x8_1, x258001_1, rfl, rfl, HA, HK1, HO_5, HO_6, BK253, BK257, HB⟩ := hrel
    cases gk with
    | zero => exact absurd HA.out (by simp [paint_Line.l0])
    | succ k1 =>
      have H := HA.out
      clear HA
      simp only [paint_Line.l0] at H
      by_cases c9 : (x258001_1 : Int).toNat < a1_0.size
      rotate_left
      · rw [if_neg c9] at H
        have c9b0 : decide ((x258001_1 : Int).toNat < a1_0.size) = false := decide_eq_false c9
        clear c9
        by_cases c132 : a1_5 = true
        rotate_left
        · replace c132 := Bool.eq_false_iff.mpr c132
          subst c132
          have H1 : (some x5_1) = some r := by rw [if_neg (show ¬ (false = true) by decide)] at H; exact H
          clear H
          have H := H1
          clear H1
          obtain rfl := Option.some.inj H
          go_wp2_with (first | ((with_reducible refine gate_dst (N := 23) rfl ?_); refine next_no (w0 := w) (base := w.heap.size) ?hg (N := 23) ?hd (g := gb257) (s := a1_0) (p := x258001_1) ?hx rfl ?hi ?hp ?hB ?he ?_; (case hd => rfl); (case hg => rfl); (case hx => exact z207_); (case hi => exact z122_); (case hp => exact z204_); (case hB => exact z53_); (case he => exact GW257.out); intro w147 hbox hg hb; replace HO_5 := Aside0.mk (Kd.R_mono (Kd.R_grown (iter_R z170_ z144_) hg (fun k_ hk_ e_ => hk_.2 (Option.some.inj e_))) (fun _ h_ => h_.1)); replace HO_6 := Aside0.mk (Kd.R_mono (Kd.R_grown (iter_R z171_ z144_) hg (fun k_ hk_ e_ => hk_.2 (Option.some.inj e_))) (fun _ h_ => h_.1)); replace BK253 := Aside0.mk (blk_grown (g := gb253) (o := .cells #[.string a1_0, .slice A1_1 l1_1.length c1_1, .int .i64 a1_2, .int .i64 a1_3, .int .i64 a1_4, .bool false, .int .i64 a1_6, .bool a1_7, .bool a1_8] 25 (0, 0)) z143_ hg (fun e_ => NB253_257.out (Option.some.inj e_))); replace BK257 := Aside0.mk (hbox); replace HB := Aside0.mk (hb); clear hbox hb hg; have hnb148 := NB253_257.out; have hnc148 := NB257_253.out; have hcz149_0 : w147.cell? ⟨gb253, 0, none⟩ = some (.string a1_0) := (blk_cell BK253.out 0).trans rfl; have hcz149_1 : w147.cell? ⟨gb253, 1, none⟩ = some (.slice A1_1 l1_1.length c1_1) := (blk_cell BK253.out 1).trans rfl; have hcz149_2 : w147.cell? ⟨gb253, 2, none⟩ = some (.int .i64 a1_2) := (blk_cell BK253.out 2).trans rfl; have hcz149_3 : w147.cell? ⟨gb253, 3, none⟩ = some (.int .i64 a1_3) := (blk_cell BK253.out 3).trans rfl; have hcz149_4 : w147.cell? ⟨gb253, 4, none⟩ = some (.int .i64 a1_4) := (blk_cell BK253.out 4).trans rfl; have hcz149_5 : w147.cell? ⟨gb253, 5, none⟩ = some (.bool false) := (blk_cell BK253.out 5).trans rfl; have hcz149_6 : w147.cell? ⟨gb253, 6, none⟩ = some (.int .i64 a1_6) := (blk_cell BK253.out 6).trans rfl; have hcz149_7 : w147.cell? ⟨gb253, 7, none⟩ = some (.bool a1_7) := (blk_cell BK253.out 7).trans rfl; have hcz149_8 : w147.cell? ⟨gb253, 8, none⟩ = some (.bool a1_8) := (blk_cell BK253.out 8).trans rfl; have hfz149_0 := blk_frozen BK253.out 0; have hfz149_1 := blk_frozen BK253.out 1; have hfz149_2 := blk_frozen BK253.out 2; have hfz149_3 := blk_frozen BK253.out 3; have hfz149_4 := blk_frozen BK253.out 4; have hfz149_5 := blk_frozen BK253.out 5; have hfz149_6 := blk_frozen BK253.out 6; have hfz149_7 := blk_frozen BK253.out 7; have hfz149_8 := blk_frozen BK253.out 8))
          go_ret
          exact ⟨_, z178_, z170_, z69_⟩
        subst c132
        have H1 : ((paint_lastStyle.f k1 a1_0 l1_1 a1_2 a1_3 a1_4 true a1_6 a1_7 a1_8).bind fun t276 => (if 0 ≤ (wrap64 ((t254.length : Int) - 1)) then (if (wrap64 ((t254.length : Int) - 1)) < (t254.length : Int) then ((metrics_Table_Hyphen.f l0 t276).bind fun t278 => (if x5_1.length < 2932031007402 then (some (x5_1 ++ [(⟨(rd_T99 t254 (wrap64 ((t254.length : Int) - 1))).f1, a1_6, t278, (⟨#[45]⟩ : ByteArray), t276⟩ : S38)])) else (none))) else (none)) else (none))) = some r := by rw [if_pos rfl] at H; exact H
        clear H
        have H := H1
        clear H1
        replace H := Option.bind_eq_some_iff.mp H
        obtain ⟨t276, A1330, H⟩ := H
        replace H : (if 0 ≤ (wrap64 ((t254.length : Int) - 1)) then (if (wrap64 ((t254.length : Int) - 1)) < (t254.length : Int) then ((metrics_Table_Hyphen.f l0 t276).bind fun t278 => (if x5_1.length < 2932031007402 then (some (x5_1 ++ [(⟨(rd_T99 t254 (wrap64 ((t254.length : Int) - 1))).f1, a1_6, t278, (⟨#[45]⟩ : ByteArray), t276⟩ : S38)])) else (none))) else (none)) else (none)) = some r := H
        have A133 := Aside0.mk A1330
        clear A1330
        obtain ⟨ji134, hji134⟩ : ∃ j_ : Int, (wrap64 ((t254.length : Int) - 1)) = j_ := ⟨_, rfl⟩
        replace H : (if 0 ≤ (ji134) then (if (ji134) < (t254.length : Int) then ((metrics_Table_Hyphen.f l0 t276).bind fun t278 => (if x5_1.length < 2932031007402 then (some (x5_1 ++ [(⟨(rd_T99 t254 (ji134)).f1, a1_6, t278, (⟨#[45]⟩ : ByteArray), t276⟩ : S38)])) else (none))) else (none)) else (none)) = some r := by first | (rw [hji134] at H; exact H) | (simp only [hji134] at H ⊢; exact H)
        (try rw [hji134] at A133)
        have hji134w : (IntKind.i64.wrap ((t254.length : Int) - 1)) = ji134 := (i64_w _).trans hji134
        by_cases c135 : 0 ≤ (ji134)
        rotate_left
        · rw [if_neg c135] at H
          exact absurd H (by simp)
        rw [if_pos c135] at H
        have c135b0 : decide (0 ≤ (ji134)) = true := decide_eq_true c135
        clear c135
        by_cases c136 : (ji134) < (t254.length : Int)
        rotate_left
        · rw [if_neg c136] at H
          exact absurd H (by simp)
        rw [if_pos c136] at H
        have c136b0 : decide ((ji134) < (t254.length : Int)) = true := decide_eq_true c136
        clear c136
        replace H := Option.bind_eq_some_iff.mp H
        obtain ⟨t278, A1370, H⟩ := H
        replace H : (if x5_1.length < 2932031007402 then (some (x5_1 ++ [(⟨(rd_T99 t254 (ji134)).f1, a1_6, t278, (⟨#[45]⟩ : ByteArray), t276⟩ : S38)])) else (none)) = some r := H
        have A137 := Aside0.mk A1370
        clear A1370
        by_cases c138 : x5_1.length < 2932031007402
        rotate_left
        · rw [if_neg c138] at H
          exact absurd H (by simp)
        rw [if_pos c138] at H
        have LMc138 := Aside0.mk c138
        clear c138
        obtain ⟨y279, hy279⟩ : ∃ y_ : List (S38), y_ = (x5_1 ++ [(⟨(rd_T99 t254 (ji134)).f1, a1_6, t278, (⟨#[45]⟩ : ByteArray), t276⟩ : S38)]) := ⟨_, rfl⟩
        replace H : (some y279) = some r := by first | (rw [hy279]; with_reducible exact H) | (have H2_ := (Option.bind_some _ _).symm.trans H; rw [hy279]; with_reducible exact H2_) | (have H2_ := (Option.bind_some _ _).symm.trans H; with_reducible exact H2_) | with_reducible exact H | (rw [hy279]; exact H) | exact H
        have Ny279 := Aside0.mk hy279
        clear hy279
        obtain rfl := Option.some.inj H
        try go_wp2_with (first | ((with_reducible refine gate_dst (N := 23) rfl ?_); refine next_no (w0 := w) (base := w.heap.size) ?hg (N := 23) ?hd (g := gb257) (s := a1_0) (p := x258001_1) ?hx rfl ?hi ?hp ?hB ?he ?_; (case hd => rfl); (case hg => rfl); (case hx => exact z207_); (case hi => exact z122_); (case hp => exact z204_); (case hB => exact z53_); (case he => exact GW257.out); intro w139 hbox hg hb; replace HO_5 := Aside0.mk (Kd.R_mono (Kd.R_grown (iter_R z170_ z144_) hg (fun k_ hk_ e_ => hk_.2 (Option.some.inj e_))) (fun _ h_ => h_.1)); replace HO_6 := Aside0.mk (Kd.R_mono (Kd.R_grown (iter_R z171_ z144_) hg (fun k_ hk_ e_ => hk_.2 (Option.some.inj e_))) (fun _ h_ => h_.1)); replace BK253 := Aside0.mk (blk_grown (g := gb253) (o := .cells #[.string a1_0, .slice A1_1 l1_1.length c1_1, .int .i64 a1_2, .int .i64 a1_3, .int .i64 a1_4, .bool true, .int .i64 a1_6, .bool a1_7, .bool a1_8] 25 (0, 0)) z143_ hg (fun e_ => NB253_257.out (Option.some.inj e_))); replace BK257 := Aside0.mk (hbox); replace HB := Aside0.mk (hb); clear hbox hb hg; have hnb140 := NB253_257.out; have hnc140 := NB257_253.out; have hcz141_0 : w139.cell? ⟨gb253, 0, none⟩ = some (.string a1_0) := (blk_cell BK253.out 0).trans rfl; have hcz141_1 : w139.cell? ⟨gb253, 1, none⟩ = some (.slice A1_1 l1_1.length c1_1) := (blk_cell BK253.out 1).trans rfl; have hcz141_2 : w139.cell? ⟨gb253, 2, none⟩ = some (.int .i64 a1_2) := (blk_cell BK253.out 2).trans rfl; have hcz141_3 : w139.cell? ⟨gb253, 3, none⟩ = some (.int .i64 a1_3) := (blk_cell BK253.out 3).trans rfl; have hcz141_4 : w139.cell? ⟨gb253, 4, none⟩ = some (.int .i64 a1_4) := (blk_cell BK253.out 4).trans rfl; have hcz141_5 : w139.cell? ⟨gb253, 5, none⟩ = some (.bool true) := (blk_cell BK253.out 5).trans rfl; have hcz141_6 : w139.cell? ⟨gb253, 6, none⟩ = some (.int .i64 a1_6) := (blk_cell BK253.out 6).trans rfl; have hcz141_7 : w139.cell? ⟨gb253, 7, none⟩ = some (.bool a1_7) := (blk_cell BK253.out 7).trans rfl; have hcz141_8 : w139.cell? ⟨gb253, 8, none⟩ = some (.bool a1_8) := (blk_cell BK253.out 8).trans rfl; have hfz141_0 := blk_frozen BK253.out 0; have hfz141_1 := blk_frozen BK253.out 1; have hfz141_2 := blk_frozen BK253.out 2; have hfz141_3 := blk_frozen BK253.out 3; have hfz141_4 := blk_frozen BK253.out 4; have hfz141_5 := blk_frozen BK253.out 5; have hfz141_6 := blk_frozen BK253.out 6; have hfz141_7 := blk_frozen BK253.out 7; have hfz141_8 := blk_frozen BK253.out 8) | ((with_reducible refine gate_callee (f := 46) rfl ?_); refine goesL_ (some 122) rfl rfl Try.func46 (by kernel_rfl) rfl #[.agg #[.string a1_0, .slice A1_1 l1_1.length c1_1, .int .i64 a1_2, .int .i64 a1_3, .int .i64 a1_4, .bool true, .int .i64 a1_6, .bool a1_7, .bool a1_8]] rfl z113_ ?_; (with_reducible refine (paint_lastStyle.calls k1 a1_0 _ _ l1_1 a1_2 a1_3 a1_4 true a1_6 a1_7 a1_8 t276 _ ?side1 ?side2 A133.out).mono ?_); (case side1 => exact z78_); (case side2 => exact HC1_1.out); rintro e w142 ⟨rfl, hb⟩; refine ⟨_, rfl, ?_⟩; replace HO_5 := Aside0.mk (Kd.R_below z170_ hb); replace HO_6 := Aside0.mk (Kd.R_below z171_ hb); replace BK253 := Aside0.mk (blk_below (g := gb253) (o := .cells #[.string a1_0, .slice A1_1 l1_1.length c1_1, .int .i64 a1_2, .int .i64 a1_3, .int .i64 a1_4, .bool true, .int .i64 a1_6, .bool a1_7, .bool a1_8] 25 (0, 0)) z143_ hb); replace BK257 := Aside0.mk (blk_below (g := gb257) (o := .stringIter a1_0 (x258001_1 : Int).toNat) z144_ hb); replace HB := Aside0.mk (below_step z69_ hb); (try clear hb); (try clear hb2); (try clear hk); (try clear hi)))
        replace HO_5 := Aside0.mk (Kd.R_drew HO_5.out)
        replace HO_6 := Aside0.mk (Kd.R_drew HO_6.out)
        replace BK253 := Aside0.mk (blk_drew BK253.out)
        replace BK257 := Aside0.mk (blk_drew BK257.out)
        replace HB := Aside0.mk (below_drew1 HB.out)
        obtain ⟨Ao144, co144, eo144⟩ := Kd.R_slice HO_6.out
        (first | subst eo144 | (injection eo144 with f1_ f2_ f3_; have f4_ := f1_.symm; have f5_ := f3_.symm; clear f1_ f2_ f3_; subst f4_; subst f5_))
        have p277 : 0 ≤ ((ji134) : Int) := of_decide_eq_true z204_
        have q277 : (ji134) < (t254.length : Int) := of_decide_eq_true z204_
        obtain ⟨ad277, e277, hx277_0, hx277_1⟩ := at_T99 (Kd.R_reads' HO_6.out).2.2 (ji134) p277 q277
        cases e277
        replace p277 := eq_true p277
        replace q277 := eq_true q277
        refine start_ (n := 18) (S := fun w' => w'.cell? ⟨gb253, 0, none⟩ = some (.string a1_0) ∧ w'.cell? ⟨gb253, 1, none⟩ = some (.slice A1_1 l1_1.length c1_1) ∧ w'.cell? ⟨gb253, 2, none⟩ = some (.int .i64 a1_2) ∧ w'.cell? ⟨gb253, 3, none⟩ = some (.int .i64 a1_3) ∧ w'.cell? ⟨gb253, 4, none⟩ = some (.int .i64 a1_4) ∧ w'.cell? ⟨gb253, 5, none⟩ = some (.bool true) ∧ w'.cell? ⟨gb253, 6, none⟩ = some (.int .i64 a1_6) ∧ w'.cell? ⟨gb253, 7, none⟩ = some (.bool a1_7) ∧ w'.cell? ⟨gb253, 8, none⟩ = some (.bool a1_8) ∧ w'.cell? (ad277.add (((ji134)).toNat * 2)) = some (.int .i64 ((rd_T99 t254 (ji134)).f0)) ∧ w'.cell? ⟨(ad277.add (((ji134)).toNat * 2)).block, (ad277.add (((ji134)).toNat * 2)).off + 1, none⟩ = some (.int .i64 ((rd_T99 t254 (ji134)).f1))) (ds := [15, 16]) #[false, false, false, false, false, false, false, false, false, false, false, false, false, false, false, false, false, false] (by kernel_rfl) rfl rfl ⟨(blk_cell BK253.out 0).trans rfl, (blk_cell BK253.out 1).trans rfl, (blk_cell BK253.out 2).trans rfl, (blk_cell BK253.out 3).trans rfl, (blk_cell BK253.out 4).trans rfl, (blk_cell BK253.out 5).trans rfl, (blk_cell BK253.out 6).trans rfl, (blk_cell BK253.out 7).trans rfl, (blk_cell BK253.out 8).trans rfl, hx277_0, hx277_1⟩ (fun hHeld => ?_); refine with_tabW paint_Line.tab22 paint_Line.bits22 (fun HT_ HW_ => ?_)
        generalize w142.drew = w143 at HO_5 HO_6 BK253 BK257 HB hx277_0 hx277_1 hHeld ⊢
        refine p1_ 0 123 #[true, false, false, false, false, false, false, false, false, false, false, false, false, false, false, false, false, false] ?_
        refine p1_ 1 124 #[true, true, false, false, false, false, false, false, false, false, false, false, false, false, false, false, false, false] ?_
        refine p1_ 2 125 #[true, true, true, false, false, false, false, false, false, false, false, false, false, false, false, false, false, false] ?_
        refine p1_ 3 126 #[true, true, true, true, false, false, false, false, false, false, false, false, false, false, false, false, false, false] ?_
        refine p1_ 4 127 #[true, true, true, true, true, false, false, false, false, false, false, false, false, false, false, false, false, false] ?_
        refine p1_ 5 128 #[true, true, true, true, true, true, false, false, false, false, false, false, false, false, false, false, false, false] ?_
        refine p1_ 6 129 #[true, true, true, true, true, true, true, false, false, false, false, false, false, false, false, false, false, false] ?_
        refine p1_ 8 131 #[true, true, true, true, true, true, true, false, true, false, false, false, false, false, false, false, false, false] ?_
        refine p1_ 10 133 #[true, true, true, true, true, true, true, false, true, false, true, false, false, false, false, false, false, false] ?_
        refine p1_ 11 134 #[true, true, true, true, true, true, true, false, true, false, true, true, false, false, false, false, false, false] ?_
        refine p1_ 13 136 #[true, true, true, true, true, true, true, false, true, false, true, true, false, true, false, false, false, false] ?_
        refine take_ (i := 7) (N := some 130) (v := ?_) (a' := ?_) #[true, true, true, true, true, true, true, true, true, false, true, true, false, true, false, false, false, false] rfl rfl (take_ofW HT_.out HW_.out (by kernel_rfl)) (fun _ _ _ h => h) (Or.inl ⟨by rfl, ?_⟩) hHeld ?_ ?_
        rotate_left
        · rintro w' ⟨s0, s1, s2, s3, s4, s5, s6, s7, s8, s9, s10⟩
          go_simp
          with_reducible rfl
        rotate_left
        · simp only [Act.put, List.setIfInBounds_toArray, List.set_cons_zero, List.set_cons_succ, i64_w, i32_w]
          rfl
        refine take_ (i := 9) (N := some 132) (v := ?_) (a' := ?_) #[true, true, true, true, true, true, true, true, true, true, true, true, false, true, false, false, false, false] rfl rfl (take_ofW HT_.out HW_.out (by kernel_rfl)) (fun _ _ _ h => h) (Or.inl ⟨by rfl, ?_⟩) hHeld ?_ ?_
        rotate_left
        · rintro w' ⟨s0, s1, s2, s3, s4, s5, s6, s7, s8, s9, s10⟩
          go_simp
          with_reducible rfl
        rotate_left
        · simp only [Act.put, List.setIfInBounds_toArray, List.set_cons_zero, List.set_cons_succ, i64_w, i32_w]
          rfl
        refine one_ (i := 12) (N := some 135) #[true, true, true, true, true, true, true, true, true, true, true, true, true, true, false, false, false, false] rfl rfl (one_of HT_.out (by kernel_rfl)) (by decide) (fun K hK => ?_)
        refine goes_ Try.func47 (by kernel_rfl) rfl #[.pointer A0, .int .i64 t276] (by rfl) rfl rfl z113_ ?_
        with_reducible refine (metrics_Table_Hyphen.calls _ c0 l0 t276 t278 _ ?side1 ?side2 A137.out).mono ?_
        (case side1 => exact z79_)
        (case side2 => exact HC0.out)
        rintro e w145 ⟨rfl, hb⟩
        have HS9_ := (hb.cell (World.block_lt_of_cell? _ _ (hHeld.2.2.2.2.2.2.2.2.2.1))).trans (hHeld.2.2.2.2.2.2.2.2.2.1)
        have HS10_ := (hb.cell (World.block_lt_of_cell? _ _ (hHeld.2.2.2.2.2.2.2.2.2.2))).trans (hHeld.2.2.2.2.2.2.2.2.2.2)
        refine ⟨_, rfl, ?_⟩
        replace HO_5 := Aside0.mk (Kd.R_below z170_ hb)
        replace HO_6 := Aside0.mk (Kd.R_below z171_ hb)
        replace BK253 := Aside0.mk (blk_below (g := gb253) (o := .cells #[.string a1_0, .slice A1_1 l1_1.length c1_1, .int .i64 a1_2, .int .i64 a1_3, .int .i64 a1_4, .bool true, .int .i64 a1_6, .bool a1_7, .bool a1_8] 25 (0, 0)) z143_ hb)
        replace BK257 := Aside0.mk (blk_below (g := gb257) (o := .stringIter a1_0 (x258001_1 : Int).toNat) z144_ hb)
        replace HB := Aside0.mk (below_step z69_ hb)
        (try clear hb)
        (try clear hb2)
        (try clear hk)
        (try clear hi)
        refine hK.out _ _ ⟨(blk_cell BK253.out 0).trans rfl, (blk_cell BK253.out 1).trans rfl, (blk_cell BK253.out 2).trans rfl, (blk_cell BK253.out 3).trans rfl, (blk_cell BK253.out 4).trans rfl, (blk_cell BK253.out 5).trans rfl, (blk_cell BK253.out 6).trans rfl, (blk_cell BK253.out 7).trans rfl, (blk_cell BK253.out 8).trans rfl, HS9_, HS10_⟩ (fun hHeld => ?_)
        clear hK K
        refine norm_ (a' := ?_) ?_ ?_
        rotate_left
        · show Act.put _ (some 135) _ = _
          simp only [Act.put, List.setIfInBounds_toArray, List.set_cons_zero, List.set_cons_succ, i64_w, i32_w]
          rfl
        refine p1_ 14 137 #[true, true, true, true, true, true, true, true, true, true, true, true, true, true, true, false, false, false] ?_
        refine last_ (i := 15) (N := some 138) #[true, true, true, true, true, true, true, true, true, true, true, true, true, true, true, true, false, false] rfl rfl (one_of HT_.out (by kernel_rfl)) (by decide) (fun K hK => ?_)
        refine value_ (w1 := ?_) (v := ?_) (by rfl) rfl ?_ ?_
        rotate_left 2
        · go_simp
          constructor
          · rfl
          · rfl
        refine hK.out _ _ ?_
        clear hK K
        refine norm_ (a' := ?_) ?_ ?_
        rotate_left
        · show Act.put _ (some 138) _ = _
          simp only [Act.put, List.setIfInBounds_toArray, List.set_cons_zero, List.set_cons_succ, i64_w, i32_w]
          rfl
        refine last_ (i := 16) (N := some 139) #[true, true, true, true, true, true, true, true, true, true, true, true, true, true, true, true, true, false] rfl rfl (one_of HT_.out (by kernel_rfl)) (by decide) (fun K hK => ?_)
        refine Kd.R_append_step k38 (w0 := w) w.heap.size (by rfl) (.tmp 123) (.tmp 138) 33 38 (.agg #[(.int .i64 0), (.int .i64 0), (.int .i64 0), (.string ⟨#[]⟩), (.int .i64 0)]) 48 rfl Try.underlying33 info38 rfl (by decide) (by omega) u5 x5_1 (⟨(rd_T99 t254 (ji134)).f1, a1_6, t278, (⟨#[45]⟩ : ByteArray), t276⟩ : S38) [.int .i64 ((rd_T99 t254 (ji134)).f1), .int .i64 a1_6, .int .i64 t278, .string (⟨#[45]⟩ : ByteArray), .int .i64 t276] (fun _ => True) (fun _ => False) rfl rfl ?aP (fun _ hk => hk.elim) ?aF ?aO ?aB ?aS ?aL ?_
        (case aP => exact k38_mkM _ _ _ (⟨(rd_T99 t254 (ji134)).f1, a1_6, t278, (⟨#[45]⟩ : ByteArray), t276⟩ : S38))
        (case aB => exact z53_)
        (case aF => exact z215_)
        (case aO => exact z152_)
        (case aS => exact (below_size z69_))
        (case aL => have := LMc138.out; omega)
        intro v280 w146 ho hb hg hat
        rw [← Ny279.out] at ho
        have n0_ := Aside0.mk (Kd.R_over' z171_ (Kd.R_typed z170_) (by decide) hg)
        have n1_ := Aside0.mk (blk_grown (g := gb253) (o := .cells #[.string a1_0, .slice A1_1 l1_1.length c1_1, .int .i64 a1_2, .int .i64 a1_3, .int .i64 a1_4, .bool true, .int .i64 a1_6, .bool a1_7, .bool a1_8] 25 (0, 0)) z143_ hg (Kd.R_ne HO_5.out BK253.out (by decide)))
        have n2_ := Aside0.mk (blk_grown (g := gb257) (o := .stringIter a1_0 (x258001_1 : Int).toNat) z144_ hg (iter_ne (Kd.R_typed HO_5.out) BK257.out))
        have n3_ := Aside0.mk (hb)
        have n4_ := Aside0.mk (ho)
        clear HO_6
        clear BK253
        clear BK257
        clear HB
        clear HO_5
        have HO_6 := n0_
        have BK253 := n1_
        have BK257 := n2_
        have HB := n3_
        have HO281 := n4_
        clear n0_ n1_ n2_ n3_ n4_
        clear ho hb hg hat
        refine hK.out _ _ ?_
        clear hK K
        refine norm_ (a' := ?_) ?_ ?_
        rotate_left
        · show Act.put _ (some 139) _ = _
          simp only [Act.put, List.setIfInBounds_toArray, List.set_cons_zero, List.set_cons_succ, i64_w, i32_w]
          rfl
        refine p1_ 17 5 #[true, true, true, true, true, true, true, true, true, true, true, true, true, true, true, true, true, true] ?_
        refine done_ (done_of HT_.out (by kernel_rfl)) ?_
        try go_wp2
        go_ret
        exact ⟨_, by first | rfl | (simp [errW_none, errW_some] <;> rfl) | (simp only [← hji134]; first | rfl | (simp [errW_none, errW_some] <;> rfl)) | (simp [*, errW_none, errW_some] <;> rfl), y185_ HO281.out, z69_⟩
      rw [if_pos c9] at H
      have c9b0 : decide ((x258001_1 : Int).toNat < a1_0.size) = true := decide_eq_true c9
      clear c9
      by_cases c10 : 0 ≤ x8_1
      rotate_left
      · rw [if_neg c10] at H
        exact absurd H (by simp)
      rw [if_pos c10] at H
      have c10b0 : decide (0 ≤ x8_1) = true := decide_eq_true c10
      clear c10
      by_cases c11 : x8_1 < (t254.length : Int)
      rotate_left
      · rw [if_neg c11] at H
        exact absurd H (by simp)
      rw [if_pos c11] at H
      have c11b0 : decide (x8_1 < (t254.length : Int)) = true := decide_eq_true c11
      clear c11
      obtain ⟨ji12, hji12⟩ : ∃ j_ : Int, (wrap64 (x8_1 + 1)) = j_ := ⟨_, rfl⟩
      replace H : (if 0 ≤ (ji12) then (if (ji12) < (t254.length : Int) then ((paint_drawn.f k1 (itR_ a1_0 x258001_1)).bind fun t262 => (if t262 = true then ((paint_styleAt.f k1 l1_1 (itP_ x258001_1)).bind fun t265 => (if 0 ≤ ((rd_T99 t254 x8_1).f0) then (if ((rd_T99 t254 x8_1).f0) ≤ ((rd_T99 t254 (ji12)).f0) then (if ((rd_T99 t254 (ji12)).f0) ≤ (a1_0.size : Int) then (if x7_1 = true then (if 0 ≤ (wrap64 ((x5_1.length : Int) - 1)) then (if (wrap64 ((x5_1.length : Int) - 1)) < (x5_1.length : Int) then (paint_Line.j1 k1 l0 x5_1 t254 x7_1 ji12 t265 (a1_0.extract (((rd_T99 t254 x8_1).f0) : Int).toNat (((rd_T99 t254 (ji12)).f0) : Int).toNat) (wrap64 ((x5_1.length : Int) - 1)) (((rd_T38 x5_1 (wrap64 ((x5_1.length : Int) - 1))).f4) == t265) a1_0 l1_1 a1_2 a1_3 a1_4 a1_5 a1_6 a1_7 a1_8 a1_0 (itN_ a1_0 x258001_1) ((rd_T99 t254 x8_1).f0) ((rd_T99 t254 x8_1).f1) ((rd_T99 t254 (ji12)).f0) ((rd_T99 t254 (ji12)).f1)) else (none)) else (none)) else (paint_Line.j1 k1 l0 x5_1 t254 x7_1 ji12 t265 (a1_0.extract (((rd_T99 t254 x8_1).f0) : Int).toNat (((rd_T99 t254 (ji12)).f0) : Int).toNat) (wrap64 ((x5_1.length : Int) - 1)) false a1_0 l1_1 a1_2 a1_3 a1_4 a1_5 a1_6 a1_7 a1_8 a1_0 (itN_ a1_0 x258001_1) ((rd_T99 t254 x8_1).f0) ((rd_T99 t254 x8_1).f1) ((rd_T99 t254 (ji12)).f0) ((rd_T99 t254 (ji12)).f1))) else (none)) else (none)) else (none))) else (if x7_1 = true then (if ((rd_T99 t254 (ji12)).f1) = ((rd_T99 t254 x8_1).f1) then ((runes_Kind.f k1 (itR_ a1_0 x258001_1)).bind fun t263 => (if t263 = 1 then (paint_Line.l0 k1 l0 x5_1 t254 false ji12 a1_0 l1_1 a1_2 a1_3 a1_4 a1_5 a1_6 a1_7 a1_8 a1_0 (itN_ a1_0 x258001_1)) else ((runes_Kind.f k1 (itR_ a1_0 x258001_1)).bind fun t264 => (paint_Line.l0 k1 l0 x5_1 t254 (t264 != 2) ji12 a1_0 l1_1 a1_2 a1_3 a1_4 a1_5 a1_6 a1_7 a1_8 a1_0 (itN_ a1_0 x258001_1))))) else (paint_Line.l0 k1 l0 x5_1 t254 false ji12 a1_0 l1_1 a1_2 a1_3 a1_4 a1_5 a1_6 a1_7 a1_8 a1_0 (itN_ a1_0 x258001_1))) else (paint_Line.l0 k1 l0 x5_1 t254 false ji12 a1_0 l1_1 a1_2 a1_3 a1_4 a1_5 a1_6 a1_7 a1_8 a1_0 (itN_ a1_0 x258001_1))))) else (none)) else (none)) = some r := by first | (rw [hji12] at H; exact H) | (simp only [hji12] at H ⊢; exact H)
      have hji12w : (IntKind.i64.wrap (x8_1 + 1)) = ji12 := (i64_w _).trans hji12
      by_cases c13 : 0 ≤ (ji12)
      rotate_left
      · rw [if_neg c13] at H
        exact absurd H (by simp)
      rw [if_pos c13] at H
      have c13b0 : decide (0 ≤ (ji12)) = true := decide_eq_true c13
      clear c13
      by_cases c14 : (ji12) < (t254.length : Int)
      rotate_left
      · rw [if_neg c14] at H
        exact absurd H (by simp)
      rw [if_pos c14] at H
      have c14b0 : decide ((ji12) < (t254.length : Int)) = true := decide_eq_true c14
      clear c14
      replace H := Option.bind_eq_some_iff.mp H
      obtain ⟨t262, A150, H⟩ := H
      replace H : (if t262 = true then ((paint_styleAt.f k1 l1_1 (itP_ x258001_1)).bind fun t265 => (if 0 ≤ ((rd_T99 t254 x8_1).f0) then (if ((rd_T99 t254 x8_1).f0) ≤ ((rd_T99 t254 (ji12)).f0) then (if ((rd_T99 t254 (ji12)).f0) ≤ (a1_0.size : Int) then (if x7_1 = true then (if 0 ≤ (wrap64 ((x5_1.length : Int) - 1)) then (if (wrap64 ((x5_1.length : Int) - 1)) < (x5_1.length : Int) then (paint_Line.j1 k1 l0 x5_1 t254 x7_1 ji12 t265 (a1_0.extract (((rd_T99 t254 x8_1).f0) : Int).toNat (((rd_T99 t254 (ji12)).f0) : Int).toNat) (wrap64 ((x5_1.length : Int) - 1)) (((rd_T38 x5_1 (wrap64 ((x5_1.length : Int) - 1))).f4) == t265) a1_0 l1_1 a1_2 a1_3 a1_4 a1_5 a1_6 a1_7 a1_8 a1_0 (itN_ a1_0 x258001_1) ((rd_T99 t254 x8_1).f0) ((rd_T99 t254 x8_1).f1) ((rd_T99 t254 (ji12)).f0) ((rd_T99 t254 (ji12)).f1)) else (none)) else (none)) else (paint_Line.j1 k1 l0 x5_1 t254 x7_1 ji12 t265 (a1_0.extract (((rd_T99 t254 x8_1).f0) : Int).toNat (((rd_T99 t254 (ji12)).f0) : Int).toNat) (wrap64 ((x5_1.length : Int) - 1)) false a1_0 l1_1 a1_2 a1_3 a1_4 a1_5 a1_6 a1_7 a1_8 a1_0 (itN_ a1_0 x258001_1) ((rd_T99 t254 x8_1).f0) ((rd_T99 t254 x8_1).f1) ((rd_T99 t254 (ji12)).f0) ((rd_T99 t254 (ji12)).f1))) else (none)) else (none)) else (none))) else (if x7_1 = true then (if ((rd_T99 t254 (ji12)).f1) = ((rd_T99 t254 x8_1).f1) then ((runes_Kind.f k1 (itR_ a1_0 x258001_1)).bind fun t263 => (if t263 = 1 then (paint_Line.l0 k1 l0 x5_1 t254 false ji12 a1_0 l1_1 a1_2 a1_3 a1_4 a1_5 a1_6 a1_7 a1_8 a1_0 (itN_ a1_0 x258001_1)) else ((runes_Kind.f k1 (itR_ a1_0 x258001_1)).bind fun t264 => (paint_Line.l0 k1 l0 x5_1 t254 (t264 != 2) ji12 a1_0 l1_1 a1_2 a1_3 a1_4 a1_5 a1_6 a1_7 a1_8 a1_0 (itN_ a1_0 x258001_1))))) else (paint_Line.l0 k1 l0 x5_1 t254 false ji12 a1_0 l1_1 a1_2 a1_3 a1_4 a1_5 a1_6 a1_7 a1_8 a1_0 (itN_ a1_0 x258001_1))) else (paint_Line.l0 k1 l0 x5_1 t254 false ji12 a1_0 l1_1 a1_2 a1_3 a1_4 a1_5 a1_6 a1_7 a1_8 a1_0 (itN_ a1_0 x258001_1)))) = some r := H
      have A15 := Aside0.mk A150
      clear A150
      by_cases c16 : t262 = true
      · subst c16
        have H1 : ((paint_styleAt.f k1 l1_1 (itP_ x258001_1)).bind fun t265 => (if 0 ≤ ((rd_T99 t254 x8_1).f0) then (if ((rd_T99 t254 x8_1).f0) ≤ ((rd_T99 t254 (ji12)).f0) then (if ((rd_T99 t254 (ji12)).f0) ≤ (a1_0.size : Int) then (if x7_1 = true then (if 0 ≤ (wrap64 ((x5_1.length : Int) - 1)) then (if (wrap64 ((x5_1.length : Int) - 1)) < (x5_1.length : Int) then (paint_Line.j1 k1 l0 x5_1 t254 x7_1 ji12 t265 (a1_0.extract (((rd_T99 t254 x8_1).f0) : Int).toNat (((rd_T99 t254 (ji12)).f0) : Int).toNat) (wrap64 ((x5_1.length : Int) - 1)) (((rd_T38 x5_1 (wrap64 ((x5_1.length : Int) - 1))).f4) == t265) a1_0 l1_1 a1_2 a1_3 a1_4 a1_5 a1_6 a1_7 a1_8 a1_0 (itN_ a1_0 x258001_1) ((rd_T99 t254 x8_1).f0) ((rd_T99 t254 x8_1).f1) ((rd_T99 t254 (ji12)).f0) ((rd_T99 t254 (ji12)).f1)) else (none)) else (none)) else (paint_Line.j1 k1 l0 x5_1 t254 x7_1 ji12 t265 (a1_0.extract (((rd_T99 t254 x8_1).f0) : Int).toNat (((rd_T99 t254 (ji12)).f0) : Int).toNat) (wrap64 ((x5_1.length : Int) - 1)) false a1_0 l1_1 a1_2 a1_3 a1_4 a1_5 a1_6 a1_7 a1_8 a1_0 (itN_ a1_0 x258001_1) ((rd_T99 t254 x8_1).f0) ((rd_T99 t254 x8_1).f1) ((rd_T99 t254 (ji12)).f0) ((rd_T99 t254 (ji12)).f1))) else (none)) else (none)) else (none))) = some r := by rw [if_pos rfl] at H; exact H
        clear H
        have H := H1
        clear H1
        replace H := Option.bind_eq_some_iff.mp H
        obtain ⟨t265, A170, H⟩ := H
        replace H : (if 0 ≤ ((rd_T99 t254 x8_1).f0) then (if ((rd_T99 t254 x8_1).f0) ≤ ((rd_T99 t254 (ji12)).f0) then (if ((rd_T99 t254 (ji12)).f0) ≤ (a1_0.size : Int) then (if x7_1 = true then (if 0 ≤ (wrap64 ((x5_1.length : Int) - 1)) then (if (wrap64 ((x5_1.length : Int) - 1)) < (x5_1.length : Int) then (paint_Line.j1 k1 l0 x5_1 t254 x7_1 ji12 t265 (a1_0.extract (((rd_T99 t254 x8_1).f0) : Int).toNat (((rd_T99 t254 (ji12)).f0) : Int).toNat) (wrap64 ((x5_1.length : Int) - 1)) (((rd_T38 x5_1 (wrap64 ((x5_1.length : Int) - 1))).f4) == t265) a1_0 l1_1 a1_2 a1_3 a1_4 a1_5 a1_6 a1_7 a1_8 a1_0 (itN_ a1_0 x258001_1) ((rd_T99 t254 x8_1).f0) ((rd_T99 t254 x8_1).f1) ((rd_T99 t254 (ji12)).f0) ((rd_T99 t254 (ji12)).f1)) else (none)) else (none)) else (paint_Line.j1 k1 l0 x5_1 t254 x7_1 ji12 t265 (a1_0.extract (((rd_T99 t254 x8_1).f0) : Int).toNat (((rd_T99 t254 (ji12)).f0) : Int).toNat) (wrap64 ((x5_1.length : Int) - 1)) false a1_0 l1_1 a1_2 a1_3 a1_4 a1_5 a1_6 a1_7 a1_8 a1_0 (itN_ a1_0 x258001_1) ((rd_T99 t254 x8_1).f0) ((rd_T99 t254 x8_1).f1) ((rd_T99 t254 (ji12)).f0) ((rd_T99 t254 (ji12)).f1))) else (none)) else (none)) else (none)) = some r := H
        have A17 := Aside0.mk A170
        clear A170
        by_cases c18 : 0 ≤ ((rd_T99 t254 x8_1).f0)
        rotate_left
        · rw [if_neg c18] at H
          exact absurd H (by simp)
        rw [if_pos c18] at H
        have c18b0 := eq_true c18
        have c18b1 : decide (0 ≤ ((rd_T99 t254 x8_1).f0)) = true := decide_eq_true c18
        clear c18
        by_cases c19 : ((rd_T99 t254 x8_1).f0) ≤ ((rd_T99 t254 (ji12)).f0)
        rotate_left
        · rw [if_neg c19] at H
          exact absurd H (by simp)
        rw [if_pos c19] at H
        have c19b0 := eq_true c19
        have c19b1 : decide (((rd_T99 t254 x8_1).f0) ≤ ((rd_T99 t254 (ji12)).f0)) = true := decide_eq_true c19
        clear c19
        by_cases c20 : ((rd_T99 t254 (ji12)).f0) ≤ (a1_0.size : Int)
        rotate_left
        · rw [if_neg c20] at H
          exact absurd H (by simp)
        rw [if_pos c20] at H
        have c20b0 := eq_true c20
        have c20b1 : decide (((rd_T99 t254 (ji12)).f0) ≤ (a1_0.size : Int)) = true := decide_eq_true c20
        clear c20
        have HC21 := Aside0.mk H
        clear H
        try go_wp2_with (first | ((with_reducible refine gate_dst (N := 23) rfl ?_); refine next_yes (w0 := w) (base := w.heap.size) ?hg (N := 23) ?hd (g := gb257) (s := a1_0) (p := x258001_1) ?hx rfl ?hi ?hp ?hB ?he ?_; (case hd => rfl); (case hg => rfl); (case hx => exact z207_); (case hi => exact z122_); (case hp => exact z204_); (case hB => exact z53_); (case he => exact GW257.out); intro w22 hbox hg hb; replace HO_5 := Aside0.mk (Kd.R_mono (Kd.R_grown (iter_R z170_ z144_) hg (fun k_ hk_ e_ => hk_.2 (Option.some.inj e_))) (fun _ h_ => h_.1)); replace HO_6 := Aside0.mk (Kd.R_mono (Kd.R_grown (iter_R z171_ z144_) hg (fun k_ hk_ e_ => hk_.2 (Option.some.inj e_))) (fun _ h_ => h_.1)); replace BK253 := Aside0.mk (blk_grown (g := gb253) (o := .cells #[.string a1_0, .slice A1_1 l1_1.length c1_1, .int .i64 a1_2, .int .i64 a1_3, .int .i64 a1_4, .bool a1_5, .int .i64 a1_6, .bool a1_7, .bool a1_8] 25 (0, 0)) z143_ hg (fun e_ => NB253_257.out (Option.some.inj e_))); replace BK257 := Aside0.mk (hbox); replace HB := Aside0.mk (hb); clear hbox hb hg))
        replace HO_5 := Aside0.mk (Kd.R_drew HO_5.out)
        replace HO_6 := Aside0.mk (Kd.R_drew HO_6.out)
        replace BK253 := Aside0.mk (blk_drew BK253.out)
        replace BK257 := Aside0.mk (blk_drew BK257.out)
        replace HB := Aside0.mk (below_drew1 HB.out)
        obtain ⟨Ao24, co24, eo24⟩ := Kd.R_slice HO_6.out
        (first | subst eo24 | (injection eo24 with f1_ f2_ f3_; have f4_ := f1_.symm; have f5_ := f3_.symm; clear f1_ f2_ f3_; subst f4_; subst f5_))
        have p258 : 0 ≤ (x8_1 : Int) := of_decide_eq_true z204_
        have q258 : x8_1 < (t254.length : Int) := of_decide_eq_true z204_
        obtain ⟨ad258, e258, hx258_0, hx258_1⟩ := at_T99 (Kd.R_reads' HO_6.out).2.2 x8_1 p258 q258
        cases e258
        replace p258 := eq_true p258
        replace q258 := eq_true q258
        have p259 : 0 ≤ ((ji12) : Int) := of_decide_eq_true z204_
        have q259 : (ji12) < (t254.length : Int) := of_decide_eq_true z204_
        obtain ⟨ad259, e259, hx259_0, hx259_1⟩ := at_T99 (Kd.R_reads' HO_6.out).2.2 (ji12) p259 q259
        obtain rfl : ad258 = ad259 := (by injection e259)
        replace p259 := eq_true p259
        replace q259 := eq_true q259
        refine start_ (n := 13) (S := fun w' => w'.cell? (ad258.add ((x8_1).toNat * 2)) = some (.int .i64 ((rd_T99 t254 x8_1).f0)) ∧ w'.cell? ⟨(ad258.add ((x8_1).toNat * 2)).block, (ad258.add ((x8_1).toNat * 2)).off + 1, none⟩ = some (.int .i64 ((rd_T99 t254 x8_1).f1)) ∧ w'.cell? (ad258.add (((ji12)).toNat * 2)) = some (.int .i64 ((rd_T99 t254 (ji12)).f0)) ∧ w'.cell? ⟨(ad258.add (((ji12)).toNat * 2)).block, (ad258.add (((ji12)).toNat * 2)).off + 1, none⟩ = some (.int .i64 ((rd_T99 t254 (ji12)).f1))) (ds := []) bs1_ (by kernel_rfl) rfl rfl ⟨hx258_0, hx258_1, hx259_0, hx259_1⟩ (fun hHeld => ?_); refine with_tabW paint_Line.tab8 paint_Line.bits8 (fun HT_ HW_ => ?_)
        generalize w22.drew = w23 at HO_5 HO_6 BK253 BK257 HB hx258_0 hx258_1 hx259_0 hx259_1 hHeld ⊢
        refine p1_ 0 27 bs2_ ?_
        refine p1_ 1 28 bs3_ ?_
        refine p1_ 2 29 bs4_ ?_
        refine p1_ 4 31 bs5_ ?_
        refine p1_ 5 32 bs6_ ?_
        refine p1_ 6 33 bs7_ ?_
        refine p1_ 7 34 bs8_ ?_
        refine take_ (i := 3) (N := some 30) (v := ?_) (a' := ?_) bs9_ rfl rfl (take_ofW HT_.out HW_.out (by kernel_rfl)) (fun _ _ _ h => h) (Or.inl ⟨by rfl, ?_⟩) hHeld ?_ ?_
        rotate_left
        · rintro w' ⟨s0, s1, s2, s3⟩
          go_simp
          with_reducible rfl
        rotate_left
        · simp only [Act.put, List.setIfInBounds_toArray, List.set_cons_zero, List.set_cons_succ, i64_w, i32_w]
          rfl
        refine take_ (i := 8) (N := some 35) (v := ?_) (a' := ?_) bs10_ rfl rfl (take_ofW HT_.out HW_.out (by kernel_rfl)) (fun _ _ _ h => h) (Or.inl ⟨by rfl, ?_⟩) hHeld ?_ ?_
        rotate_left
        · rintro w' ⟨s0, s1, s2, s3⟩
          go_simp
          with_reducible rfl
        rotate_left
        · simp only [Act.put, List.setIfInBounds_toArray, List.set_cons_zero, List.set_cons_succ, i64_w, i32_w]
          rfl
        refine join_ (σ := Nat × Nat) 2 bs0_ (fun s_ => [(11, .pointer (some ⟨s_.1, 0, none⟩)), (12, .pointer (some ⟨s_.2, 0, none⟩))]) (fun s_ w' => (w'.cell? (ad258.add ((x8_1).toNat * 2)) = some (.int .i64 ((rd_T99 t254 x8_1).f0)) ∧ w'.cell? ⟨(ad258.add ((x8_1).toNat * 2)).block, (ad258.add ((x8_1).toNat * 2)).off + 1, none⟩ = some (.int .i64 ((rd_T99 t254 x8_1).f1)) ∧ w'.cell? (ad258.add (((ji12)).toNat * 2)) = some (.int .i64 ((rd_T99 t254 (ji12)).f0)) ∧ w'.cell? ⟨(ad258.add (((ji12)).toNat * 2)).block, (ad258.add (((ji12)).toNat * 2)).off + 1, none⟩ = some (.int .i64 ((rd_T99 t254 (ji12)).f1))) ∧ (Kd.R k38 38 w' w.heap.size (fun _ => True) u5 x5_1) ∧ (Kd.R k99 99 w' w.heap.size (fun k_ => k_ ≠ s_.1 ∧ k_ ≠ s_.2) (.slice (some ad258) t254.length co24) t254) ∧ (w'.heap[gb253]? = some (.cells #[.string a1_0, .slice A1_1 l1_1.length c1_1, .int .i64 a1_2, .int .i64 a1_3, .int .i64 a1_4, .bool a1_5, .int .i64 a1_6, .bool a1_7, .bool a1_8] 25 (0, 0))) ∧ (w'.heap[gb257]? = some (.stringIter a1_0 (itN_ a1_0 x258001_1 : Int).toNat)) ∧ (w'.heap[s_.1]? = some (.cells #[.int .i64 0, .int .i64 0] 99 (0, 0))) ∧ (w'.heap[s_.2]? = some (.cells #[.int .i64 0, .int .i64 0] 99 (0, 0))) ∧ (w.heap.size ≤ s_.1) ∧ (w.heap.size ≤ s_.1) ∧ (gb253 ≠ s_.1) ∧ (s_.1 ≠ gb253) ∧ (gb257 ≠ s_.1) ∧ (s_.1 ≠ gb257) ∧ (s_.2 ≠ s_.1) ∧ (s_.1 ≠ s_.2) ∧ (w.heap.size ≤ s_.2) ∧ (w.heap.size ≤ s_.2) ∧ (gb253 ≠ s_.2) ∧ (s_.2 ≠ gb253) ∧ (gb257 ≠ s_.2) ∧ (s_.2 ≠ gb257) ∧ (Below w.heap.size w w')) ?_ ?_
        rotate_left
        · intro hCont
          refine two_ (i := 9) (j := 10) (Ni := some 11) (Nj := some 12) bs11_ bs14_ rfl rfl rfl rfl (two_of HT_.out (by kernel_rfl)) (by decide) (by decide) (fun K hK => ?_) (fun K hK => ?_)
          · skip
            refine box_step ?hg (N := 11) ?hd (cs := #[.int .i64 0, .int .i64 0]) (t := 99) ?hr ?_; (case hd => rfl); (case hg => rfl); (case hr => exact z209_)
            intro gb260 hg w25 hbox hb
            have HS0_ := (hb.cell (World.block_lt_of_cell? _ _ (hHeld.1))).trans (hHeld.1)
            have HS1_ := (hb.cell (World.block_lt_of_cell? _ _ (hHeld.2.1))).trans (hHeld.2.1)
            have HS2_ := (hb.cell (World.block_lt_of_cell? _ _ (hHeld.2.2.1))).trans (hHeld.2.2.1)
            have HS3_ := (hb.cell (World.block_lt_of_cell? _ _ (hHeld.2.2.2))).trans (hHeld.2.2.2)
            replace HO_5 := Aside0.mk (Kd.R_below z170_ hb)
            replace HO_6 := Aside0.mk (Kd.R_below (Kd.R_elderB z171_ gb260 (Nat.le_of_eq hg.symm)) hb)
            have BK260 := Aside0.mk (hbox)
            have GW260 := Aside0.mk ((z39_ : w.heap.size ≤ gb260))
            have GE260 := Aside0.mk ((z39_ : w.heap.size ≤ gb260))
            replace HB := Aside0.mk (below_step z69_ hb)
            have NB253_260 := Aside0.mk ((z26_ : gb253 ≠ gb260))
            have NB260_253 := Aside0.mk ((z25_ : gb260 ≠ gb253))
            replace BK253 := Aside0.mk (blk_below (g := gb253) (o := .cells #[.string a1_0, .slice A1_1 l1_1.length c1_1, .int .i64 a1_2, .int .i64 a1_3, .int .i64 a1_4, .bool a1_5, .int .i64 a1_6, .bool a1_7, .bool a1_8] 25 (0, 0)) z143_ hb)
            have NB257_260 := Aside0.mk ((z38_ : gb257 ≠ gb260))
            have NB260_257 := Aside0.mk ((z37_ : gb260 ≠ gb257))
            replace BK257 := Aside0.mk (blk_below (g := gb257) (o := .stringIter a1_0 (itN_ a1_0 x258001_1 : Int).toNat) z144_ hb)
            clear hb hbox hg
            refine hK.out _ _ ⟨HS0_, HS1_, HS2_, HS3_⟩ (fun hHeld => ?_)
            clear hK K
            refine norm_ (a' := ?_) ?_ ?_
            rotate_left
            · show Act.put _ (some 11) _ = _
              simp only [Act.put, List.setIfInBounds_toArray, List.set_cons_zero, List.set_cons_succ, i64_w, i32_w]
              rfl
            refine one_ (i := 10) (N := some 12) bs0_ rfl rfl (one_of HT_.out (by kernel_rfl)) (by decide) (fun K hK => ?_)
            refine box_step ?hg (N := 12) ?hd (cs := #[.int .i64 0, .int .i64 0]) (t := 99) ?hr ?_; (case hd => rfl); (case hg => rfl); (case hr => exact z209_)
            intro gb261 hg w26 hbox hb
            have HS0_ := (hb.cell (World.block_lt_of_cell? _ _ (hHeld.1))).trans (hHeld.1)
            have HS1_ := (hb.cell (World.block_lt_of_cell? _ _ (hHeld.2.1))).trans (hHeld.2.1)
            have HS2_ := (hb.cell (World.block_lt_of_cell? _ _ (hHeld.2.2.1))).trans (hHeld.2.2.1)
            have HS3_ := (hb.cell (World.block_lt_of_cell? _ _ (hHeld.2.2.2))).trans (hHeld.2.2.2)
            replace HO_5 := Aside0.mk (Kd.R_below z170_ hb)
            replace HO_6 := Aside0.mk (Kd.R_below (Kd.R_elderB z171_ gb261 (Nat.le_of_eq hg.symm)) hb)
            have BK261 := Aside0.mk (hbox)
            have GW261 := Aside0.mk ((z30_ : w.heap.size ≤ gb261))
            have GE261 := Aside0.mk ((z30_ : w.heap.size ≤ gb261))
            replace HB := Aside0.mk (below_step z40_ hb)
            have NB253_261 := Aside0.mk ((z26_ : gb253 ≠ gb261))
            have NB261_253 := Aside0.mk ((z25_ : gb261 ≠ gb253))
            replace BK253 := Aside0.mk (blk_below (g := gb253) (o := .cells #[.string a1_0, .slice A1_1 l1_1.length c1_1, .int .i64 a1_2, .int .i64 a1_3, .int .i64 a1_4, .bool a1_5, .int .i64 a1_6, .bool a1_7, .bool a1_8] 25 (0, 0)) z143_ hb)
            have NB257_261 := Aside0.mk ((z38_ : gb257 ≠ gb261))
            have NB261_257 := Aside0.mk ((z37_ : gb261 ≠ gb257))
            replace BK257 := Aside0.mk (blk_below (g := gb257) (o := .stringIter a1_0 (itN_ a1_0 x258001_1 : Int).toNat) z144_ hb)
            have NB260_261 := Aside0.mk ((z44_ : gb260 ≠ gb261))
            have NB261_260 := Aside0.mk ((z42_ : gb261 ≠ gb260))
            replace BK260 := Aside0.mk (blk_below (g := gb260) (o := .cells #[.int .i64 0, .int .i64 0] 99 (0, 0)) z145_ hb)
            clear hb hbox hg
            refine hK.out _ _ ⟨HS0_, HS1_, HS2_, HS3_⟩ (fun hHeld => ?_)
            clear hK K
            refine norm_ (a' := ?_) ?_ ?_
            rotate_left
            · show Act.put _ (some 12) _ = _
              simp only [Act.put, List.setIfInBounds_toArray, List.set_cons_zero, List.set_cons_succ, i64_w, i32_w]
              rfl
            exact norm_ z177_ (hCont (gb260, gb261) _ ⟨hHeld, z170_, z108_, z143_, z144_, z145_, z146_, GW260.out, GE260.out, NB253_260.out, NB260_253.out, NB257_260.out, NB260_257.out, NB261_260.out, NB260_261.out, GW261.out, GE261.out, NB253_261.out, NB261_253.out, NB257_261.out, NB261_257.out, z32_⟩)
          · skip
            refine box_step ?hg (N := 12) ?hd (cs := #[.int .i64 0, .int .i64 0]) (t := 99) ?hr ?_; (case hd => rfl); (case hg => rfl); (case hr => exact z209_)
            intro gb261 hg w25 hbox hb
            have HS0_ := (hb.cell (World.block_lt_of_cell? _ _ (hHeld.1))).trans (hHeld.1)
            have HS1_ := (hb.cell (World.block_lt_of_cell? _ _ (hHeld.2.1))).trans (hHeld.2.1)
            have HS2_ := (hb.cell (World.block_lt_of_cell? _ _ (hHeld.2.2.1))).trans (hHeld.2.2.1)
            have HS3_ := (hb.cell (World.block_lt_of_cell? _ _ (hHeld.2.2.2))).trans (hHeld.2.2.2)
            replace HO_5 := Aside0.mk (Kd.R_below z170_ hb)
            replace HO_6 := Aside0.mk (Kd.R_below (Kd.R_elderB z171_ gb261 (Nat.le_of_eq hg.symm)) hb)
            have BK261 := Aside0.mk (hbox)
            have GW261 := Aside0.mk ((z39_ : w.heap.size ≤ gb261))
            have GE261 := Aside0.mk ((z39_ : w.heap.size ≤ gb261))
            replace HB := Aside0.mk (below_step z69_ hb)
            have NB253_261 := Aside0.mk ((z26_ : gb253 ≠ gb261))
            have NB261_253 := Aside0.mk ((z25_ : gb261 ≠ gb253))
            replace BK253 := Aside0.mk (blk_below (g := gb253) (o := .cells #[.string a1_0, .slice A1_1 l1_1.length c1_1, .int .i64 a1_2, .int .i64 a1_3, .int .i64 a1_4, .bool a1_5, .int .i64 a1_6, .bool a1_7, .bool a1_8] 25 (0, 0)) z143_ hb)
            have NB257_261 := Aside0.mk ((z38_ : gb257 ≠ gb261))
            have NB261_257 := Aside0.mk ((z37_ : gb261 ≠ gb257))
            replace BK257 := Aside0.mk (blk_below (g := gb257) (o := .stringIter a1_0 (itN_ a1_0 x258001_1 : Int).toNat) z144_ hb)
            clear hb hbox hg
            refine hK.out _ _ ⟨HS0_, HS1_, HS2_, HS3_⟩ (fun hHeld => ?_)
            clear hK K
            refine norm_ (a' := ?_) ?_ ?_
            rotate_left
            · show Act.put _ (some 12) _ = _
              simp only [Act.put, List.setIfInBounds_toArray, List.set_cons_zero, List.set_cons_succ, i64_w, i32_w]
              rfl
            refine one_ (i := 9) (N := some 11) bs0_ rfl rfl (one_of HT_.out (by kernel_rfl)) (by decide) (fun K hK => ?_)
            refine box_step ?hg (N := 11) ?hd (cs := #[.int .i64 0, .int .i64 0]) (t := 99) ?hr ?_; (case hd => rfl); (case hg => rfl); (case hr => exact z209_)
            intro gb260 hg w26 hbox hb
            have HS0_ := (hb.cell (World.block_lt_of_cell? _ _ (hHeld.1))).trans (hHeld.1)
            have HS1_ := (hb.cell (World.block_lt_of_cell? _ _ (hHeld.2.1))).trans (hHeld.2.1)
            have HS2_ := (hb.cell (World.block_lt_of_cell? _ _ (hHeld.2.2.1))).trans (hHeld.2.2.1)
            have HS3_ := (hb.cell (World.block_lt_of_cell? _ _ (hHeld.2.2.2))).trans (hHeld.2.2.2)
            replace HO_5 := Aside0.mk (Kd.R_below z170_ hb)
            replace HO_6 := Aside0.mk (Kd.R_below (Kd.R_elderB z171_ gb260 (Nat.le_of_eq hg.symm)) hb)
            have BK260 := Aside0.mk (hbox)
            have GW260 := Aside0.mk ((z31_ : w.heap.size ≤ gb260))
            have GE260 := Aside0.mk ((z31_ : w.heap.size ≤ gb260))
            replace HB := Aside0.mk (below_step z41_ hb)
            have NB253_260 := Aside0.mk ((z26_ : gb253 ≠ gb260))
            have NB260_253 := Aside0.mk ((z25_ : gb260 ≠ gb253))
            replace BK253 := Aside0.mk (blk_below (g := gb253) (o := .cells #[.string a1_0, .slice A1_1 l1_1.length c1_1, .int .i64 a1_2, .int .i64 a1_3, .int .i64 a1_4, .bool a1_5, .int .i64 a1_6, .bool a1_7, .bool a1_8] 25 (0, 0)) z143_ hb)
            have NB257_260 := Aside0.mk ((z38_ : gb257 ≠ gb260))
            have NB260_257 := Aside0.mk ((z37_ : gb260 ≠ gb257))
            replace BK257 := Aside0.mk (blk_below (g := gb257) (o := .stringIter a1_0 (itN_ a1_0 x258001_1 : Int).toNat) z144_ hb)
            have NB261_260 := Aside0.mk ((z45_ : gb261 ≠ gb260))
            have NB260_261 := Aside0.mk ((z43_ : gb260 ≠ gb261))
            replace BK261 := Aside0.mk (blk_below (g := gb261) (o := .cells #[.int .i64 0, .int .i64 0] 99 (0, 0)) z146_ hb)
            clear hb hbox hg
            refine hK.out _ _ ⟨HS0_, HS1_, HS2_, HS3_⟩ (fun hHeld => ?_)
            clear hK K
            refine norm_ (a' := ?_) ?_ ?_
            rotate_left
            · show Act.put _ (some 11) _ = _
              simp only [Act.put, List.setIfInBounds_toArray, List.set_cons_zero, List.set_cons_succ, i64_w, i32_w]
              rfl
            exact norm_ z177_ (hCont (gb260, gb261) _ ⟨hHeld, z170_, z109_, z143_, z144_, z145_, z146_, GW260.out, GE260.out, NB253_260.out, NB260_253.out, NB257_260.out, NB260_257.out, NB261_260.out, NB260_261.out, GW261.out, GE261.out, NB253_261.out, NB261_253.out, NB257_261.out, NB261_257.out, z33_⟩)
        rintro ⟨gb260, gb261⟩ w27 ⟨hS_, h0_, h1_, h2_, h3_, h4_, h5_, h6_, h7_, h8_, h9_, h10_, h11_, h12_, h13_, h14_, h15_, h16_, h17_, h18_, h19_, h20_⟩
        have n0_ : Aside0 (Kd.R k38 38 w27 w.heap.size (fun _ => True) u5 x5_1) := ⟨h0_⟩
        have n1_ : Aside0 (Kd.R k99 99 w27 w.heap.size (fun k_ => k_ ≠ gb260 ∧ k_ ≠ gb261) (.slice (some ad258) t254.length co24) t254) := ⟨h1_⟩
        have n2_ : Aside0 (w27.heap[gb253]? = some (.cells #[.string a1_0, .slice A1_1 l1_1.length c1_1, .int .i64 a1_2, .int .i64 a1_3, .int .i64 a1_4, .bool a1_5, .int .i64 a1_6, .bool a1_7, .bool a1_8] 25 (0, 0))) := ⟨h2_⟩
        have n3_ : Aside0 (w27.heap[gb257]? = some (.stringIter a1_0 (itN_ a1_0 x258001_1 : Int).toNat)) := ⟨h3_⟩
        have n4_ : Aside0 (w27.heap[gb260]? = some (.cells #[.int .i64 0, .int .i64 0] 99 (0, 0))) := ⟨h4_⟩
        have n5_ : Aside0 (w27.heap[gb261]? = some (.cells #[.int .i64 0, .int .i64 0] 99 (0, 0))) := ⟨h5_⟩
        have n6_ : Aside0 (w.heap.size ≤ gb260) := ⟨h6_⟩
        have n7_ : Aside0 (w.heap.size ≤ gb260) := ⟨h7_⟩
        have n8_ : Aside0 (gb253 ≠ gb260) := ⟨h8_⟩
        have n9_ : Aside0 (gb260 ≠ gb253) := ⟨h9_⟩
        have n10_ : Aside0 (gb257 ≠ gb260) := ⟨h10_⟩
        have n11_ : Aside0 (gb260 ≠ gb257) := ⟨h11_⟩
        have n12_ : Aside0 (gb261 ≠ gb260) := ⟨h12_⟩
        have n13_ : Aside0 (gb260 ≠ gb261) := ⟨h13_⟩
        have n14_ : Aside0 (w.heap.size ≤ gb261) := ⟨h14_⟩
        have n15_ : Aside0 (w.heap.size ≤ gb261) := ⟨h15_⟩
        have n16_ : Aside0 (gb253 ≠ gb261) := ⟨h16_⟩
        have n17_ : Aside0 (gb261 ≠ gb253) := ⟨h17_⟩
        have n18_ : Aside0 (gb257 ≠ gb261) := ⟨h18_⟩
        have n19_ : Aside0 (gb261 ≠ gb257) := ⟨h19_⟩
        have n20_ : Aside0 (Below w.heap.size w w27) := ⟨h20_⟩
        clear HO_5
        clear HO_6
        clear BK253
        clear BK257
        clear HB
        clear h0_ h1_ h2_ h3_ h4_ h5_ h6_ h7_ h8_ h9_ h10_ h11_ h12_ h13_ h14_ h15_ h16_ h17_ h18_ h19_ h20_
        have HO_5 := n0_
        have HO_6 := n1_
        have BK253 := n2_
        have BK257 := n3_
        have BK260 := n4_
        have BK261 := n5_
        have GW260 := n6_
        have GE260 := n7_
        have NB253_260 := n8_
        have NB260_253 := n9_
        have NB257_260 := n10_
        have NB260_257 := n11_
        have NB261_260 := n12_
        have NB260_261 := n13_
        have GW261 := n14_
        have GE261 := n15_
        have NB253_261 := n16_
        have NB261_253 := n17_
        have NB257_261 := n18_
        have NB261_257 := n19_
        have HB := n20_
        clear n0_ n1_ n2_ n3_ n4_ n5_ n6_ n7_ n8_ n9_ n10_ n11_ n12_ n13_ n14_ n15_ n16_ n17_ n18_ n19_ n20_
        have hHeld : w27.cell? (ad258.add ((x8_1).toNat * 2)) = some (.int .i64 ((rd_T99 t254 x8_1).f0)) ∧ w27.cell? ⟨(ad258.add ((x8_1).toNat * 2)).block, (ad258.add ((x8_1).toNat * 2)).off + 1, none⟩ = some (.int .i64 ((rd_T99 t254 x8_1).f1)) ∧ w27.cell? (ad258.add (((ji12)).toNat * 2)) = some (.int .i64 ((rd_T99 t254 (ji12)).f0)) ∧ w27.cell? ⟨(ad258.add (((ji12)).toNat * 2)).block, (ad258.add (((ji12)).toNat * 2)).off + 1, none⟩ = some (.int .i64 ((rd_T99 t254 (ji12)).f1)) := hS_
        refine norm_ (a' := ?_) ?_ ?_
        rotate_left
        · simp only [putAll, Act.put, List.setIfInBounds_toArray, List.set_cons_zero, List.set_cons_succ]
          rfl
        refine one_ (i := 11) (N := none) bs12_ rfl rfl (one_of HT_.out (by kernel_rfl)) (by decide) (fun K hK => ?_)
        have hs28 : w27.cell? ⟨gb260, 0, none⟩ = some (.int .i64 0) := (blk_cell BK260.out 0).trans z198_
        have hfs28 := blk_frozen BK260.out 0
        have hns28_0 := NB253_260.out
        have hns28_1 := NB257_260.out
        have hns28_3 := NB261_260.out
        have hms28_0 := NB260_253.out
        have hms28_1 := NB260_257.out
        have hms28_3 := NB260_261.out
        have hs29 : w27.cell? ⟨gb260, 1, none⟩ = some (.int .i64 0) := (blk_cell BK260.out 1).trans z198_
        have hfs29 := blk_frozen BK260.out 1
        have hns29_0 := NB253_260.out
        have hns29_1 := NB257_260.out
        have hns29_3 := NB261_260.out
        have hms29_0 := NB260_253.out
        have hms29_1 := NB260_257.out
        have hms29_3 := NB260_261.out
        refine skip_ (w1 := ?_) (by rfl) rfl ?_ ?_
        rotate_left
        · go_simp
          rfl
        refine hK.out _ _ ⟨((cell_far (p := ⟨gb260, _, none⟩) z27_ _).trans (((cell_far (p := ⟨gb260, _, none⟩) z27_ _).trans (hHeld.1)))), ((cell_far (p := ⟨gb260, _, none⟩) z27_ _).trans (((cell_far (p := ⟨gb260, _, none⟩) z27_ _).trans (hHeld.2.1)))), ((cell_far (p := ⟨gb260, _, none⟩) z27_ _).trans (((cell_far (p := ⟨gb260, _, none⟩) z27_ _).trans (hHeld.2.2.1)))), ((cell_far (p := ⟨gb260, _, none⟩) z27_ _).trans (((cell_far (p := ⟨gb260, _, none⟩) z27_ _).trans (hHeld.2.2.2))))⟩ (fun hHeld => ?_)
        clear hK K
        refine one_ (i := 12) (N := none) bs13_ rfl rfl (one_of HT_.out (by kernel_rfl)) (by decide) (fun K hK => ?_)
        have hs30 : w27.cell? ⟨gb261, 0, none⟩ = some (.int .i64 0) := (blk_cell BK261.out 0).trans z198_
        have hfs30 := blk_frozen BK261.out 0
        have hns30_0 := NB253_261.out
        have hns30_1 := NB257_261.out
        have hns30_2 := NB260_261.out
        have hms30_0 := NB261_253.out
        have hms30_1 := NB261_257.out
        have hms30_2 := NB261_260.out
        have hs31 : w27.cell? ⟨gb261, 1, none⟩ = some (.int .i64 0) := (blk_cell BK261.out 1).trans z198_
        have hfs31 := blk_frozen BK261.out 1
        have hns31_0 := NB253_261.out
        have hns31_1 := NB257_261.out
        have hns31_2 := NB260_261.out
        have hms31_0 := NB261_253.out
        have hms31_1 := NB261_257.out
        have hms31_2 := NB261_260.out
        refine skip_ (w1 := ?_) (by rfl) rfl ?_ ?_
        rotate_left
        · go_simp
          rfl
        refine hK.out _ _ ⟨((cell_far (p := ⟨gb261, _, none⟩) z28_ _).trans (((cell_far (p := ⟨gb261, _, none⟩) z28_ _).trans (hHeld.1)))), ((cell_far (p := ⟨gb261, _, none⟩) z28_ _).trans (((cell_far (p := ⟨gb261, _, none⟩) z28_ _).trans (hHeld.2.1)))), ((cell_far (p := ⟨gb261, _, none⟩) z28_ _).trans (((cell_far (p := ⟨gb261, _, none⟩) z28_ _).trans (hHeld.2.2.1)))), ((cell_far (p := ⟨gb261, _, none⟩) z28_ _).trans (((cell_far (p := ⟨gb261, _, none⟩) z28_ _).trans (hHeld.2.2.2))))⟩ (fun hHeld => ?_)
        clear hK K
        refine done_ (done_of HT_.out (by kernel_rfl)) ?_
        go_upto_region 15 with (first | ((with_reducible refine gate_callee (f := 42) rfl ?_); refine goesL_ (some 39) rfl rfl Try.func42 (by kernel_rfl) rfl #[.int .i32 (itR_ a1_0 x258001_1)] rfl z113_ ?_; (with_reducible refine (paint_drawn.calls k1 (itR_ a1_0 x258001_1) true _ A15.out).mono ?_); rintro e w' ⟨rfl, ⟨nd, rfl⟩⟩; refine ⟨_, rfl, ?_⟩; have hnb32 := NB253_257.out; have hnc32 := NB257_253.out; have hnb33 := NB253_260.out; have hnc33 := NB260_253.out; have hnb34 := NB253_261.out; have hnc34 := NB261_253.out; have hcz35_0 : w27.cell? ⟨gb253, 0, none⟩ = some (.string a1_0) := (blk_cell BK253.out 0).trans rfl; have hcz35_1 : w27.cell? ⟨gb253, 1, none⟩ = some (.slice A1_1 l1_1.length c1_1) := (blk_cell BK253.out 1).trans rfl; have hcz35_2 : w27.cell? ⟨gb253, 2, none⟩ = some (.int .i64 a1_2) := (blk_cell BK253.out 2).trans rfl; have hcz35_3 : w27.cell? ⟨gb253, 3, none⟩ = some (.int .i64 a1_3) := (blk_cell BK253.out 3).trans rfl; have hcz35_4 : w27.cell? ⟨gb253, 4, none⟩ = some (.int .i64 a1_4) := (blk_cell BK253.out 4).trans rfl; have hcz35_5 : w27.cell? ⟨gb253, 5, none⟩ = some (.bool a1_5) := (blk_cell BK253.out 5).trans rfl; have hcz35_6 : w27.cell? ⟨gb253, 6, none⟩ = some (.int .i64 a1_6) := (blk_cell BK253.out 6).trans rfl; have hcz35_7 : w27.cell? ⟨gb253, 7, none⟩ = some (.bool a1_7) := (blk_cell BK253.out 7).trans rfl; have hcz35_8 : w27.cell? ⟨gb253, 8, none⟩ = some (.bool a1_8) := (blk_cell BK253.out 8).trans rfl; have hfz35_0 := blk_frozen BK253.out 0; have hfz35_1 := blk_frozen BK253.out 1; have hfz35_2 := blk_frozen BK253.out 2; have hfz35_3 := blk_frozen BK253.out 3; have hfz35_4 := blk_frozen BK253.out 4; have hfz35_5 := blk_frozen BK253.out 5; have hfz35_6 := blk_frozen BK253.out 6; have hfz35_7 := blk_frozen BK253.out 7; have hfz35_8 := blk_frozen BK253.out 8) | ((with_reducible refine gate_callee (f := 44) rfl ?_); refine goesL_ (some 62) rfl rfl Try.func44 (by kernel_rfl) rfl #[.slice A1_1 l1_1.length c1_1, .int .i64 (itP_ x258001_1)] rfl z113_ ?_; (with_reducible refine (paint_styleAt.calls k1 _ _ l1_1 (itP_ x258001_1) t265 _ ?side1 ?side2 A17.out).mono ?_); (case side1 => exact Kd.C_below HR1_1.out z32_); (case side2 => exact HC1_1.out); rintro e w36 ⟨rfl, hb⟩; refine ⟨_, rfl, ?_⟩; replace HO_5 := Aside0.mk (Kd.R_below (by (with_reducible repeat (first | apply Kd.R_alloc | apply Kd.R_drewN | apply Kd.R_drew)); exact (Kd.R_mono (Kd.R_mono (Kd.R_far (p := ⟨gb261, 1, none⟩) (Kd.R_far (p := ⟨gb261, 0, none⟩) (Kd.R_far (p := ⟨gb260, 1, none⟩) (Kd.R_far (p := ⟨gb260, 0, none⟩) (Kd.R_types (Kd.R_types HO_5.out BK260.out (by decide)) BK261.out (by decide)) (fun _ hk => hk.1.2) (.int .i64 ((rd_T99 t254 x8_1).f0))) (fun _ hk => hk.1.2) (.int .i64 ((rd_T99 t254 x8_1).f1))) (fun _ hk => hk.2) (.int .i64 ((rd_T99 t254 (ji12)).f0))) (fun _ hk => hk.2) (.int .i64 ((rd_T99 t254 (ji12)).f1))) (fun _ h_ => h_.1)) (fun _ h_ => h_.1))) hb); replace HO_6 := Aside0.mk (Kd.R_below (by (with_reducible repeat (first | apply Kd.R_alloc | apply Kd.R_drewN | apply Kd.R_drew)); exact (Kd.R_mono (Kd.R_mono (Kd.R_far (p := ⟨gb261, 1, none⟩) (Kd.R_far (p := ⟨gb261, 0, none⟩) (Kd.R_far (p := ⟨gb260, 1, none⟩) (Kd.R_far (p := ⟨gb260, 0, none⟩) (Kd.R_mono (Kd.R_mono HO_6.out (fun k_ hk => (⟨hk, hk.1⟩ : _ ∧ k_ ≠ gb260))) (fun k_ hk => (⟨hk, hk.1.2⟩ : _ ∧ k_ ≠ gb261))) (fun _ hk => hk.1.2) (.int .i64 ((rd_T99 t254 x8_1).f0))) (fun _ hk => hk.1.2) (.int .i64 ((rd_T99 t254 x8_1).f1))) (fun _ hk => hk.2) (.int .i64 ((rd_T99 t254 (ji12)).f0))) (fun _ hk => hk.2) (.int .i64 ((rd_T99 t254 (ji12)).f1))) (fun _ h_ => h_.1)) (fun _ h_ => h_.1))) hb); replace BK253 := Aside0.mk (blk_below (g := gb253) (o := .cells #[.string a1_0, .slice A1_1 l1_1.length c1_1, .int .i64 a1_2, .int .i64 a1_3, .int .i64 a1_4, .bool a1_5, .int .i64 a1_6, .bool a1_7, .bool a1_8] 25 (0, 0)) z7_ hb); replace BK257 := Aside0.mk (blk_below (g := gb257) (o := .stringIter a1_0 (itN_ a1_0 x258001_1 : Int).toNat) z8_ hb); replace BK260 := Aside0.mk (blk_below (g := gb260) (o := .cells #[.int .i64 ((rd_T99 t254 x8_1).f0), .int .i64 ((rd_T99 t254 x8_1).f1)] 99 (0, 0)) (by (with_reducible repeat (first | refine blk_drewN ?_ _ | refine blk_drew ?_ | refine blk_alloc ?_ _)); refine blk_farO ?_ NB260_261.out _; (with_reducible repeat (first | refine blk_drewN ?_ _ | refine blk_drew ?_ | refine blk_alloc ?_ _)); refine blk_farO ?_ NB260_261.out _; (with_reducible repeat (first | refine blk_drewN ?_ _ | refine blk_drew ?_ | refine blk_alloc ?_ _)); refine blk_put (cs := #[.int .i64 ((rd_T99 t254 x8_1).f0), .int .i64 0]) ?_ 1 _ rfl; (with_reducible repeat (first | refine blk_drewN ?_ _ | refine blk_drew ?_ | refine blk_alloc ?_ _)); refine blk_put (cs := #[.int .i64 0, .int .i64 0]) ?_ 0 _ rfl; (with_reducible repeat (first | refine blk_drewN ?_ _ | refine blk_drew ?_ | refine blk_alloc ?_ _)); exact BK260.out) hb); replace BK261 := Aside0.mk (blk_below (g := gb261) (o := .cells #[.int .i64 ((rd_T99 t254 (ji12)).f0), .int .i64 ((rd_T99 t254 (ji12)).f1)] 99 (0, 0)) (by (with_reducible repeat (first | refine blk_drewN ?_ _ | refine blk_drew ?_ | refine blk_alloc ?_ _)); refine blk_put (cs := #[.int .i64 ((rd_T99 t254 (ji12)).f0), .int .i64 0]) ?_ 1 _ rfl; (with_reducible repeat (first | refine blk_drewN ?_ _ | refine blk_drew ?_ | refine blk_alloc ?_ _)); refine blk_put (cs := #[.int .i64 0, .int .i64 0]) ?_ 0 _ rfl; (with_reducible repeat (first | refine blk_drewN ?_ _ | refine blk_drew ?_ | refine blk_alloc ?_ _)); refine blk_farO ?_ NB261_260.out _; (with_reducible repeat (first | refine blk_drewN ?_ _ | refine blk_drew ?_ | refine blk_alloc ?_ _)); refine blk_farO ?_ NB261_260.out _; (with_reducible repeat (first | refine blk_drewN ?_ _ | refine blk_drew ?_ | refine blk_alloc ?_ _)); exact BK261.out) hb); replace HB := Aside0.mk (below_step z32_ hb); (try clear hb); (try clear hb2); (try clear hk); (try clear hi); have hcz37_0 : w36.cell? ⟨gb253, 0, none⟩ = some (.string a1_0) := (blk_cell BK253.out 0).trans rfl; have hcz37_1 : w36.cell? ⟨gb253, 1, none⟩ = some (.slice A1_1 l1_1.length c1_1) := (blk_cell BK253.out 1).trans rfl; have hcz37_2 : w36.cell? ⟨gb253, 2, none⟩ = some (.int .i64 a1_2) := (blk_cell BK253.out 2).trans rfl; have hcz37_3 : w36.cell? ⟨gb253, 3, none⟩ = some (.int .i64 a1_3) := (blk_cell BK253.out 3).trans rfl; have hcz37_4 : w36.cell? ⟨gb253, 4, none⟩ = some (.int .i64 a1_4) := (blk_cell BK253.out 4).trans rfl; have hcz37_5 : w36.cell? ⟨gb253, 5, none⟩ = some (.bool a1_5) := (blk_cell BK253.out 5).trans rfl; have hcz37_6 : w36.cell? ⟨gb253, 6, none⟩ = some (.int .i64 a1_6) := (blk_cell BK253.out 6).trans rfl; have hcz37_7 : w36.cell? ⟨gb253, 7, none⟩ = some (.bool a1_7) := (blk_cell BK253.out 7).trans rfl; have hcz37_8 : w36.cell? ⟨gb253, 8, none⟩ = some (.bool a1_8) := (blk_cell BK253.out 8).trans rfl; have hfz37_0 := blk_frozen BK253.out 0; have hfz37_1 := blk_frozen BK253.out 1; have hfz37_2 := blk_frozen BK253.out 2; have hfz37_3 := blk_frozen BK253.out 3; have hfz37_4 := blk_frozen BK253.out 4; have hfz37_5 := blk_frozen BK253.out 5; have hfz37_6 := blk_frozen BK253.out 6; have hfz37_7 := blk_frozen BK253.out 7; have hfz37_8 := blk_frozen BK253.out 8; have hnb38 := NB260_257.out; have hnc38 := NB257_260.out; have hnb39 := NB260_261.out; have hnc39 := NB261_260.out; have hcz40_0 : w36.cell? ⟨gb260, 0, none⟩ = some (.int .i64 ((rd_T99 t254 x8_1).f0)) := (blk_cell BK260.out 0).trans rfl; have hcz40_1 : w36.cell? ⟨gb260, 1, none⟩ = some (.int .i64 ((rd_T99 t254 x8_1).f1)) := (blk_cell BK260.out 1).trans rfl; have hfz40_0 := blk_frozen BK260.out 0; have hfz40_1 := blk_frozen BK260.out 1; have hnb41 := NB261_257.out; have hnc41 := NB257_261.out; have hcz42_0 : w36.cell? ⟨gb261, 0, none⟩ = some (.int .i64 ((rd_T99 t254 (ji12)).f0)) := (blk_cell BK261.out 0).trans rfl; have hcz42_1 : w36.cell? ⟨gb261, 1, none⟩ = some (.int .i64 ((rd_T99 t254 (ji12)).f1)) := (blk_cell BK261.out 1).trans rfl; have hfz42_0 := blk_frozen BK261.out 0; have hfz42_1 := blk_frozen BK261.out 1; obtain ⟨Ao43, co43, eo43⟩ := Kd.R_slice HO_5.out; subst eo43))
        (try simp only [Act.put, List.setIfInBounds_toArray, List.set_cons_zero, List.set_cons_succ])
        go_cut [82] (fun v82 wc => ∃ (kq : Nat) (x82_20 : Bool), v82 = .bool x82_20 ∧ Aside0 (paint_Line.j1 kq l0 x5_1 t254 x7_1 ji12 t265 (a1_0.extract (((rd_T99 t254 x8_1).f0) : Int).toNat (((rd_T99 t254 (ji12)).f0) : Int).toNat) (wrap64 ((x5_1.length : Int) - 1)) x82_20 a1_0 l1_1 a1_2 a1_3 a1_4 a1_5 a1_6 a1_7 a1_8 a1_0 (itN_ a1_0 x258001_1) ((rd_T99 t254 x8_1).f0) ((rd_T99 t254 x8_1).f1) ((rd_T99 t254 (ji12)).f0) ((rd_T99 t254 (ji12)).f1) = some r) ∧ Aside0 (kq ≤ k1) ∧ Aside0 (Kd.R k38 38 wc w.heap.size (fun _ => True) (.slice Ao43 x5_1.length co43) x5_1) ∧ Aside0 (Kd.R k99 99 wc w.heap.size (fun k_ => k_ ≠ gb260 ∧ k_ ≠ gb261) (.slice (some ad258) t254.length co24) t254) ∧ Aside0 (wc.heap[gb253]? = some (.cells #[.string a1_0, (.slice A1_1 l1_1.length c1_1), .int .i64 a1_2, .int .i64 a1_3, .int .i64 a1_4, .bool a1_5, .int .i64 a1_6, .bool a1_7, .bool a1_8] 25 (0, 0))) ∧ Aside0 (wc.heap[gb257]? = some (.stringIter a1_0 ((itN_ a1_0 x258001_1) : Int).toNat)) ∧ Aside0 (wc.heap[gb260]? = some (.cells #[.int .i64 ((rd_T99 t254 x8_1).f0), .int .i64 ((rd_T99 t254 x8_1).f1)] 99 (0, 0))) ∧ Aside0 (wc.heap[gb261]? = some (.cells #[.int .i64 ((rd_T99 t254 (ji12)).f0), .int .i64 ((rd_T99 t254 (ji12)).f1)] 99 (0, 0))) ∧ Aside0 (Below w.heap.size w wc))
        case first =>
          have H := HC21.out
          clear HC21
          by_cases c44 : x7_1 = true
          rotate_left
          · replace c44 := Bool.eq_false_iff.mpr c44
            subst c44
            have H1 : (paint_Line.j1 k1 l0 x5_1 t254 false ji12 t265 (a1_0.extract (((rd_T99 t254 x8_1).f0) : Int).toNat (((rd_T99 t254 (ji12)).f0) : Int).toNat) (wrap64 ((x5_1.length : Int) - 1)) false a1_0 l1_1 a1_2 a1_3 a1_4 a1_5 a1_6 a1_7 a1_8 a1_0 (itN_ a1_0 x258001_1) ((rd_T99 t254 x8_1).f0) ((rd_T99 t254 x8_1).f1) ((rd_T99 t254 (ji12)).f0) ((rd_T99 t254 (ji12)).f1)) = some r := by rw [if_neg (show ¬ (false = true) by decide)] at H; exact H
            clear H
            have H := H1
            clear H1
            have H' := Aside0.mk H
            clear H
            go_wp2
            first | go_meet | (rw [← hji12]; go_meet)
            case rel => exact ⟨_, (false), z208_, z191_, ⟨z200_⟩, ⟨z170_⟩, ⟨z171_⟩, ⟨z143_⟩, ⟨z144_⟩, ⟨z145_⟩, ⟨z146_⟩, ⟨z32_⟩⟩
          subst c44
          have H1 : (if 0 ≤ (wrap64 ((x5_1.length : Int) - 1)) then (if (wrap64 ((x5_1.length : Int) - 1)) < (x5_1.length : Int) then (paint_Line.j1 k1 l0 x5_1 t254 true ji12 t265 (a1_0.extract (((rd_T99 t254 x8_1).f0) : Int).toNat (((rd_T99 t254 (ji12)).f0) : Int).toNat) (wrap64 ((x5_1.length : Int) - 1)) (((rd_T38 x5_1 (wrap64 ((x5_1.length : Int) - 1))).f4) == t265) a1_0 l1_1 a1_2 a1_3 a1_4 a1_5 a1_6 a1_7 a1_8 a1_0 (itN_ a1_0 x258001_1) ((rd_T99 t254 x8_1).f0) ((rd_T99 t254 x8_1).f1) ((rd_T99 t254 (ji12)).f0) ((rd_T99 t254 (ji12)).f1)) else (none)) else (none)) = some r := by rw [if_pos rfl] at H; exact H
          clear H
          have H := H1
          clear H1
          obtain ⟨ji45, hji45⟩ : ∃ j_ : Int, (wrap64 ((x5_1.length : Int) - 1)) = j_ := ⟨_, rfl⟩
          replace H : (if 0 ≤ (ji45) then (if (ji45) < (x5_1.length : Int) then (paint_Line.j1 k1 l0 x5_1 t254 true ji12 t265 (a1_0.extract (((rd_T99 t254 x8_1).f0) : Int).toNat (((rd_T99 t254 (ji12)).f0) : Int).toNat) ji45 (((rd_T38 x5_1 (ji45)).f4) == t265) a1_0 l1_1 a1_2 a1_3 a1_4 a1_5 a1_6 a1_7 a1_8 a1_0 (itN_ a1_0 x258001_1) ((rd_T99 t254 x8_1).f0) ((rd_T99 t254 x8_1).f1) ((rd_T99 t254 (ji12)).f0) ((rd_T99 t254 (ji12)).f1)) else (none)) else (none)) = some r := by first | (rw [hji45] at H; exact H) | (simp only [hji45] at H ⊢; exact H)
          have hji45w : (IntKind.i64.wrap ((x5_1.length : Int) - 1)) = ji45 := (i64_w _).trans hji45
          by_cases c46 : 0 ≤ (ji45)
          rotate_left
          · rw [if_neg c46] at H
            exact absurd H (by simp)
          rw [if_pos c46] at H
          have c46b0 : decide (0 ≤ (ji45)) = true := decide_eq_true c46
          clear c46
          (first | rw [c46b0] | (simp only [i64_w, i32_w]; rw [c46b0]) | skip)
          by_cases c47 : (ji45) < (x5_1.length : Int)
          rotate_left
          · rw [if_neg c47] at H
            exact absurd H (by simp)
          rw [if_pos c47] at H
          have c47b0 : decide ((ji45) < (x5_1.length : Int)) = true := decide_eq_true c47
          clear c47
          have H' := Aside0.mk H
          clear H
          have p266 : 0 ≤ ((ji45) : Int) := of_decide_eq_true z204_
          have q266 : (ji45) < (x5_1.length : Int) := of_decide_eq_true z204_
          obtain ⟨ad266, e266, hx266_0, hx266_1, hx266_2, hx266_3, hx266_4⟩ := at_T38 (Kd.R_reads' HO_5.out).2.2 (ji45) p266 q266
          cases e266
          replace p266 := eq_true p266
          replace q266 := eq_true q266
          go_wp2
          first | go_meet | (rw [← hji45]; go_meet) | (rw [← hji12]; go_meet)
          case rel => exact ⟨_, ((((rd_T38 x5_1 (ji45)).f4) == t265)), z181_, (by first | exact H' | (simp only [hji12, hji45]; exact H') | (rw [hji12, hji45]; exact H')), ⟨z200_⟩, ⟨z170_⟩, ⟨z171_⟩, ⟨z143_⟩, ⟨z144_⟩, ⟨z145_⟩, ⟨z146_⟩, ⟨z32_⟩⟩
        case rest =>
          clear HC21
          try clear c1
          try clear c2
          try clear p2
          try clear q2
          try clear hx2
          try clear c3
          try clear c4
          try clear p6
          try clear c9
          try clear c9b0
          try clear c10
          try clear c10b0
          try clear c11
          try clear c11b0
          try clear c13
          try clear c13b0
          try clear c14
          try clear c14b0
          try clear c15
          try clear c16
          try clear c18
          try clear c18b0
          try clear c18b1
          try clear c19
          try clear c19b0
          try clear c19b1
          try clear c20
          try clear c20b0
          try clear c20b1
          try clear p25
          try clear q25
          try clear hx25
          try clear p26
          try clear q26
          try clear hx26
          try clear c32
          try clear c33
          try clear c34
          try clear c38
          try clear c39
          try clear c41
          try clear c42
          try clear c44
          try clear c46
          try clear c46b0
          try clear c47
          try clear c47b0
          try clear hcz35_0
          try clear hcz35_1
          try clear hcz35_2
          try clear hcz35_3
          try clear hcz35_4
          try clear hcz35_5
          try clear hcz35_6
          try clear hcz35_7
          try clear hcz35_8
          try clear hcz37_0
          try clear hcz37_1
          try clear hcz37_2
          try clear hcz37_3
          try clear hcz37_4
          try clear hcz37_5
          try clear hcz37_6
          try clear hcz37_7
          try clear hcz37_8
          try clear hcz40_0
          try clear hcz40_1
          try clear hcz42_0
          try clear hcz42_1
          try clear hcz5_0
          try clear hcz5_1
          try clear hcz5_2
          try clear hcz5_3
          try clear hcz5_4
          try clear hcz5_5
          try clear hcz5_6
          try clear hcz5_7
          try clear hcz5_8
          try clear hcz7_0
          try clear hcz7_1
          try clear hcz7_2
          try clear hcz7_3
          try clear hcz7_4
          try clear hcz7_5
          try clear hcz7_6
          try clear hcz7_7
          try clear hcz7_8
          try clear hfz35_0
          try clear hfz35_1
          try clear hfz35_2
          try clear hfz35_3
          try clear hfz35_4
          try clear hfz35_5
          try clear hfz35_6
          try clear hfz35_7
          try clear hfz35_8
          try clear hfz37_0
          try clear hfz37_1
          try clear hfz37_2
          try clear hfz37_3
          try clear hfz37_4
          try clear hfz37_5
          try clear hfz37_6
          try clear hfz37_7
          try clear hfz37_8
          try clear hfz40_0
          try clear hfz40_1
          try clear hfz42_0
          try clear hfz42_1
          try clear hfz5_0
          try clear hfz5_1
          try clear hfz5_2
          try clear hfz5_3
          try clear hfz5_4
          try clear hfz5_5
          try clear hfz5_6
          try clear hfz5_7
          try clear hfz5_8
          try clear hfz7_0
          try clear hfz7_1
          try clear hfz7_2
          try clear hfz7_3
          try clear hfz7_4
          try clear hfz7_5
          try clear hfz7_6
          try clear hfz7_7
          try clear hfz7_8
          try clear hx258_0
          try clear hx258_1
          try clear hx259_0
          try clear hx259_1
          try clear hx266_0
          try clear hx266_1
          try clear hx266_2
          try clear hx266_3
          try clear hx266_4
          try clear p2
          try clear p258
          try clear p259
          try clear p266
          try clear q258
          try clear q259
          try clear q266
          obtain ⟨kq, x82_20, rfl, HA, HJ20, HO_5, HO_6, BK253, BK257, BK260, BK261, HB⟩ := hcut
          cases kq with
          | zero => exact absurd HA.out (by simp [paint_Line.j1])
          | succ kj20 =>
            have H := HA.out
            clear HA
            simp only [paint_Line.j1] at H
            by_cases c48 : x82_20 = true
            rotate_left
            · replace c48 := Bool.eq_false_iff.mpr c48
              subst c48
              have H1 : ((scaled_Sub.f ((rd_T99 t254 (ji12)).f1) ((rd_T99 t254 x8_1).f1)).bind fun t272 => (if x5_1.length < 2932031007402 then (paint_Line.l0 kj20 l0 (x5_1 ++ [(⟨((rd_T99 t254 x8_1).f1), a1_6, t272, (a1_0.extract (((rd_T99 t254 x8_1).f0) : Int).toNat (((rd_T99 t254 (ji12)).f0) : Int).toNat), t265⟩ : S38)]) t254 true ji12 a1_0 l1_1 a1_2 a1_3 a1_4 a1_5 a1_6 a1_7 a1_8 a1_0 (itN_ a1_0 x258001_1)) else (none))) = some r := by rw [if_neg (show ¬ (false = true) by decide)] at H; exact H
              clear H
              have H := H1
              clear H1
              replace H := Option.bind_eq_some_iff.mp H
              obtain ⟨t272, A610, H⟩ := H
              replace H : (if x5_1.length < 2932031007402 then (paint_Line.l0 kj20 l0 (x5_1 ++ [(⟨((rd_T99 t254 x8_1).f1), a1_6, t272, (a1_0.extract (((rd_T99 t254 x8_1).f0) : Int).toNat (((rd_T99 t254 (ji12)).f0) : Int).toNat), t265⟩ : S38)]) t254 true ji12 a1_0 l1_1 a1_2 a1_3 a1_4 a1_5 a1_6 a1_7 a1_8 a1_0 (itN_ a1_0 x258001_1)) else (none)) = some r := H
              have A61 := Aside0.mk A610
              clear A610
              by_cases c62 : x5_1.length < 2932031007402
              rotate_left
              · rw [if_neg c62] at H
                exact absurd H (by simp)
              rw [if_pos c62] at H
              have LMc62 := Aside0.mk c62
              clear c62
              obtain ⟨y273, hy273⟩ : ∃ y_ : List (S38), y_ = (x5_1 ++ [(⟨((rd_T99 t254 x8_1).f1), a1_6, t272, (a1_0.extract (((rd_T99 t254 x8_1).f0) : Int).toNat (((rd_T99 t254 (ji12)).f0) : Int).toNat), t265⟩ : S38)]) := ⟨_, rfl⟩
              replace H : (paint_Line.l0 kj20 l0 y273 t254 true ji12 a1_0 l1_1 a1_2 a1_3 a1_4 a1_5 a1_6 a1_7 a1_8 a1_0 (itN_ a1_0 x258001_1)) = some r := by first | (rw [hy273]; with_reducible exact H) | (have H2_ := (Option.bind_some _ _).symm.trans H; rw [hy273]; with_reducible exact H2_) | (have H2_ := (Option.bind_some _ _).symm.trans H; with_reducible exact H2_) | with_reducible exact H | (rw [hy273]; exact H) | exact H
              have Ny273 := Aside0.mk hy273
              clear hy273
              have H' := Aside0.mk H
              clear H
              try go_wp2
              replace HO_5 := Aside0.mk (Kd.R_drew HO_5.out)
              replace HO_6 := Aside0.mk (Kd.R_drew HO_6.out)
              replace BK253 := Aside0.mk (blk_drew BK253.out)
              replace BK257 := Aside0.mk (blk_drew BK257.out)
              replace BK260 := Aside0.mk (blk_drew BK260.out)
              replace BK261 := Aside0.mk (blk_drew BK261.out)
              replace HB := Aside0.mk (below_drew1 HB.out)
              refine start_ (n := 16) (S := fun w' => w'.cell? ⟨gb260, 0, none⟩ = some (.int .i64 ((rd_T99 t254 x8_1).f0)) ∧ w'.cell? ⟨gb260, 1, none⟩ = some (.int .i64 ((rd_T99 t254 x8_1).f1)) ∧ w'.cell? ⟨gb253, 0, none⟩ = some (.string a1_0) ∧ w'.cell? ⟨gb253, 1, none⟩ = some (.slice A1_1 l1_1.length c1_1) ∧ w'.cell? ⟨gb253, 2, none⟩ = some (.int .i64 a1_2) ∧ w'.cell? ⟨gb253, 3, none⟩ = some (.int .i64 a1_3) ∧ w'.cell? ⟨gb253, 4, none⟩ = some (.int .i64 a1_4) ∧ w'.cell? ⟨gb253, 5, none⟩ = some (.bool a1_5) ∧ w'.cell? ⟨gb253, 6, none⟩ = some (.int .i64 a1_6) ∧ w'.cell? ⟨gb253, 7, none⟩ = some (.bool a1_7) ∧ w'.cell? ⟨gb253, 8, none⟩ = some (.bool a1_8) ∧ w'.cell? ⟨gb261, 0, none⟩ = some (.int .i64 ((rd_T99 t254 (ji12)).f0)) ∧ w'.cell? ⟨gb261, 1, none⟩ = some (.int .i64 ((rd_T99 t254 (ji12)).f1))) (ds := []) #[false, false, false, false, false, false, false, false, false, false, false, false, false, false, false, false] (by kernel_rfl) rfl rfl ⟨(blk_cell BK260.out 0).trans rfl, (blk_cell BK260.out 1).trans rfl, (blk_cell BK253.out 0).trans rfl, (blk_cell BK253.out 1).trans rfl, (blk_cell BK253.out 2).trans rfl, (blk_cell BK253.out 3).trans rfl, (blk_cell BK253.out 4).trans rfl, (blk_cell BK253.out 5).trans rfl, (blk_cell BK253.out 6).trans rfl, (blk_cell BK253.out 7).trans rfl, (blk_cell BK253.out 8).trans rfl, (blk_cell BK261.out 0).trans rfl, (blk_cell BK261.out 1).trans rfl⟩ (fun hHeld => ?_); refine with_tabW paint_Line.tab18 paint_Line.bits18 (fun HT_ HW_ => ?_)
              generalize wc.drew = w63 at HO_5 HO_6 BK253 BK257 BK260 BK261 HB hHeld ⊢
              refine p1_ 0 104 #[true, false, false, false, false, false, false, false, false, false, false, false, false, false, false, false] ?_
              refine p1_ 1 105 #[true, true, false, false, false, false, false, false, false, false, false, false, false, false, false, false] ?_
              refine p1_ 3 107 #[true, true, false, true, false, false, false, false, false, false, false, false, false, false, false, false] ?_
              refine p1_ 5 109 #[true, true, false, true, false, true, false, false, false, false, false, false, false, false, false, false] ?_
              refine p1_ 7 111 #[true, true, false, true, false, true, false, true, false, false, false, false, false, false, false, false] ?_
              refine p1_ 10 114 #[true, true, false, true, false, true, false, true, false, false, true, false, false, false, false, false] ?_
              refine p1_ 11 115 #[true, true, false, true, false, true, false, true, false, false, true, true, false, false, false, false] ?_
              refine take_ (i := 2) (N := some 106) (v := ?_) (a' := ?_) #[true, true, true, true, false, true, false, true, false, false, true, true, false, false, false, false] rfl rfl (take_ofW HT_.out HW_.out (by kernel_rfl)) (fun _ _ _ h => h) (Or.inl ⟨by rfl, ?_⟩) hHeld ?_ ?_
              rotate_left
              · rintro w' ⟨s0, s1, s2, s3, s4, s5, s6, s7, s8, s9, s10, s11, s12⟩
                go_simp
                with_reducible rfl
              rotate_left
              · simp only [Act.put, List.setIfInBounds_toArray, List.set_cons_zero, List.set_cons_succ, i64_w, i32_w]
                rfl
              refine take_ (i := 4) (N := some 108) (v := ?_) (a' := ?_) #[true, true, true, true, true, true, false, true, false, false, true, true, false, false, false, false] rfl rfl (take_ofW HT_.out HW_.out (by kernel_rfl)) (fun _ _ _ h => h) (Or.inl ⟨by rfl, ?_⟩) hHeld ?_ ?_
              rotate_left
              · rintro w' ⟨s0, s1, s2, s3, s4, s5, s6, s7, s8, s9, s10, s11, s12⟩
                go_simp
                with_reducible rfl
              rotate_left
              · simp only [Act.put, List.setIfInBounds_toArray, List.set_cons_zero, List.set_cons_succ, i64_w, i32_w]
                rfl
              refine take_ (i := 6) (N := some 110) (v := ?_) (a' := ?_) #[true, true, true, true, true, true, true, true, false, false, true, true, false, false, false, false] rfl rfl (take_ofW HT_.out HW_.out (by kernel_rfl)) (fun _ _ _ h => h) (Or.inl ⟨by rfl, ?_⟩) hHeld ?_ ?_
              rotate_left
              · rintro w' ⟨s0, s1, s2, s3, s4, s5, s6, s7, s8, s9, s10, s11, s12⟩
                go_simp
                with_reducible rfl
              rotate_left
              · simp only [Act.put, List.setIfInBounds_toArray, List.set_cons_zero, List.set_cons_succ, i64_w, i32_w]
                rfl
              refine take_ (i := 8) (N := some 112) (v := ?_) (a' := ?_) #[true, true, true, true, true, true, true, true, true, false, true, true, false, false, false, false] rfl rfl (take_ofW HT_.out HW_.out (by kernel_rfl)) (fun _ _ _ h => h) (Or.inl ⟨by rfl, ?_⟩) hHeld ?_ ?_
              rotate_left
              · rintro w' ⟨s0, s1, s2, s3, s4, s5, s6, s7, s8, s9, s10, s11, s12⟩
                go_simp
                with_reducible rfl
              rotate_left
              · simp only [Act.put, List.setIfInBounds_toArray, List.set_cons_zero, List.set_cons_succ, i64_w, i32_w]
                rfl
              refine one_ (i := 9) (N := some 113) #[true, true, true, true, true, true, true, true, true, true, true, true, false, false, false, false] rfl rfl (one_of HT_.out (by kernel_rfl)) (by decide) (fun K hK => ?_)
              refine goes_ Try.func45 (by kernel_rfl) rfl #[.int .i64 ((rd_T99 t254 (ji12)).f1), .int .i64 ((rd_T99 t254 x8_1).f1)] (by rfl) rfl rfl (by (try simp only [List.map_toArray, List.map_cons, List.map_nil]); first | done | (simp only [hji12]; rfl) | rfl | (simp only [List.length_drop, List.length_take]; rfl)) ?_
              with_reducible refine (scaled_Sub.calls ((rd_T99 t254 (ji12)).f1) ((rd_T99 t254 x8_1).f1) t272 _ A61.out).mono ?_
              rintro e w64 ⟨rfl, hb⟩
              refine ⟨_, rfl, ?_⟩
              replace HO_5 := Aside0.mk (Kd.R_below z170_ hb)
              replace HO_6 := Aside0.mk (Kd.R_below z171_ hb)
              replace BK253 := Aside0.mk (blk_below (g := gb253) (o := .cells #[.string a1_0, .slice A1_1 l1_1.length c1_1, .int .i64 a1_2, .int .i64 a1_3, .int .i64 a1_4, .bool a1_5, .int .i64 a1_6, .bool a1_7, .bool a1_8] 25 (0, 0)) z143_ hb)
              replace BK257 := Aside0.mk (blk_below (g := gb257) (o := .stringIter a1_0 ((itN_ a1_0 x258001_1) : Int).toNat) z144_ hb)
              replace BK260 := Aside0.mk (blk_below (g := gb260) (o := .cells #[.int .i64 ((rd_T99 t254 x8_1).f0), .int .i64 ((rd_T99 t254 x8_1).f1)] 99 (0, 0)) z145_ hb)
              replace BK261 := Aside0.mk (blk_below (g := gb261) (o := .cells #[.int .i64 ((rd_T99 t254 (ji12)).f0), .int .i64 ((rd_T99 t254 (ji12)).f1)] 99 (0, 0)) z146_ hb)
              replace HB := Aside0.mk (below_step z32_ hb)
              (try clear hb)
              (try clear hb2)
              (try clear hk)
              (try clear hi)
              refine hK.out _ _ ⟨(blk_cell BK260.out 0).trans rfl, (blk_cell BK260.out 1).trans rfl, (blk_cell BK253.out 0).trans rfl, (blk_cell BK253.out 1).trans rfl, (blk_cell BK253.out 2).trans rfl, (blk_cell BK253.out 3).trans rfl, (blk_cell BK253.out 4).trans rfl, (blk_cell BK253.out 5).trans rfl, (blk_cell BK253.out 6).trans rfl, (blk_cell BK253.out 7).trans rfl, (blk_cell BK253.out 8).trans rfl, (blk_cell BK261.out 0).trans rfl, (blk_cell BK261.out 1).trans rfl⟩ (fun hHeld => ?_)
              clear hK K
              refine norm_ (a' := ?_) ?_ ?_
              rotate_left
              · show Act.put _ (some 113) _ = _
                simp only [Act.put, List.setIfInBounds_toArray, List.set_cons_zero, List.set_cons_succ, i64_w, i32_w]
                rfl
              refine p1_ 12 116 #[true, true, true, true, true, true, true, true, true, true, true, true, true, false, false, false] ?_
              refine one_ (i := 13) (N := some 117) #[true, true, true, true, true, true, true, true, true, true, true, true, true, true, false, false] rfl rfl (one_of HT_.out (by kernel_rfl)) (by decide) (fun K hK => ?_)
              refine value_ (w1 := ?_) (v := ?_) (by rfl) rfl ?_ ?_
              rotate_left 2
              · go_simp
                constructor
                · rfl
                · rfl
              refine hK.out _ _ ⟨(blk_cell (blk_alloc BK260.out _) 0).trans rfl, (blk_cell (blk_alloc BK260.out _) 1).trans rfl, (blk_cell (blk_alloc BK253.out _) 0).trans rfl, (blk_cell (blk_alloc BK253.out _) 1).trans rfl, (blk_cell (blk_alloc BK253.out _) 2).trans rfl, (blk_cell (blk_alloc BK253.out _) 3).trans rfl, (blk_cell (blk_alloc BK253.out _) 4).trans rfl, (blk_cell (blk_alloc BK253.out _) 5).trans rfl, (blk_cell (blk_alloc BK253.out _) 6).trans rfl, (blk_cell (blk_alloc BK253.out _) 7).trans rfl, (blk_cell (blk_alloc BK253.out _) 8).trans rfl, (blk_cell (blk_alloc BK261.out _) 0).trans rfl, (blk_cell (blk_alloc BK261.out _) 1).trans rfl⟩ (fun hHeld => ?_)
              clear hK K
              refine norm_ (a' := ?_) ?_ ?_
              rotate_left
              · show Act.put _ (some 117) _ = _
                simp only [Act.put, List.setIfInBounds_toArray, List.set_cons_zero, List.set_cons_succ, i64_w, i32_w]
                rfl
              refine one_ (i := 14) (N := some 118) #[true, true, true, true, true, true, true, true, true, true, true, true, true, true, true, false] rfl rfl (one_of HT_.out (by kernel_rfl)) (by decide) (fun K hK => ?_)
              refine Kd.R_append_step k38 (w0 := w) w.heap.size (by rfl) (.tmp 104) (.tmp 117) 33 38 (.agg #[(.int .i64 0), (.int .i64 0), (.int .i64 0), (.string ⟨#[]⟩), (.int .i64 0)]) 48 rfl Try.underlying33 info38 rfl (by decide) (by omega) (.slice Ao43 x5_1.length co43) x5_1 (⟨((rd_T99 t254 x8_1).f1), a1_6, t272, (a1_0.extract (((rd_T99 t254 x8_1).f0) : Int).toNat (((rd_T99 t254 (ji12)).f0) : Int).toNat), t265⟩ : S38) [.int .i64 ((rd_T99 t254 x8_1).f1), .int .i64 a1_6, .int .i64 t272, .string (a1_0.extract (((rd_T99 t254 x8_1).f0) : Int).toNat (((rd_T99 t254 (ji12)).f0) : Int).toNat), .int .i64 t265] (fun _ => True) (fun _ => False) rfl rfl ?aP (fun _ hk => hk.elim) ?aF ?aO ?aB ?aS ?aL ?_
              (case aP => exact k38_mkM _ _ _ (⟨((rd_T99 t254 x8_1).f1), a1_6, t272, (a1_0.extract (((rd_T99 t254 x8_1).f0) : Int).toNat (((rd_T99 t254 (ji12)).f0) : Int).toNat), t265⟩ : S38))
              (case aB => exact z32_)
              (case aF => exact z215_)
              (case aO => exact z152_)
              (case aS => exact (below_size z32_))
              (case aL => have := LMc62.out; omega)
              intro v274 w65 ho hb hg hat
              rw [← Ny273.out] at ho
              have n0_ := Aside0.mk (Kd.R_over' z171_ (Kd.R_typed z170_) (by decide) hg)
              have n1_ := Aside0.mk (blk_grown (g := gb253) (o := .cells #[.string a1_0, .slice A1_1 l1_1.length c1_1, .int .i64 a1_2, .int .i64 a1_3, .int .i64 a1_4, .bool a1_5, .int .i64 a1_6, .bool a1_7, .bool a1_8] 25 (0, 0)) z143_ hg (Kd.R_ne HO_5.out BK253.out (by decide)))
              have n2_ := Aside0.mk (blk_grown (g := gb257) (o := .stringIter a1_0 ((itN_ a1_0 x258001_1) : Int).toNat) z144_ hg (iter_ne (Kd.R_typed HO_5.out) BK257.out))
              have n3_ := Aside0.mk (blk_grown (g := gb260) (o := .cells #[.int .i64 ((rd_T99 t254 x8_1).f0), .int .i64 ((rd_T99 t254 x8_1).f1)] 99 (0, 0)) z145_ hg (Kd.R_ne HO_5.out BK260.out (by decide)))
              have n4_ := Aside0.mk (blk_grown (g := gb261) (o := .cells #[.int .i64 ((rd_T99 t254 (ji12)).f0), .int .i64 ((rd_T99 t254 (ji12)).f1)] 99 (0, 0)) z146_ hg (Kd.R_ne HO_5.out BK261.out (by decide)))
              have n5_ := Aside0.mk (hb)
              have n6_ := Aside0.mk (ho)
              clear HO_6
              clear BK253
              clear BK257
              clear BK260
              clear BK261
              clear HB
              clear HO_5
              have HO_6 := n0_
              have BK253 := n1_
              have BK257 := n2_
              have BK260 := n3_
              have BK261 := n4_
              have HB := n5_
              have HO275 := n6_
              clear n0_ n1_ n2_ n3_ n4_ n5_ n6_
              clear ho hb hg hat
              refine hK.out _ _ ⟨(blk_cell BK260.out 0).trans rfl, (blk_cell BK260.out 1).trans rfl, (blk_cell BK253.out 0).trans rfl, (blk_cell BK253.out 1).trans rfl, (blk_cell BK253.out 2).trans rfl, (blk_cell BK253.out 3).trans rfl, (blk_cell BK253.out 4).trans rfl, (blk_cell BK253.out 5).trans rfl, (blk_cell BK253.out 6).trans rfl, (blk_cell BK253.out 7).trans rfl, (blk_cell BK253.out 8).trans rfl, (blk_cell BK261.out 0).trans rfl, (blk_cell BK261.out 1).trans rfl⟩ (fun hHeld => ?_)
              clear hK K
              refine norm_ (a' := ?_) ?_ ?_
              rotate_left
              · show Act.put _ (some 118) _ = _
                simp only [Act.put, List.setIfInBounds_toArray, List.set_cons_zero, List.set_cons_succ, i64_w, i32_w]
                rfl
              refine p1_ 15 5 #[true, true, true, true, true, true, true, true, true, true, true, true, true, true, true, true] ?_
              refine done_ (done_of HT_.out (by kernel_rfl)) ?_
              try go_wp2
              first | go_roundg kj20 | (rw [← hji12]; go_roundg kj20)
              case measure => have := HK1.out; have := HJ20.out; omega
              case rel => exact ⟨(y273), (true), (ji12), ((itN_ a1_0 x258001_1)), z208_, z180_, z191_, ⟨by have := HK1.out; have := HJ20.out; omega⟩, ⟨y185_ HO275.out⟩, ⟨by (with_reducible repeat (first | apply Kd.R_alloc | apply Kd.R_drewN | apply Kd.R_drew)); exact Kd.R_mono HO_6.out (fun _ hk => trivial)⟩, ⟨z143_⟩, ⟨z144_⟩, ⟨z32_⟩⟩
            subst c48
            have H1 : (if 0 ≤ (wrap64 ((x5_1.length : Int) - 1)) then (if (wrap64 ((x5_1.length : Int) - 1)) < (x5_1.length : Int) then (if ((rd_T38 x5_1 (wrap64 ((x5_1.length : Int) - 1))).f3).size + (a1_0.extract (((rd_T99 t254 x8_1).f0) : Int).toNat (((rd_T99 t254 (ji12)).f0) : Int).toNat).size ≤ 9223372036854775807 then ((some (x5_1.set ((wrap64 ((x5_1.length : Int) - 1)) : Int).toNat (⟨(rd_T38 x5_1 (wrap64 ((x5_1.length : Int) - 1))).f0, (rd_T38 x5_1 (wrap64 ((x5_1.length : Int) - 1))).f1, (rd_T38 x5_1 (wrap64 ((x5_1.length : Int) - 1))).f2, ((rd_T38 x5_1 (wrap64 ((x5_1.length : Int) - 1))).f3) ++ (a1_0.extract (((rd_T99 t254 x8_1).f0) : Int).toNat (((rd_T99 t254 (ji12)).f0) : Int).toNat), (rd_T38 x5_1 (wrap64 ((x5_1.length : Int) - 1))).f4⟩ : S38) : List (S38))).bind fun y268 => ((scaled_Sub.f ((rd_T99 t254 (ji12)).f1) ((rd_T38 y268 (wrap64 ((x5_1.length : Int) - 1))).f0)).bind fun t270 => (paint_Line.l0 kj20 l0 (y268.set ((wrap64 ((x5_1.length : Int) - 1)) : Int).toNat (⟨(rd_T38 y268 (wrap64 ((x5_1.length : Int) - 1))).f0, (rd_T38 y268 (wrap64 ((x5_1.length : Int) - 1))).f1, t270, (rd_T38 y268 (wrap64 ((x5_1.length : Int) - 1))).f3, (rd_T38 y268 (wrap64 ((x5_1.length : Int) - 1))).f4⟩ : S38)) t254 x7_1 ji12 a1_0 l1_1 a1_2 a1_3 a1_4 a1_5 a1_6 a1_7 a1_8 a1_0 (itN_ a1_0 x258001_1)))) else (none)) else (none)) else (none)) = some r := by rw [if_pos rfl] at H; exact H
            clear H
            have H := H1
            clear H1
            obtain ⟨ji49, hji49⟩ : ∃ j_ : Int, (wrap64 ((x5_1.length : Int) - 1)) = j_ := ⟨_, rfl⟩
            replace H : (if 0 ≤ (ji49) then (if (ji49) < (x5_1.length : Int) then (if ((rd_T38 x5_1 (ji49)).f3).size + (a1_0.extract (((rd_T99 t254 x8_1).f0) : Int).toNat (((rd_T99 t254 (ji12)).f0) : Int).toNat).size ≤ 9223372036854775807 then ((some (x5_1.set ((ji49) : Int).toNat (⟨(rd_T38 x5_1 (ji49)).f0, (rd_T38 x5_1 (ji49)).f1, (rd_T38 x5_1 (ji49)).f2, ((rd_T38 x5_1 (ji49)).f3) ++ (a1_0.extract (((rd_T99 t254 x8_1).f0) : Int).toNat (((rd_T99 t254 (ji12)).f0) : Int).toNat), (rd_T38 x5_1 (ji49)).f4⟩ : S38) : List (S38))).bind fun y268 => ((scaled_Sub.f ((rd_T99 t254 (ji12)).f1) ((rd_T38 y268 (ji49)).f0)).bind fun t270 => (paint_Line.l0 kj20 l0 (y268.set ((ji49) : Int).toNat (⟨(rd_T38 y268 (ji49)).f0, (rd_T38 y268 (ji49)).f1, t270, (rd_T38 y268 (ji49)).f3, (rd_T38 y268 (ji49)).f4⟩ : S38)) t254 x7_1 ji12 a1_0 l1_1 a1_2 a1_3 a1_4 a1_5 a1_6 a1_7 a1_8 a1_0 (itN_ a1_0 x258001_1)))) else (none)) else (none)) else (none)) = some r := by first | (rw [hji49] at H; exact H) | (simp only [hji49] at H ⊢; exact H)
            have hji49w : (IntKind.i64.wrap ((x5_1.length : Int) - 1)) = ji49 := (i64_w _).trans hji49
            by_cases c50 : 0 ≤ (ji49)
            rotate_left
            · rw [if_neg c50] at H
              exact absurd H (by simp)
            rw [if_pos c50] at H
            have c50b0 : decide (0 ≤ (ji49)) = true := decide_eq_true c50
            clear c50
            by_cases c51 : (ji49) < (x5_1.length : Int)
            rotate_left
            · rw [if_neg c51] at H
              exact absurd H (by simp)
            rw [if_pos c51] at H
            have c51b0 : decide ((ji49) < (x5_1.length : Int)) = true := decide_eq_true c51
            clear c51
            by_cases c52 : ((rd_T38 x5_1 (ji49)).f3).size + (a1_0.extract (((rd_T99 t254 x8_1).f0) : Int).toNat (((rd_T99 t254 (ji12)).f0) : Int).toNat).size ≤ 9223372036854775807
            rotate_left
            · rw [if_neg c52] at H
              exact absurd H (by simp)
            rw [if_pos c52] at H
            have c52b0 := eq_true c52
            have c52b1 : decide (((rd_T38 x5_1 (ji49)).f3).size + (a1_0.extract (((rd_T99 t254 x8_1).f0) : Int).toNat (((rd_T99 t254 (ji12)).f0) : Int).toNat).size ≤ 9223372036854775807) = true := decide_eq_true c52
            try have c52b2 : (9223372036854775807 < ((rd_T38 x5_1 (ji49)).f3).size + (a1_0.extract (((rd_T99 t254 x8_1).f0) : Int).toNat (((rd_T99 t254 (ji12)).f0) : Int).toNat).size) = False := eq_false (Nat.not_lt.2 c52)
            (try (have c52b3 := c52b2; simp only [ByteArray.size_append] at c52b3))
            (try (have c52b4 : (9223372036854775807 < ((rd_T38 x5_1 (ji49)).f3).size + (a1_0.extract (((rd_T99 t254 x8_1).f0) : Int).toNat (((rd_T99 t254 (ji12)).f0) : Int).toNat).size) = False := eq_false (by have h_ := c52; simp [ByteArray.size_extract] at h_; simp; omega)))
            obtain ⟨y268, hy268⟩ : ∃ y_ : List (S38), y_ = (x5_1.set ((ji49) : Int).toNat (⟨(rd_T38 x5_1 (ji49)).f0, (rd_T38 x5_1 (ji49)).f1, (rd_T38 x5_1 (ji49)).f2, ((rd_T38 x5_1 (ji49)).f3) ++ (a1_0.extract (((rd_T99 t254 x8_1).f0) : Int).toNat (((rd_T99 t254 (ji12)).f0) : Int).toNat), (rd_T38 x5_1 (ji49)).f4⟩ : S38)) := ⟨_, rfl⟩
            replace H : ((scaled_Sub.f ((rd_T99 t254 (ji12)).f1) ((rd_T38 y268 (ji49)).f0)).bind fun t270 => (paint_Line.l0 kj20 l0 (y268.set ((ji49) : Int).toNat (⟨(rd_T38 y268 (ji49)).f0, (rd_T38 y268 (ji49)).f1, t270, (rd_T38 y268 (ji49)).f3, (rd_T38 y268 (ji49)).f4⟩ : S38)) t254 x7_1 ji12 a1_0 l1_1 a1_2 a1_3 a1_4 a1_5 a1_6 a1_7 a1_8 a1_0 (itN_ a1_0 x258001_1))) = some r := by first | (rw [hy268]; with_reducible exact H) | (have H2_ := (Option.bind_some _ _).symm.trans H; rw [hy268]; with_reducible exact H2_) | (have H2_ := (Option.bind_some _ _).symm.trans H; with_reducible exact H2_) | with_reducible exact H | (rw [hy268]; exact H) | exact H
            have Ny268 := Aside0.mk hy268
            clear hy268
            replace H := Option.bind_eq_some_iff.mp H
            obtain ⟨t270, A540, H⟩ := H
            replace H : (paint_Line.l0 kj20 l0 (y268.set ((ji49) : Int).toNat (⟨(rd_T38 y268 (ji49)).f0, (rd_T38 y268 (ji49)).f1, t270, (rd_T38 y268 (ji49)).f3, (rd_T38 y268 (ji49)).f4⟩ : S38)) t254 x7_1 ji12 a1_0 l1_1 a1_2 a1_3 a1_4 a1_5 a1_6 a1_7 a1_8 a1_0 (itN_ a1_0 x258001_1)) = some r := H
            have A54 := Aside0.mk A540
            clear A540
            obtain ⟨y271, hy271⟩ : ∃ y_ : List (S38), y_ = (y268.set ((ji49) : Int).toNat (⟨(rd_T38 y268 (ji49)).f0, (rd_T38 y268 (ji49)).f1, t270, (rd_T38 y268 (ji49)).f3, (rd_T38 y268 (ji49)).f4⟩ : S38)) := ⟨_, rfl⟩
            replace H : (paint_Line.l0 kj20 l0 y271 t254 x7_1 ji12 a1_0 l1_1 a1_2 a1_3 a1_4 a1_5 a1_6 a1_7 a1_8 a1_0 (itN_ a1_0 x258001_1)) = some r := by first | (rw [hy271]; with_reducible exact H) | (have H2_ := (Option.bind_some _ _).symm.trans H; rw [hy271]; with_reducible exact H2_) | (have H2_ := (Option.bind_some _ _).symm.trans H; with_reducible exact H2_) | with_reducible exact H | (rw [hy271]; exact H) | exact H
            have Ny271 := Aside0.mk hy271
            clear hy271
            have H' := Aside0.mk H
            clear H
            have p267 : 0 ≤ ((ji49) : Int) := of_decide_eq_true z204_
            have q267 : (ji49) < (x5_1.length : Int) := of_decide_eq_true z204_
            obtain ⟨ad267, e267, hx267_0, hx267_1, hx267_2, hx267_3, hx267_4⟩ := at_T38 (Kd.R_reads' HO_5.out).2.2 (ji49) p267 q267
            cases e267
            replace p267 := eq_true p267
            replace q267 := eq_true q267
            have p53 : 0 ≤ ((ji49) : Int) := of_decide_eq_true z204_
            have q53 : ((ji49) : Int) < ((x5_1.length : Int) : Int) := of_decide_eq_true z204_
            obtain ⟨go53, co53, eo53, gb53, gl53, cl53, HG53⟩ := Kd.R_form HO_5.out (by omega)
            (first | cases eo53 | (injection eo53 with ea_ en_ ec_; (first | subst ea_ | (injection ea_ with ea_; subst ea_)); subst ec_; clear en_))
            have GB53 := Aside0.mk gb53
            have GG53 := Aside0.mk HG53
            clear gb53 gl53 HG53
            (first | simp only [add_plain] at hx267_0 | skip)
            (first | simp only [add_plain] at hx267_1 | skip)
            (first | simp only [add_plain] at hx267_2 | skip)
            (first | simp only [add_plain] at hx267_3 | skip)
            (first | simp only [add_plain] at hx267_4 | skip)
            obtain ⟨ce53, hcl53, hM53, hcc53, hfr53⟩ := Kd.R_elem HO_5.out z38 ((ji49) : Int) p53 q53
            obtain rfl := k38_openM hM53
            have hx53_0 : wc.cell? ⟨go53, ((ji49) : Int).toNat * 5, none⟩ = some (.int .i64 ((rd_T38 x5_1 (ji49)).f0)) := hcc53 0 _ rfl
            have hx53_1 : wc.cell? ⟨go53, ((ji49) : Int).toNat * 5 + 1, none⟩ = some (.int .i64 ((rd_T38 x5_1 (ji49)).f1)) := hcc53 1 _ rfl
            have hx53_2 : wc.cell? ⟨go53, ((ji49) : Int).toNat * 5 + 2, none⟩ = some (.int .i64 ((rd_T38 x5_1 (ji49)).f2)) := hcc53 2 _ rfl
            have hx53_3 : wc.cell? ⟨go53, ((ji49) : Int).toNat * 5 + 3, none⟩ = some (.string ((rd_T38 x5_1 (ji49)).f3)) := hcc53 3 _ rfl
            have hx53_4 : wc.cell? ⟨go53, ((ji49) : Int).toNat * 5 + 4, none⟩ = some (.int .i64 ((rd_T38 x5_1 (ji49)).f4)) := hcc53 4 _ rfl
            have hf53_0 : wc.frozen? ⟨go53, ((ji49) : Int).toNat * 5, none⟩ = false := hfr53 0
            have hf53_1 : wc.frozen? ⟨go53, ((ji49) : Int).toNat * 5 + 1, none⟩ = false := hfr53 1
            have hf53_2 : wc.frozen? ⟨go53, ((ji49) : Int).toNat * 5 + 2, none⟩ = false := hfr53 2
            have hf53_3 : wc.frozen? ⟨go53, ((ji49) : Int).toNat * 5 + 3, none⟩ = false := hfr53 3
            have hf53_4 : wc.frozen? ⟨go53, ((ji49) : Int).toNat * 5 + 4, none⟩ = false := hfr53 4
            clear hcl53 hcc53 hfr53 hM53
            replace p53 := eq_true p53
            replace q53 := eq_true q53
            have HX56 := Aside0.mk (show Kd.R k38 38 wc w.heap.size (fun _ => True) (.slice (some ⟨go53, 0, none⟩) x5_1.length co43) x5_1 from z170_)
            obtain ⟨ce56, hcl56, hM56, hcc56, hfr56⟩ := Kd.R_elem HX56.out z38 ((ji49) : Int) (of_decide_eq_true z204_) (by have h_ : ((ji49) : Int) < ((x5_1.length : Int) : Int) := of_decide_eq_true z204_; first | exact h_ | (have e_ := (Kd.R_reads' HO_5.out).1; omega) | simpa using h_)
            obtain rfl := k38_openM hM56
            have HP56 := Kd.R_seg HX56.out ((ji49) : Int) (of_decide_eq_true z204_) (by have h_ : ((ji49) : Int) < ((x5_1.length : Int) : Int) := of_decide_eq_true z204_; first | exact h_ | (have e_ := (Kd.R_reads' HO_5.out).1; omega) | simpa using h_) (seg := [.string (((rd_T38 x5_1 (ji49)).f3) ++ (a1_0.extract (((rd_T99 t254 x8_1).f0) : Int).toNat (((rd_T99 t254 (ji12)).f0) : Int).toNat))]) (j := 3) hcl56 hcc56 (show 4 ≤ 5 from by decide) (x' := (⟨(rd_T38 x5_1 (ji49)).f0, (rd_T38 x5_1 (ji49)).f1, (rd_T38 x5_1 (ji49)).f2, ((rd_T38 x5_1 (ji49)).f3) ++ (a1_0.extract (((rd_T99 t254 x8_1).f0) : Int).toNat (((rd_T99 t254 (ji12)).f0) : Int).toNat), (rd_T38 x5_1 (ji49)).f4⟩ : S38)) (k38_mkM _ _ _ (⟨(rd_T38 x5_1 (ji49)).f0, (rd_T38 x5_1 (ji49)).f1, (rd_T38 x5_1 (ji49)).f2, ((rd_T38 x5_1 (ji49)).f3) ++ (a1_0.extract (((rd_T99 t254 x8_1).f0) : Int).toNat (((rd_T99 t254 (ji12)).f0) : Int).toNat), (rd_T38 x5_1 (ji49)).f4⟩ : S38) ) (fun _ hk => hk)
            have hx56_3 := hcc56 3 _ rfl
            (try simp only [show (k38).sz = 5 from rfl, Nat.mul_one, Nat.add_zero] at hx56_3)
            have hf56_3 := hfr56 3
            (try simp only [show (k38).sz = 5 from rfl, Nat.mul_one, Nat.add_zero] at hf56_3)
            clear hcl56 hcc56 hfr56 hM56
            try go_wp2_with (first | ((with_reducible refine gate_store (t := 9) (p := 91) rfl ?_); refine store_event (t := 9) (p := 91) (v := ?vo_w57) (w1 := (wc.setCell ⟨go53, ((ji49) : Int).toNat * 5 + 3, none⟩ (.string (((rd_T38 x5_1 (ji49)).f3) ++ (a1_0.extract (((rd_T99 t254 x8_1).f0) : Int).toNat (((rd_T99 t254 (ji12)).f0) : Int).toNat))))) ?hg ?ho ?hn ?hr ?_; (case ho => rfl); (case hg => rfl); (case hn => rfl); (case hr => exact z209_); intro w57 hw; have hg : wc.grownBy w57 (some go53) := (by rw [hw]; exact HP56.2); have hp_ : Kd.R k38 38 w57 w.heap.size (fun _ => True) (.slice (some ⟨go53, 0, none⟩) x5_1.length co43) y268 := (by rw [hw, Ny268.out]; exact HP56.1); clear HP56; replace HO_6 := Aside0.mk (Kd.R_over' (v := (.slice (some ⟨go53, 0, none⟩) x5_1.length co43)) z171_ (Kd.R_typed HO_5.out) (by decide) hg); replace BK253 := Aside0.mk (blk_grown (g := gb253) (o := .cells #[.string a1_0, .slice A1_1 l1_1.length c1_1, .int .i64 a1_2, .int .i64 a1_3, .int .i64 a1_4, .bool a1_5, .int .i64 a1_6, .bool a1_7, .bool a1_8] 25 (0, 0)) z143_ hg (Kd.R_ne HO_5.out BK253.out (by decide))); replace BK257 := Aside0.mk (blk_grown (g := gb257) (o := .stringIter a1_0 ((itN_ a1_0 x258001_1) : Int).toNat) z144_ hg (iter_ne (Kd.R_typed HO_5.out) BK257.out)); replace BK260 := Aside0.mk (blk_grown (g := gb260) (o := .cells #[.int .i64 ((rd_T99 t254 x8_1).f0), .int .i64 ((rd_T99 t254 x8_1).f1)] 99 (0, 0)) z145_ hg (Kd.R_ne HO_5.out BK260.out (by decide))); replace BK261 := Aside0.mk (blk_grown (g := gb261) (o := .cells #[.int .i64 ((rd_T99 t254 (ji12)).f0), .int .i64 ((rd_T99 t254 (ji12)).f1)] 99 (0, 0)) z146_ hg (Kd.R_ne HO_5.out BK261.out (by decide))); replace HO_5 := Aside0.mk (hp_); replace HB := Aside0.mk ((by rw [hw]; exact below_set (HB.out) GB53.out : Below w.heap.size w w57)); clear hg hw hp_))
            replace HO_5 := Aside0.mk (Kd.R_drew HO_5.out)
            replace HO_6 := Aside0.mk (Kd.R_drew HO_6.out)
            replace BK253 := Aside0.mk (blk_drew BK253.out)
            replace BK257 := Aside0.mk (blk_drew BK257.out)
            replace BK260 := Aside0.mk (blk_drew BK260.out)
            replace BK261 := Aside0.mk (blk_drew BK261.out)
            replace HB := Aside0.mk (below_drew1 HB.out)
            have p269 : 0 ≤ ((ji49) : Int) := of_decide_eq_true z204_
            have q269 : (ji49) < (y268.length : Int) := (by have h_ : ((ji49) : Int) < ((x5_1.length : Int) : Int) := of_decide_eq_true z204_; first | (have e_ := (Kd.R_reads' HO_5.out).1; omega) | simpa only [Ny268.out, List.length_set] using h_)
            have ql269 : (((ji49) : Int) < ((x5_1.length : Int) : Int)) = True := eq_true (of_decide_eq_true z204_)
            obtain ⟨ad269, e269, hx269_0, hx269_1, hx269_2, hx269_3, hx269_4⟩ := at_T38 (Kd.R_reads' HO_5.out).2.2 (ji49) p269 q269
            obtain rfl : (⟨go53, 0, none⟩ : Addr) = ad269 := (by injection e269)
            (first | simp only [add_plain] at hx269_0 | simp only [add_at] at hx269_0 | simp only [Addr.add, Nat.zero_add] at hx269_0 | skip)
            (first | simp only [add_plain] at hx269_1 | simp only [add_at] at hx269_1 | simp only [Addr.add, Nat.zero_add] at hx269_1 | skip)
            (first | simp only [add_plain] at hx269_2 | simp only [add_at] at hx269_2 | simp only [Addr.add, Nat.zero_add] at hx269_2 | skip)
            (first | simp only [add_plain] at hx269_3 | simp only [add_at] at hx269_3 | simp only [Addr.add, Nat.zero_add] at hx269_3 | skip)
            (first | simp only [add_plain] at hx269_4 | simp only [add_at] at hx269_4 | simp only [Addr.add, Nat.zero_add] at hx269_4 | skip)
            replace p269 := eq_true p269
            replace q269 := eq_true q269
            refine start_ (n := 13) (S := fun w' => w'.cell? ⟨gb261, 0, none⟩ = some (.int .i64 ((rd_T99 t254 (ji12)).f0)) ∧ w'.cell? ⟨gb261, 1, none⟩ = some (.int .i64 ((rd_T99 t254 (ji12)).f1)) ∧ w'.cell? ⟨go53, ((ji49)).toNat * 5, none⟩ = some (.int .i64 ((rd_T38 y268 (ji49)).f0)) ∧ w'.cell? ⟨go53, ((ji49)).toNat * 5 + 1, none⟩ = some (.int .i64 ((rd_T38 y268 (ji49)).f1)) ∧ w'.cell? ⟨go53, ((ji49)).toNat * 5 + 2, none⟩ = some (.int .i64 ((rd_T38 y268 (ji49)).f2)) ∧ w'.cell? ⟨go53, ((ji49)).toNat * 5 + 3, none⟩ = some (.string ((rd_T38 y268 (ji49)).f3)) ∧ w'.cell? ⟨go53, ((ji49)).toNat * 5 + 4, none⟩ = some (.int .i64 ((rd_T38 y268 (ji49)).f4))) (ds := [12]) bs1_ (by kernel_rfl) rfl rfl ⟨(blk_cell BK261.out 0).trans rfl, (blk_cell BK261.out 1).trans rfl, hx269_0, hx269_1, hx269_2, hx269_3, hx269_4⟩ (fun hHeld => ?_); refine with_tabW paint_Line.tab17 paint_Line.bits17 (fun HT_ HW_ => ?_)
            generalize w57.drew = w58 at HO_5 HO_6 BK253 BK257 BK260 BK261 HB hx269_0 hx269_1 hx269_2 hx269_3 hx269_4 hHeld ⊢
            refine p1_ 0 92 bs2_ ?_
            refine p1_ 1 93 bs3_ ?_
            refine p1_ 2 94 bs4_ ?_
            refine p1_ 4 96 bs5_ ?_
            refine p1_ 5 97 bs6_ ?_
            refine p1_ 6 98 bs7_ ?_
            refine p1_ 7 99 bs8_ ?_
            refine take_ (i := 3) (N := some 95) (v := ?_) (a' := ?_) bs9_ rfl rfl (take_ofW HT_.out HW_.out (by kernel_rfl)) (fun _ _ _ h => h) (Or.inl ⟨by rfl, ?_⟩) hHeld ?_ ?_
            rotate_left
            · rintro w' ⟨s0, s1, s2, s3, s4, s5, s6⟩
              go_simp
              with_reducible rfl
            rotate_left
            · simp only [Act.put, List.setIfInBounds_toArray, List.set_cons_zero, List.set_cons_succ, i64_w, i32_w]
              rfl
            refine take_ (i := 8) (N := some 100) (v := ?_) (a' := ?_) bs10_ rfl rfl (take_ofW HT_.out HW_.out (by kernel_rfl)) (fun _ _ _ h => h) (Or.inl ⟨by rfl, ?_⟩) hHeld ?_ ?_
            rotate_left
            · rintro w' ⟨s0, s1, s2, s3, s4, s5, s6⟩
              go_simp
              with_reducible rfl
            rotate_left
            · simp only [Act.put, List.setIfInBounds_toArray, List.set_cons_zero, List.set_cons_succ, i64_w, i32_w]
              rfl
            refine one_ (i := 9) (N := some 101) bs11_ rfl rfl (one_of HT_.out (by kernel_rfl)) (by decide) (fun K hK => ?_)
            refine goes_ Try.func45 (by kernel_rfl) rfl #[.int .i64 ((rd_T99 t254 (ji12)).f1), .int .i64 ((rd_T38 y268 (ji49)).f0)] (by rfl) rfl rfl (by (try simp only [List.map_toArray, List.map_cons, List.map_nil]); first | done | (simp only [hji12, hji49]; rfl) | rfl | (simp only [List.length_drop, List.length_take]; rfl)) ?_
            with_reducible refine (scaled_Sub.calls ((rd_T99 t254 (ji12)).f1) ((rd_T38 y268 (ji49)).f0) t270 _ A54.out).mono ?_
            rintro e w59 ⟨rfl, hb⟩
            have HS2_ := (hb.cell (World.block_lt_of_cell? _ _ (hHeld.2.2.1))).trans (hHeld.2.2.1)
            have HS3_ := (hb.cell (World.block_lt_of_cell? _ _ (hHeld.2.2.2.1))).trans (hHeld.2.2.2.1)
            have HS4_ := (hb.cell (World.block_lt_of_cell? _ _ (hHeld.2.2.2.2.1))).trans (hHeld.2.2.2.2.1)
            have HS5_ := (hb.cell (World.block_lt_of_cell? _ _ (hHeld.2.2.2.2.2.1))).trans (hHeld.2.2.2.2.2.1)
            have HS6_ := (hb.cell (World.block_lt_of_cell? _ _ (hHeld.2.2.2.2.2.2))).trans (hHeld.2.2.2.2.2.2)
            refine ⟨_, rfl, ?_⟩
            replace HO_5 := Aside0.mk (Kd.R_below z170_ hb)
            replace HO_6 := Aside0.mk (Kd.R_below z171_ hb)
            replace BK253 := Aside0.mk (blk_below (g := gb253) (o := .cells #[.string a1_0, .slice A1_1 l1_1.length c1_1, .int .i64 a1_2, .int .i64 a1_3, .int .i64 a1_4, .bool a1_5, .int .i64 a1_6, .bool a1_7, .bool a1_8] 25 (0, 0)) z143_ hb)
            replace BK257 := Aside0.mk (blk_below (g := gb257) (o := .stringIter a1_0 ((itN_ a1_0 x258001_1) : Int).toNat) z144_ hb)
            replace BK260 := Aside0.mk (blk_below (g := gb260) (o := .cells #[.int .i64 ((rd_T99 t254 x8_1).f0), .int .i64 ((rd_T99 t254 x8_1).f1)] 99 (0, 0)) z145_ hb)
            replace BK261 := Aside0.mk (blk_below (g := gb261) (o := .cells #[.int .i64 ((rd_T99 t254 (ji12)).f0), .int .i64 ((rd_T99 t254 (ji12)).f1)] 99 (0, 0)) z146_ hb)
            replace HB := Aside0.mk (below_step z32_ hb)
            (try clear hb)
            (try clear hb2)
            (try clear hk)
            (try clear hi)
            have p55 : 0 ≤ ((ji49) : Int) := of_decide_eq_true z204_
            have q55 : ((ji49) : Int) < ((x5_1.length : Int) : Int) := of_decide_eq_true z204_
            obtain ⟨ce55, hcl55, hM55, hcc55, hfr55⟩ := Kd.R_elem HO_5.out z38 ((ji49) : Int) p55 q55
            obtain rfl := k38_openM hM55
            have hx55_0 : World.cell? _ ⟨go53, ((ji49) : Int).toNat * 5, none⟩ = some (.int .i64 ((rd_T38 y268 (ji49)).f0)) := hcc55 0 _ rfl
            have hx55_1 : World.cell? _ ⟨go53, ((ji49) : Int).toNat * 5 + 1, none⟩ = some (.int .i64 ((rd_T38 y268 (ji49)).f1)) := hcc55 1 _ rfl
            have hx55_2 : World.cell? _ ⟨go53, ((ji49) : Int).toNat * 5 + 2, none⟩ = some (.int .i64 ((rd_T38 y268 (ji49)).f2)) := hcc55 2 _ rfl
            have hx55_3 : World.cell? _ ⟨go53, ((ji49) : Int).toNat * 5 + 3, none⟩ = some (.string ((rd_T38 y268 (ji49)).f3)) := hcc55 3 _ rfl
            have hx55_4 : World.cell? _ ⟨go53, ((ji49) : Int).toNat * 5 + 4, none⟩ = some (.int .i64 ((rd_T38 y268 (ji49)).f4)) := hcc55 4 _ rfl
            have hf55_0 : World.frozen? _ ⟨go53, ((ji49) : Int).toNat * 5, none⟩ = false := hfr55 0
            have hf55_1 : World.frozen? _ ⟨go53, ((ji49) : Int).toNat * 5 + 1, none⟩ = false := hfr55 1
            have hf55_2 : World.frozen? _ ⟨go53, ((ji49) : Int).toNat * 5 + 2, none⟩ = false := hfr55 2
            have hf55_3 : World.frozen? _ ⟨go53, ((ji49) : Int).toNat * 5 + 3, none⟩ = false := hfr55 3
            have hf55_4 : World.frozen? _ ⟨go53, ((ji49) : Int).toNat * 5 + 4, none⟩ = false := hfr55 4
            clear hcl55 hcc55 hfr55 hM55
            replace p55 := eq_true p55
            replace q55 := eq_true q55
            obtain ⟨ce60, hcl60, hM60, hcc60, hfr60⟩ := Kd.R_elem HO_5.out z38 ((ji49) : Int) (of_decide_eq_true z204_) (by have h_ : ((ji49) : Int) < ((x5_1.length : Int) : Int) := of_decide_eq_true z204_; first | exact h_ | (have e_ := (Kd.R_reads' HO_5.out).1; omega) | simpa using h_)
            obtain rfl := k38_openM hM60
            have HP60 := (Kd.R_seg HO_5.out ((ji49) : Int) (of_decide_eq_true z204_) (by have h_ : ((ji49) : Int) < ((x5_1.length : Int) : Int) := of_decide_eq_true z204_; first | exact h_ | (have e_ := (Kd.R_reads' HO_5.out).1; omega) | simpa using h_) (seg := [.int .i64 t270]) (j := 2) hcl60 hcc60 (show 3 ≤ 5 from by decide) (x' := (⟨(rd_T38 y268 (ji49)).f0, (rd_T38 y268 (ji49)).f1, t270, (rd_T38 y268 (ji49)).f3, (rd_T38 y268 (ji49)).f4⟩ : S38)) (k38_mkM _ _ _ (⟨(rd_T38 y268 (ji49)).f0, (rd_T38 y268 (ji49)).f1, t270, (rd_T38 y268 (ji49)).f3, (rd_T38 y268 (ji49)).f4⟩ : S38) ) (fun _ hk => hk)).1
            rw [← Ny271.out] at HP60
            have HQ60 := Aside0.mk HP60
            clear hcl60 hcc60 hfr60 hM60 HP60
            refine hK.out _ _ ⟨(blk_cell BK261.out 0).trans rfl, (blk_cell BK261.out 1).trans rfl, HS2_, HS3_, HS4_, HS5_, HS6_⟩ (fun hHeld => ?_)
            clear hK K
            refine norm_ (a' := ?_) ?_ ?_
            rotate_left
            · show Act.put _ (some 101) _ = _
              simp only [Act.put, List.setIfInBounds_toArray, List.set_cons_zero, List.set_cons_succ, i64_w, i32_w]
              rfl
            refine p1_ 10 102 bs0_ ?_
            refine p1_ 11 103 bs12_ ?_
            refine last_ (i := 12) (N := none) bs13_ rfl rfl (one_of HT_.out (by kernel_rfl)) (by decide) (fun K hK => ?_)
            refine skip_ (w1 := ?_) (by rfl) rfl ?_ ?_
            rotate_left
            · go_simp
              rfl
            refine hK.out _ _ ?_
            clear hK K
            refine done_ (done_of HT_.out (by kernel_rfl)) ?_
            try go_wp2
            first | go_roundg kj20 | (rw [← hji49]; go_roundg kj20) | (rw [← hji12]; go_roundg kj20)
            case measure => have := HK1.out; have := HJ20.out; omega
            case rel => exact ⟨(y271), (x7_1), (ji12), ((itN_ a1_0 x258001_1)), z208_, z180_, (by first | exact H' | (simp only [hji12, hji49]; exact H') | (rw [hji12, hji49]; exact H')), ⟨by have := HK1.out; have := HJ20.out; omega⟩, ⟨y185_ HQ60.out⟩, ⟨by (with_reducible repeat (first | apply Kd.R_alloc | apply Kd.R_drewN | apply Kd.R_drew)); exact Kd.R_mono (Kd.R_far (p := ⟨go53, ((ji49) : Int).toNat * 5 + 2, none⟩) (R_typesT HO_6.out (Kd.R_typed HO_5.out _ rfl) (by decide)) (fun _ hk => hk.2) (.int .i64 t270)) (fun _ hk => trivial)⟩, ⟨by (with_reducible repeat (first | refine blk_drewN ?_ _ | refine blk_drew ?_ | refine blk_alloc ?_ _)); refine blk_farO ?_ (by have h_ := Kd.R_ne HO_5.out BK253.out (by decide); intro e_; exact h_ (by rw [e_]; rfl)) _; (with_reducible repeat (first | refine blk_drewN ?_ _ | refine blk_drew ?_ | refine blk_alloc ?_ _)); exact BK253.out⟩, ⟨by (with_reducible repeat (first | refine blk_drewN ?_ _ | refine blk_drew ?_ | refine blk_alloc ?_ _)); refine blk_farO ?_ (by have h_ := iter_ne (Kd.R_typed HO_5.out) BK257.out; intro e_; exact h_ (by rw [e_]; rfl)) _; (with_reducible repeat (first | refine blk_drewN ?_ _ | refine blk_drew ?_ | refine blk_alloc ?_ _)); exact BK257.out⟩, ⟨by repeat (first | (with_reducible first | exact HB.out | apply below_alloc | apply pw_below_drewN | apply below_drew1 | refine below_set ?_ GB53.out | refine below_set ?_ GE253.out | refine below_set ?_ GE257.out | refine below_set ?_ GE260.out | refine below_set ?_ GE261.out) | exact HB.out)⟩⟩
      replace c16 := Bool.eq_false_iff.mpr c16
      subst c16
      have H1 : (if x7_1 = true then (if ((rd_T99 t254 (ji12)).f1) = ((rd_T99 t254 x8_1).f1) then ((runes_Kind.f k1 (itR_ a1_0 x258001_1)).bind fun t263 => (if t263 = 1 then (paint_Line.l0 k1 l0 x5_1 t254 false ji12 a1_0 l1_1 a1_2 a1_3 a1_4 a1_5 a1_6 a1_7 a1_8 a1_0 (itN_ a1_0 x258001_1)) else ((runes_Kind.f k1 (itR_ a1_0 x258001_1)).bind fun t264 => (paint_Line.l0 k1 l0 x5_1 t254 (t264 != 2) ji12 a1_0 l1_1 a1_2 a1_3 a1_4 a1_5 a1_6 a1_7 a1_8 a1_0 (itN_ a1_0 x258001_1))))) else (paint_Line.l0 k1 l0 x5_1 t254 false ji12 a1_0 l1_1 a1_2 a1_3 a1_4 a1_5 a1_6 a1_7 a1_8 a1_0 (itN_ a1_0 x258001_1))) else (paint_Line.l0 k1 l0 x5_1 t254 false ji12 a1_0 l1_1 a1_2 a1_3 a1_4 a1_5 a1_6 a1_7 a1_8 a1_0 (itN_ a1_0 x258001_1))) = some r := by rw [if_neg (show ¬ (false = true) by decide)] at H; exact H
      clear H
      have H := H1
      clear H1
      by_cases c66 : x7_1 = true
      rotate_left
      · replace c66 := Bool.eq_false_iff.mpr c66
        subst c66
        have H1 : (paint_Line.l0 k1 l0 x5_1 t254 false ji12 a1_0 l1_1 a1_2 a1_3 a1_4 a1_5 a1_6 a1_7 a1_8 a1_0 (itN_ a1_0 x258001_1)) = some r := by rw [if_neg (show ¬ (false = true) by decide)] at H; exact H
        clear H
        have H := H1
        clear H1
        have H' := Aside0.mk H
        clear H
        try go_wp2_with (first | ((with_reducible refine gate_dst (N := 23) rfl ?_); refine next_yes (w0 := w) (base := w.heap.size) ?hg (N := 23) ?hd (g := gb257) (s := a1_0) (p := x258001_1) ?hx rfl ?hi ?hp ?hB ?he ?_; (case hd => rfl); (case hg => rfl); (case hx => exact z207_); (case hi => exact z122_); (case hp => exact z204_); (case hB => exact z53_); (case he => exact GW257.out); intro w122 hbox hg hb; replace HO_5 := Aside0.mk (Kd.R_mono (Kd.R_grown (iter_R z170_ z144_) hg (fun k_ hk_ e_ => hk_.2 (Option.some.inj e_))) (fun _ h_ => h_.1)); replace HO_6 := Aside0.mk (Kd.R_mono (Kd.R_grown (iter_R z171_ z144_) hg (fun k_ hk_ e_ => hk_.2 (Option.some.inj e_))) (fun _ h_ => h_.1)); replace BK253 := Aside0.mk (blk_grown (g := gb253) (o := .cells #[.string a1_0, .slice A1_1 l1_1.length c1_1, .int .i64 a1_2, .int .i64 a1_3, .int .i64 a1_4, .bool a1_5, .int .i64 a1_6, .bool a1_7, .bool a1_8] 25 (0, 0)) z143_ hg (fun e_ => NB253_257.out (Option.some.inj e_))); replace BK257 := Aside0.mk (hbox); replace HB := Aside0.mk (hb); clear hbox hb hg))
        replace HO_5 := Aside0.mk (Kd.R_drew HO_5.out)
        replace HO_6 := Aside0.mk (Kd.R_drew HO_6.out)
        replace BK253 := Aside0.mk (blk_drew BK253.out)
        replace BK257 := Aside0.mk (blk_drew BK257.out)
        replace HB := Aside0.mk (below_drew1 HB.out)
        obtain ⟨Ao124, co124, eo124⟩ := Kd.R_slice HO_6.out
        (first | subst eo124 | (injection eo124 with f1_ f2_ f3_; have f4_ := f1_.symm; have f5_ := f3_.symm; clear f1_ f2_ f3_; subst f4_; subst f5_))
        have p258 : 0 ≤ (x8_1 : Int) := of_decide_eq_true z204_
        have q258 : x8_1 < (t254.length : Int) := of_decide_eq_true z204_
        obtain ⟨ad258, e258, hx258_0, hx258_1⟩ := at_T99 (Kd.R_reads' HO_6.out).2.2 x8_1 p258 q258
        cases e258
        replace p258 := eq_true p258
        replace q258 := eq_true q258
        have p259 : 0 ≤ ((ji12) : Int) := of_decide_eq_true z204_
        have q259 : (ji12) < (t254.length : Int) := of_decide_eq_true z204_
        obtain ⟨ad259, e259, hx259_0, hx259_1⟩ := at_T99 (Kd.R_reads' HO_6.out).2.2 (ji12) p259 q259
        obtain rfl : ad258 = ad259 := (by injection e259)
        replace p259 := eq_true p259
        replace q259 := eq_true q259
        refine start_ (n := 13) (S := fun w' => w'.cell? (ad258.add ((x8_1).toNat * 2)) = some (.int .i64 ((rd_T99 t254 x8_1).f0)) ∧ w'.cell? ⟨(ad258.add ((x8_1).toNat * 2)).block, (ad258.add ((x8_1).toNat * 2)).off + 1, none⟩ = some (.int .i64 ((rd_T99 t254 x8_1).f1)) ∧ w'.cell? (ad258.add (((ji12)).toNat * 2)) = some (.int .i64 ((rd_T99 t254 (ji12)).f0)) ∧ w'.cell? ⟨(ad258.add (((ji12)).toNat * 2)).block, (ad258.add (((ji12)).toNat * 2)).off + 1, none⟩ = some (.int .i64 ((rd_T99 t254 (ji12)).f1))) (ds := []) bs1_ (by kernel_rfl) rfl rfl ⟨hx258_0, hx258_1, hx259_0, hx259_1⟩ (fun hHeld => ?_); refine with_tabW paint_Line.tab8 paint_Line.bits8 (fun HT_ HW_ => ?_)
        generalize w122.drew = w123 at HO_5 HO_6 BK253 BK257 HB hx258_0 hx258_1 hx259_0 hx259_1 hHeld ⊢
        refine p1_ 0 27 bs2_ ?_
        refine p1_ 1 28 bs3_ ?_
        refine p1_ 2 29 bs4_ ?_
        refine p1_ 4 31 bs5_ ?_
        refine p1_ 5 32 bs6_ ?_
        refine p1_ 6 33 bs7_ ?_
        refine p1_ 7 34 bs8_ ?_
        refine take_ (i := 3) (N := some 30) (v := ?_) (a' := ?_) bs9_ rfl rfl (take_ofW HT_.out HW_.out (by kernel_rfl)) (fun _ _ _ h => h) (Or.inl ⟨by rfl, ?_⟩) hHeld ?_ ?_
        rotate_left
        · rintro w' ⟨s0, s1, s2, s3⟩
          go_simp
          with_reducible rfl
        rotate_left
        · simp only [Act.put, List.setIfInBounds_toArray, List.set_cons_zero, List.set_cons_succ, i64_w, i32_w]
          rfl
        refine take_ (i := 8) (N := some 35) (v := ?_) (a' := ?_) bs10_ rfl rfl (take_ofW HT_.out HW_.out (by kernel_rfl)) (fun _ _ _ h => h) (Or.inl ⟨by rfl, ?_⟩) hHeld ?_ ?_
        rotate_left
        · rintro w' ⟨s0, s1, s2, s3⟩
          go_simp
          with_reducible rfl
        rotate_left
        · simp only [Act.put, List.setIfInBounds_toArray, List.set_cons_zero, List.set_cons_succ, i64_w, i32_w]
          rfl
        refine join_ (σ := Nat × Nat) 2 bs0_ (fun s_ => [(11, .pointer (some ⟨s_.1, 0, none⟩)), (12, .pointer (some ⟨s_.2, 0, none⟩))]) (fun s_ w' => (w'.cell? (ad258.add ((x8_1).toNat * 2)) = some (.int .i64 ((rd_T99 t254 x8_1).f0)) ∧ w'.cell? ⟨(ad258.add ((x8_1).toNat * 2)).block, (ad258.add ((x8_1).toNat * 2)).off + 1, none⟩ = some (.int .i64 ((rd_T99 t254 x8_1).f1)) ∧ w'.cell? (ad258.add (((ji12)).toNat * 2)) = some (.int .i64 ((rd_T99 t254 (ji12)).f0)) ∧ w'.cell? ⟨(ad258.add (((ji12)).toNat * 2)).block, (ad258.add (((ji12)).toNat * 2)).off + 1, none⟩ = some (.int .i64 ((rd_T99 t254 (ji12)).f1))) ∧ (Kd.R k38 38 w' w.heap.size (fun _ => True) u5 x5_1) ∧ (Kd.R k99 99 w' w.heap.size (fun k_ => k_ ≠ s_.1 ∧ k_ ≠ s_.2) (.slice (some ad258) t254.length co124) t254) ∧ (w'.heap[gb253]? = some (.cells #[.string a1_0, .slice A1_1 l1_1.length c1_1, .int .i64 a1_2, .int .i64 a1_3, .int .i64 a1_4, .bool a1_5, .int .i64 a1_6, .bool a1_7, .bool a1_8] 25 (0, 0))) ∧ (w'.heap[gb257]? = some (.stringIter a1_0 (itN_ a1_0 x258001_1 : Int).toNat)) ∧ (w'.heap[s_.1]? = some (.cells #[.int .i64 0, .int .i64 0] 99 (0, 0))) ∧ (w'.heap[s_.2]? = some (.cells #[.int .i64 0, .int .i64 0] 99 (0, 0))) ∧ (w.heap.size ≤ s_.1) ∧ (w.heap.size ≤ s_.1) ∧ (gb253 ≠ s_.1) ∧ (s_.1 ≠ gb253) ∧ (gb257 ≠ s_.1) ∧ (s_.1 ≠ gb257) ∧ (s_.2 ≠ s_.1) ∧ (s_.1 ≠ s_.2) ∧ (w.heap.size ≤ s_.2) ∧ (w.heap.size ≤ s_.2) ∧ (gb253 ≠ s_.2) ∧ (s_.2 ≠ gb253) ∧ (gb257 ≠ s_.2) ∧ (s_.2 ≠ gb257) ∧ (Below w.heap.size w w')) ?_ ?_
        rotate_left
        · intro hCont
          refine two_ (i := 9) (j := 10) (Ni := some 11) (Nj := some 12) bs11_ bs14_ rfl rfl rfl rfl (two_of HT_.out (by kernel_rfl)) (by decide) (by decide) (fun K hK => ?_) (fun K hK => ?_)
          · skip
            refine box_step ?hg (N := 11) ?hd (cs := #[.int .i64 0, .int .i64 0]) (t := 99) ?hr ?_; (case hd => rfl); (case hg => rfl); (case hr => exact z209_)
            intro gb260 hg w125 hbox hb
            have HS0_ := (hb.cell (World.block_lt_of_cell? _ _ (hHeld.1))).trans (hHeld.1)
            have HS1_ := (hb.cell (World.block_lt_of_cell? _ _ (hHeld.2.1))).trans (hHeld.2.1)
            have HS2_ := (hb.cell (World.block_lt_of_cell? _ _ (hHeld.2.2.1))).trans (hHeld.2.2.1)
            have HS3_ := (hb.cell (World.block_lt_of_cell? _ _ (hHeld.2.2.2))).trans (hHeld.2.2.2)
            replace HO_5 := Aside0.mk (Kd.R_below z170_ hb)
            replace HO_6 := Aside0.mk (Kd.R_below (Kd.R_elderB z171_ gb260 (Nat.le_of_eq hg.symm)) hb)
            have BK260 := Aside0.mk (hbox)
            have GW260 := Aside0.mk ((z39_ : w.heap.size ≤ gb260))
            have GE260 := Aside0.mk ((z39_ : w.heap.size ≤ gb260))
            replace HB := Aside0.mk (below_step z69_ hb)
            have NB253_260 := Aside0.mk ((z26_ : gb253 ≠ gb260))
            have NB260_253 := Aside0.mk ((z25_ : gb260 ≠ gb253))
            replace BK253 := Aside0.mk (blk_below (g := gb253) (o := .cells #[.string a1_0, .slice A1_1 l1_1.length c1_1, .int .i64 a1_2, .int .i64 a1_3, .int .i64 a1_4, .bool a1_5, .int .i64 a1_6, .bool a1_7, .bool a1_8] 25 (0, 0)) z143_ hb)
            have NB257_260 := Aside0.mk ((z38_ : gb257 ≠ gb260))
            have NB260_257 := Aside0.mk ((z37_ : gb260 ≠ gb257))
            replace BK257 := Aside0.mk (blk_below (g := gb257) (o := .stringIter a1_0 (itN_ a1_0 x258001_1 : Int).toNat) z144_ hb)
            clear hb hbox hg
            refine hK.out _ _ ⟨HS0_, HS1_, HS2_, HS3_⟩ (fun hHeld => ?_)
            clear hK K
            refine norm_ (a' := ?_) ?_ ?_
            rotate_left
            · show Act.put _ (some 11) _ = _
              simp only [Act.put, List.setIfInBounds_toArray, List.set_cons_zero, List.set_cons_succ, i64_w, i32_w]
              rfl
            refine one_ (i := 10) (N := some 12) bs0_ rfl rfl (one_of HT_.out (by kernel_rfl)) (by decide) (fun K hK => ?_)
            refine box_step ?hg (N := 12) ?hd (cs := #[.int .i64 0, .int .i64 0]) (t := 99) ?hr ?_; (case hd => rfl); (case hg => rfl); (case hr => exact z209_)
            intro gb261 hg w126 hbox hb
            have HS0_ := (hb.cell (World.block_lt_of_cell? _ _ (hHeld.1))).trans (hHeld.1)
            have HS1_ := (hb.cell (World.block_lt_of_cell? _ _ (hHeld.2.1))).trans (hHeld.2.1)
            have HS2_ := (hb.cell (World.block_lt_of_cell? _ _ (hHeld.2.2.1))).trans (hHeld.2.2.1)
            have HS3_ := (hb.cell (World.block_lt_of_cell? _ _ (hHeld.2.2.2))).trans (hHeld.2.2.2)
            replace HO_5 := Aside0.mk (Kd.R_below z170_ hb)
            replace HO_6 := Aside0.mk (Kd.R_below (Kd.R_elderB z171_ gb261 (Nat.le_of_eq hg.symm)) hb)
            have BK261 := Aside0.mk (hbox)
            have GW261 := Aside0.mk ((z30_ : w.heap.size ≤ gb261))
            have GE261 := Aside0.mk ((z30_ : w.heap.size ≤ gb261))
            replace HB := Aside0.mk (below_step z40_ hb)
            have NB253_261 := Aside0.mk ((z26_ : gb253 ≠ gb261))
            have NB261_253 := Aside0.mk ((z25_ : gb261 ≠ gb253))
            replace BK253 := Aside0.mk (blk_below (g := gb253) (o := .cells #[.string a1_0, .slice A1_1 l1_1.length c1_1, .int .i64 a1_2, .int .i64 a1_3, .int .i64 a1_4, .bool a1_5, .int .i64 a1_6, .bool a1_7, .bool a1_8] 25 (0, 0)) z143_ hb)
            have NB257_261 := Aside0.mk ((z38_ : gb257 ≠ gb261))
            have NB261_257 := Aside0.mk ((z37_ : gb261 ≠ gb257))
            replace BK257 := Aside0.mk (blk_below (g := gb257) (o := .stringIter a1_0 (itN_ a1_0 x258001_1 : Int).toNat) z144_ hb)
            have NB260_261 := Aside0.mk ((z44_ : gb260 ≠ gb261))
            have NB261_260 := Aside0.mk ((z42_ : gb261 ≠ gb260))
            replace BK260 := Aside0.mk (blk_below (g := gb260) (o := .cells #[.int .i64 0, .int .i64 0] 99 (0, 0)) z145_ hb)
            clear hb hbox hg
            refine hK.out _ _ ⟨HS0_, HS1_, HS2_, HS3_⟩ (fun hHeld => ?_)
            clear hK K
            refine norm_ (a' := ?_) ?_ ?_
            rotate_left
            · show Act.put _ (some 12) _ = _
              simp only [Act.put, List.setIfInBounds_toArray, List.set_cons_zero, List.set_cons_succ, i64_w, i32_w]
              rfl
            exact norm_ z177_ (hCont (gb260, gb261) _ ⟨hHeld, z170_, z108_, z143_, z144_, z145_, z146_, GW260.out, GE260.out, NB253_260.out, NB260_253.out, NB257_260.out, NB260_257.out, NB261_260.out, NB260_261.out, GW261.out, GE261.out, NB253_261.out, NB261_253.out, NB257_261.out, NB261_257.out, z32_⟩)
          · skip
            refine box_step ?hg (N := 12) ?hd (cs := #[.int .i64 0, .int .i64 0]) (t := 99) ?hr ?_; (case hd => rfl); (case hg => rfl); (case hr => exact z209_)
            intro gb261 hg w125 hbox hb
            have HS0_ := (hb.cell (World.block_lt_of_cell? _ _ (hHeld.1))).trans (hHeld.1)
            have HS1_ := (hb.cell (World.block_lt_of_cell? _ _ (hHeld.2.1))).trans (hHeld.2.1)
            have HS2_ := (hb.cell (World.block_lt_of_cell? _ _ (hHeld.2.2.1))).trans (hHeld.2.2.1)
            have HS3_ := (hb.cell (World.block_lt_of_cell? _ _ (hHeld.2.2.2))).trans (hHeld.2.2.2)
            replace HO_5 := Aside0.mk (Kd.R_below z170_ hb)
            replace HO_6 := Aside0.mk (Kd.R_below (Kd.R_elderB z171_ gb261 (Nat.le_of_eq hg.symm)) hb)
            have BK261 := Aside0.mk (hbox)
            have GW261 := Aside0.mk ((z39_ : w.heap.size ≤ gb261))
            have GE261 := Aside0.mk ((z39_ : w.heap.size ≤ gb261))
            replace HB := Aside0.mk (below_step z69_ hb)
            have NB253_261 := Aside0.mk ((z26_ : gb253 ≠ gb261))
            have NB261_253 := Aside0.mk ((z25_ : gb261 ≠ gb253))
            replace BK253 := Aside0.mk (blk_below (g := gb253) (o := .cells #[.string a1_0, .slice A1_1 l1_1.length c1_1, .int .i64 a1_2, .int .i64 a1_3, .int .i64 a1_4, .bool a1_5, .int .i64 a1_6, .bool a1_7, .bool a1_8] 25 (0, 0)) z143_ hb)
            have NB257_261 := Aside0.mk ((z38_ : gb257 ≠ gb261))
            have NB261_257 := Aside0.mk ((z37_ : gb261 ≠ gb257))
            replace BK257 := Aside0.mk (blk_below (g := gb257) (o := .stringIter a1_0 (itN_ a1_0 x258001_1 : Int).toNat) z144_ hb)
            clear hb hbox hg
            refine hK.out _ _ ⟨HS0_, HS1_, HS2_, HS3_⟩ (fun hHeld => ?_)
            clear hK K
            refine norm_ (a' := ?_) ?_ ?_
            rotate_left
            · show Act.put _ (some 12) _ = _
              simp only [Act.put, List.setIfInBounds_toArray, List.set_cons_zero, List.set_cons_succ, i64_w, i32_w]
              rfl
            refine one_ (i := 9) (N := some 11) bs0_ rfl rfl (one_of HT_.out (by kernel_rfl)) (by decide) (fun K hK => ?_)
            refine box_step ?hg (N := 11) ?hd (cs := #[.int .i64 0, .int .i64 0]) (t := 99) ?hr ?_; (case hd => rfl); (case hg => rfl); (case hr => exact z209_)
            intro gb260 hg w126 hbox hb
            have HS0_ := (hb.cell (World.block_lt_of_cell? _ _ (hHeld.1))).trans (hHeld.1)
            have HS1_ := (hb.cell (World.block_lt_of_cell? _ _ (hHeld.2.1))).trans (hHeld.2.1)
            have HS2_ := (hb.cell (World.block_lt_of_cell? _ _ (hHeld.2.2.1))).trans (hHeld.2.2.1)
            have HS3_ := (hb.cell (World.block_lt_of_cell? _ _ (hHeld.2.2.2))).trans (hHeld.2.2.2)
            replace HO_5 := Aside0.mk (Kd.R_below z170_ hb)
            replace HO_6 := Aside0.mk (Kd.R_below (Kd.R_elderB z171_ gb260 (Nat.le_of_eq hg.symm)) hb)
            have BK260 := Aside0.mk (hbox)
            have GW260 := Aside0.mk ((z31_ : w.heap.size ≤ gb260))
            have GE260 := Aside0.mk ((z31_ : w.heap.size ≤ gb260))
            replace HB := Aside0.mk (below_step z41_ hb)
            have NB253_260 := Aside0.mk ((z26_ : gb253 ≠ gb260))
            have NB260_253 := Aside0.mk ((z25_ : gb260 ≠ gb253))
            replace BK253 := Aside0.mk (blk_below (g := gb253) (o := .cells #[.string a1_0, .slice A1_1 l1_1.length c1_1, .int .i64 a1_2, .int .i64 a1_3, .int .i64 a1_4, .bool a1_5, .int .i64 a1_6, .bool a1_7, .bool a1_8] 25 (0, 0)) z143_ hb)
            have NB257_260 := Aside0.mk ((z38_ : gb257 ≠ gb260))
            have NB260_257 := Aside0.mk ((z37_ : gb260 ≠ gb257))
            replace BK257 := Aside0.mk (blk_below (g := gb257) (o := .stringIter a1_0 (itN_ a1_0 x258001_1 : Int).toNat) z144_ hb)
            have NB261_260 := Aside0.mk ((z45_ : gb261 ≠ gb260))
            have NB260_261 := Aside0.mk ((z43_ : gb260 ≠ gb261))
            replace BK261 := Aside0.mk (blk_below (g := gb261) (o := .cells #[.int .i64 0, .int .i64 0] 99 (0, 0)) z146_ hb)
            clear hb hbox hg
            refine hK.out _ _ ⟨HS0_, HS1_, HS2_, HS3_⟩ (fun hHeld => ?_)
            clear hK K
            refine norm_ (a' := ?_) ?_ ?_
            rotate_left
            · show Act.put _ (some 11) _ = _
              simp only [Act.put, List.setIfInBounds_toArray, List.set_cons_zero, List.set_cons_succ, i64_w, i32_w]
              rfl
            exact norm_ z177_ (hCont (gb260, gb261) _ ⟨hHeld, z170_, z109_, z143_, z144_, z145_, z146_, GW260.out, GE260.out, NB253_260.out, NB260_253.out, NB257_260.out, NB260_257.out, NB261_260.out, NB260_261.out, GW261.out, GE261.out, NB253_261.out, NB261_253.out, NB257_261.out, NB261_257.out, z33_⟩)
        rintro ⟨gb260, gb261⟩ w127 ⟨hS_, h0_, h1_, h2_, h3_, h4_, h5_, h6_, h7_, h8_, h9_, h10_, h11_, h12_, h13_, h14_, h15_, h16_, h17_, h18_, h19_, h20_⟩
        have n0_ : Aside0 (Kd.R k38 38 w127 w.heap.size (fun _ => True) u5 x5_1) := ⟨h0_⟩
        have n1_ : Aside0 (Kd.R k99 99 w127 w.heap.size (fun k_ => k_ ≠ gb260 ∧ k_ ≠ gb261) (.slice (some ad258) t254.length co124) t254) := ⟨h1_⟩
        have n2_ : Aside0 (w127.heap[gb253]? = some (.cells #[.string a1_0, .slice A1_1 l1_1.length c1_1, .int .i64 a1_2, .int .i64 a1_3, .int .i64 a1_4, .bool a1_5, .int .i64 a1_6, .bool a1_7, .bool a1_8] 25 (0, 0))) := ⟨h2_⟩
        have n3_ : Aside0 (w127.heap[gb257]? = some (.stringIter a1_0 (itN_ a1_0 x258001_1 : Int).toNat)) := ⟨h3_⟩
        have n4_ : Aside0 (w127.heap[gb260]? = some (.cells #[.int .i64 0, .int .i64 0] 99 (0, 0))) := ⟨h4_⟩
        have n5_ : Aside0 (w127.heap[gb261]? = some (.cells #[.int .i64 0, .int .i64 0] 99 (0, 0))) := ⟨h5_⟩
        have n6_ : Aside0 (w.heap.size ≤ gb260) := ⟨h6_⟩
        have n7_ : Aside0 (w.heap.size ≤ gb260) := ⟨h7_⟩
        have n8_ : Aside0 (gb253 ≠ gb260) := ⟨h8_⟩
        have n9_ : Aside0 (gb260 ≠ gb253) := ⟨h9_⟩
        have n10_ : Aside0 (gb257 ≠ gb260) := ⟨h10_⟩
        have n11_ : Aside0 (gb260 ≠ gb257) := ⟨h11_⟩
        have n12_ : Aside0 (gb261 ≠ gb260) := ⟨h12_⟩
        have n13_ : Aside0 (gb260 ≠ gb261) := ⟨h13_⟩
        have n14_ : Aside0 (w.heap.size ≤ gb261) := ⟨h14_⟩
        have n15_ : Aside0 (w.heap.size ≤ gb261) := ⟨h15_⟩
        have n16_ : Aside0 (gb253 ≠ gb261) := ⟨h16_⟩
        have n17_ : Aside0 (gb261 ≠ gb253) := ⟨h17_⟩
        have n18_ : Aside0 (gb257 ≠ gb261) := ⟨h18_⟩
        have n19_ : Aside0 (gb261 ≠ gb257) := ⟨h19_⟩
        have n20_ : Aside0 (Below w.heap.size w w127) := ⟨h20_⟩
        clear HO_5
        clear HO_6
        clear BK253
        clear BK257
        clear HB
        clear h0_ h1_ h2_ h3_ h4_ h5_ h6_ h7_ h8_ h9_ h10_ h11_ h12_ h13_ h14_ h15_ h16_ h17_ h18_ h19_ h20_
        have HO_5 := n0_
        have HO_6 := n1_
        have BK253 := n2_
        have BK257 := n3_
        have BK260 := n4_
        have BK261 := n5_
        have GW260 := n6_
        have GE260 := n7_
        have NB253_260 := n8_
        have NB260_253 := n9_
        have NB257_260 := n10_
        have NB260_257 := n11_
        have NB261_260 := n12_
        have NB260_261 := n13_
        have GW261 := n14_
        have GE261 := n15_
        have NB253_261 := n16_
        have NB261_253 := n17_
        have NB257_261 := n18_
        have NB261_257 := n19_
        have HB := n20_
        clear n0_ n1_ n2_ n3_ n4_ n5_ n6_ n7_ n8_ n9_ n10_ n11_ n12_ n13_ n14_ n15_ n16_ n17_ n18_ n19_ n20_
        have hHeld : w127.cell? (ad258.add ((x8_1).toNat * 2)) = some (.int .i64 ((rd_T99 t254 x8_1).f0)) ∧ w127.cell? ⟨(ad258.add ((x8_1).toNat * 2)).block, (ad258.add ((x8_1).toNat * 2)).off + 1, none⟩ = some (.int .i64 ((rd_T99 t254 x8_1).f1)) ∧ w127.cell? (ad258.add (((ji12)).toNat * 2)) = some (.int .i64 ((rd_T99 t254 (ji12)).f0)) ∧ w127.cell? ⟨(ad258.add (((ji12)).toNat * 2)).block, (ad258.add (((ji12)).toNat * 2)).off + 1, none⟩ = some (.int .i64 ((rd_T99 t254 (ji12)).f1)) := hS_
        refine norm_ (a' := ?_) ?_ ?_
        rotate_left
        · simp only [putAll, Act.put, List.setIfInBounds_toArray, List.set_cons_zero, List.set_cons_succ]
          rfl
        refine one_ (i := 11) (N := none) bs12_ rfl rfl (one_of HT_.out (by kernel_rfl)) (by decide) (fun K hK => ?_)
        have hs128 : w127.cell? ⟨gb260, 0, none⟩ = some (.int .i64 0) := (blk_cell BK260.out 0).trans z198_
        have hfs128 := blk_frozen BK260.out 0
        have hns128_0 := NB253_260.out
        have hns128_1 := NB257_260.out
        have hns128_3 := NB261_260.out
        have hms128_0 := NB260_253.out
        have hms128_1 := NB260_257.out
        have hms128_3 := NB260_261.out
        have hs129 : w127.cell? ⟨gb260, 1, none⟩ = some (.int .i64 0) := (blk_cell BK260.out 1).trans z198_
        have hfs129 := blk_frozen BK260.out 1
        have hns129_0 := NB253_260.out
        have hns129_1 := NB257_260.out
        have hns129_3 := NB261_260.out
        have hms129_0 := NB260_253.out
        have hms129_1 := NB260_257.out
        have hms129_3 := NB260_261.out
        refine skip_ (w1 := ?_) (by rfl) rfl ?_ ?_
        rotate_left
        · go_simp
          rfl
        refine hK.out _ _ ⟨((cell_far (p := ⟨gb260, _, none⟩) z27_ _).trans (((cell_far (p := ⟨gb260, _, none⟩) z27_ _).trans (hHeld.1)))), ((cell_far (p := ⟨gb260, _, none⟩) z27_ _).trans (((cell_far (p := ⟨gb260, _, none⟩) z27_ _).trans (hHeld.2.1)))), ((cell_far (p := ⟨gb260, _, none⟩) z27_ _).trans (((cell_far (p := ⟨gb260, _, none⟩) z27_ _).trans (hHeld.2.2.1)))), ((cell_far (p := ⟨gb260, _, none⟩) z27_ _).trans (((cell_far (p := ⟨gb260, _, none⟩) z27_ _).trans (hHeld.2.2.2))))⟩ (fun hHeld => ?_)
        clear hK K
        refine one_ (i := 12) (N := none) bs13_ rfl rfl (one_of HT_.out (by kernel_rfl)) (by decide) (fun K hK => ?_)
        have hs130 : w127.cell? ⟨gb261, 0, none⟩ = some (.int .i64 0) := (blk_cell BK261.out 0).trans z198_
        have hfs130 := blk_frozen BK261.out 0
        have hns130_0 := NB253_261.out
        have hns130_1 := NB257_261.out
        have hns130_2 := NB260_261.out
        have hms130_0 := NB261_253.out
        have hms130_1 := NB261_257.out
        have hms130_2 := NB261_260.out
        have hs131 : w127.cell? ⟨gb261, 1, none⟩ = some (.int .i64 0) := (blk_cell BK261.out 1).trans z198_
        have hfs131 := blk_frozen BK261.out 1
        have hns131_0 := NB253_261.out
        have hns131_1 := NB257_261.out
        have hns131_2 := NB260_261.out
        have hms131_0 := NB261_253.out
        have hms131_1 := NB261_257.out
        have hms131_2 := NB261_260.out
        refine skip_ (w1 := ?_) (by rfl) rfl ?_ ?_
        rotate_left
        · go_simp
          rfl
        refine hK.out _ _ ⟨((cell_far (p := ⟨gb261, _, none⟩) z28_ _).trans (((cell_far (p := ⟨gb261, _, none⟩) z28_ _).trans (hHeld.1)))), ((cell_far (p := ⟨gb261, _, none⟩) z28_ _).trans (((cell_far (p := ⟨gb261, _, none⟩) z28_ _).trans (hHeld.2.1)))), ((cell_far (p := ⟨gb261, _, none⟩) z28_ _).trans (((cell_far (p := ⟨gb261, _, none⟩) z28_ _).trans (hHeld.2.2.1)))), ((cell_far (p := ⟨gb261, _, none⟩) z28_ _).trans (((cell_far (p := ⟨gb261, _, none⟩) z28_ _).trans (hHeld.2.2.2))))⟩ (fun hHeld => ?_)
        clear hK K
        refine done_ (done_of HT_.out (by kernel_rfl)) ?_
        try go_wp2_with (first | ((with_reducible refine gate_callee (f := 42) rfl ?_); refine goesL_ (some 39) rfl rfl Try.func42 (by kernel_rfl) rfl #[.int .i32 (itR_ a1_0 x258001_1)] rfl z113_ ?_; (with_reducible refine (paint_drawn.calls k1 (itR_ a1_0 x258001_1) false _ A15.out).mono ?_); rintro e w' ⟨rfl, ⟨nd, rfl⟩⟩; refine ⟨_, rfl, ?_⟩))
        first | go_roundg k1 | (rw [← hji12]; go_roundg k1)
        case measure => have := HK1.out; omega
        case rel => exact ⟨(x5_1), (false), (ji12), (itN_ a1_0 x258001_1), z208_, z180_, z191_, ⟨z218_⟩, ⟨z11_⟩, ⟨z10_⟩, ⟨z7_⟩, ⟨z8_⟩, ⟨z32_⟩⟩
      subst c66
      have H1 : (if ((rd_T99 t254 (ji12)).f1) = ((rd_T99 t254 x8_1).f1) then ((runes_Kind.f k1 (itR_ a1_0 x258001_1)).bind fun t263 => (if t263 = 1 then (paint_Line.l0 k1 l0 x5_1 t254 false ji12 a1_0 l1_1 a1_2 a1_3 a1_4 a1_5 a1_6 a1_7 a1_8 a1_0 (itN_ a1_0 x258001_1)) else ((runes_Kind.f k1 (itR_ a1_0 x258001_1)).bind fun t264 => (paint_Line.l0 k1 l0 x5_1 t254 (t264 != 2) ji12 a1_0 l1_1 a1_2 a1_3 a1_4 a1_5 a1_6 a1_7 a1_8 a1_0 (itN_ a1_0 x258001_1))))) else (paint_Line.l0 k1 l0 x5_1 t254 false ji12 a1_0 l1_1 a1_2 a1_3 a1_4 a1_5 a1_6 a1_7 a1_8 a1_0 (itN_ a1_0 x258001_1))) = some r := by rw [if_pos rfl] at H; exact H
      clear H
      have H := H1
      clear H1
      by_cases c67 : ((rd_T99 t254 (ji12)).f1) = ((rd_T99 t254 x8_1).f1)
      rotate_left
      · rw [if_neg c67] at H
        have c67b0 : (((rd_T99 t254 (ji12)).f1) == ((rd_T99 t254 x8_1).f1)) = false := beq_eq_false_iff_ne.mpr c67
        have c67b1 : (((rd_T99 t254 (ji12)).f1) != ((rd_T99 t254 x8_1).f1)) = true := bne_iff_ne.mpr c67
        have H' := Aside0.mk H
        clear H
        try go_wp2_with (first | ((with_reducible refine gate_dst (N := 23) rfl ?_); refine next_yes (w0 := w) (base := w.heap.size) ?hg (N := 23) ?hd (g := gb257) (s := a1_0) (p := x258001_1) ?hx rfl ?hi ?hp ?hB ?he ?_; (case hd => rfl); (case hg => rfl); (case hx => exact z207_); (case hi => exact z122_); (case hp => exact z204_); (case hB => exact z53_); (case he => exact GW257.out); intro w105 hbox hg hb; replace HO_5 := Aside0.mk (Kd.R_mono (Kd.R_grown (iter_R z170_ z144_) hg (fun k_ hk_ e_ => hk_.2 (Option.some.inj e_))) (fun _ h_ => h_.1)); replace HO_6 := Aside0.mk (Kd.R_mono (Kd.R_grown (iter_R z171_ z144_) hg (fun k_ hk_ e_ => hk_.2 (Option.some.inj e_))) (fun _ h_ => h_.1)); replace BK253 := Aside0.mk (blk_grown (g := gb253) (o := .cells #[.string a1_0, .slice A1_1 l1_1.length c1_1, .int .i64 a1_2, .int .i64 a1_3, .int .i64 a1_4, .bool a1_5, .int .i64 a1_6, .bool a1_7, .bool a1_8] 25 (0, 0)) z143_ hg (fun e_ => NB253_257.out (Option.some.inj e_))); replace BK257 := Aside0.mk (hbox); replace HB := Aside0.mk (hb); clear hbox hb hg))
        replace HO_5 := Aside0.mk (Kd.R_drew HO_5.out)
        replace HO_6 := Aside0.mk (Kd.R_drew HO_6.out)
        replace BK253 := Aside0.mk (blk_drew BK253.out)
        replace BK257 := Aside0.mk (blk_drew BK257.out)
        replace HB := Aside0.mk (below_drew1 HB.out)
        obtain ⟨Ao107, co107, eo107⟩ := Kd.R_slice HO_6.out
        (first | subst eo107 | (injection eo107 with f1_ f2_ f3_; have f4_ := f1_.symm; have f5_ := f3_.symm; clear f1_ f2_ f3_; subst f4_; subst f5_))
        have p258 : 0 ≤ (x8_1 : Int) := of_decide_eq_true z204_
        have q258 : x8_1 < (t254.length : Int) := of_decide_eq_true z204_
        obtain ⟨ad258, e258, hx258_0, hx258_1⟩ := at_T99 (Kd.R_reads' HO_6.out).2.2 x8_1 p258 q258
        cases e258
        replace p258 := eq_true p258
        replace q258 := eq_true q258
        have p259 : 0 ≤ ((ji12) : Int) := of_decide_eq_true z204_
        have q259 : (ji12) < (t254.length : Int) := of_decide_eq_true z204_
        obtain ⟨ad259, e259, hx259_0, hx259_1⟩ := at_T99 (Kd.R_reads' HO_6.out).2.2 (ji12) p259 q259
        obtain rfl : ad258 = ad259 := (by injection e259)
        replace p259 := eq_true p259
        replace q259 := eq_true q259
        refine start_ (n := 13) (S := fun w' => w'.cell? (ad258.add ((x8_1).toNat * 2)) = some (.int .i64 ((rd_T99 t254 x8_1).f0)) ∧ w'.cell? ⟨(ad258.add ((x8_1).toNat * 2)).block, (ad258.add ((x8_1).toNat * 2)).off + 1, none⟩ = some (.int .i64 ((rd_T99 t254 x8_1).f1)) ∧ w'.cell? (ad258.add (((ji12)).toNat * 2)) = some (.int .i64 ((rd_T99 t254 (ji12)).f0)) ∧ w'.cell? ⟨(ad258.add (((ji12)).toNat * 2)).block, (ad258.add (((ji12)).toNat * 2)).off + 1, none⟩ = some (.int .i64 ((rd_T99 t254 (ji12)).f1))) (ds := []) bs1_ (by kernel_rfl) rfl rfl ⟨hx258_0, hx258_1, hx259_0, hx259_1⟩ (fun hHeld => ?_); refine with_tabW paint_Line.tab8 paint_Line.bits8 (fun HT_ HW_ => ?_)
        generalize w105.drew = w106 at HO_5 HO_6 BK253 BK257 HB hx258_0 hx258_1 hx259_0 hx259_1 hHeld ⊢
        refine p1_ 0 27 bs2_ ?_
        refine p1_ 1 28 bs3_ ?_
        refine p1_ 2 29 bs4_ ?_
        refine p1_ 4 31 bs5_ ?_
        refine p1_ 5 32 bs6_ ?_
        refine p1_ 6 33 bs7_ ?_
        refine p1_ 7 34 bs8_ ?_
        refine take_ (i := 3) (N := some 30) (v := ?_) (a' := ?_) bs9_ rfl rfl (take_ofW HT_.out HW_.out (by kernel_rfl)) (fun _ _ _ h => h) (Or.inl ⟨by rfl, ?_⟩) hHeld ?_ ?_
        rotate_left
        · rintro w' ⟨s0, s1, s2, s3⟩
          go_simp
          with_reducible rfl
        rotate_left
        · simp only [Act.put, List.setIfInBounds_toArray, List.set_cons_zero, List.set_cons_succ, i64_w, i32_w]
          rfl
        refine take_ (i := 8) (N := some 35) (v := ?_) (a' := ?_) bs10_ rfl rfl (take_ofW HT_.out HW_.out (by kernel_rfl)) (fun _ _ _ h => h) (Or.inl ⟨by rfl, ?_⟩) hHeld ?_ ?_
        rotate_left
        · rintro w' ⟨s0, s1, s2, s3⟩
          go_simp
          with_reducible rfl
        rotate_left
        · simp only [Act.put, List.setIfInBounds_toArray, List.set_cons_zero, List.set_cons_succ, i64_w, i32_w]
          rfl
        refine join_ (σ := Nat × Nat) 2 bs0_ (fun s_ => [(11, .pointer (some ⟨s_.1, 0, none⟩)), (12, .pointer (some ⟨s_.2, 0, none⟩))]) (fun s_ w' => (w'.cell? (ad258.add ((x8_1).toNat * 2)) = some (.int .i64 ((rd_T99 t254 x8_1).f0)) ∧ w'.cell? ⟨(ad258.add ((x8_1).toNat * 2)).block, (ad258.add ((x8_1).toNat * 2)).off + 1, none⟩ = some (.int .i64 ((rd_T99 t254 x8_1).f1)) ∧ w'.cell? (ad258.add (((ji12)).toNat * 2)) = some (.int .i64 ((rd_T99 t254 (ji12)).f0)) ∧ w'.cell? ⟨(ad258.add (((ji12)).toNat * 2)).block, (ad258.add (((ji12)).toNat * 2)).off + 1, none⟩ = some (.int .i64 ((rd_T99 t254 (ji12)).f1))) ∧ (Kd.R k38 38 w' w.heap.size (fun _ => True) u5 x5_1) ∧ (Kd.R k99 99 w' w.heap.size (fun k_ => k_ ≠ s_.1 ∧ k_ ≠ s_.2) (.slice (some ad258) t254.length co107) t254) ∧ (w'.heap[gb253]? = some (.cells #[.string a1_0, .slice A1_1 l1_1.length c1_1, .int .i64 a1_2, .int .i64 a1_3, .int .i64 a1_4, .bool a1_5, .int .i64 a1_6, .bool a1_7, .bool a1_8] 25 (0, 0))) ∧ (w'.heap[gb257]? = some (.stringIter a1_0 (itN_ a1_0 x258001_1 : Int).toNat)) ∧ (w'.heap[s_.1]? = some (.cells #[.int .i64 0, .int .i64 0] 99 (0, 0))) ∧ (w'.heap[s_.2]? = some (.cells #[.int .i64 0, .int .i64 0] 99 (0, 0))) ∧ (w.heap.size ≤ s_.1) ∧ (w.heap.size ≤ s_.1) ∧ (gb253 ≠ s_.1) ∧ (s_.1 ≠ gb253) ∧ (gb257 ≠ s_.1) ∧ (s_.1 ≠ gb257) ∧ (s_.2 ≠ s_.1) ∧ (s_.1 ≠ s_.2) ∧ (w.heap.size ≤ s_.2) ∧ (w.heap.size ≤ s_.2) ∧ (gb253 ≠ s_.2) ∧ (s_.2 ≠ gb253) ∧ (gb257 ≠ s_.2) ∧ (s_.2 ≠ gb257) ∧ (Below w.heap.size w w')) ?_ ?_
        rotate_left
        · intro hCont
          refine two_ (i := 9) (j := 10) (Ni := some 11) (Nj := some 12) bs11_ bs14_ rfl rfl rfl rfl (two_of HT_.out (by kernel_rfl)) (by decide) (by decide) (fun K hK => ?_) (fun K hK => ?_)
          · skip
            refine box_step ?hg (N := 11) ?hd (cs := #[.int .i64 0, .int .i64 0]) (t := 99) ?hr ?_; (case hd => rfl); (case hg => rfl); (case hr => exact z209_)
            intro gb260 hg w108 hbox hb
            have HS0_ := (hb.cell (World.block_lt_of_cell? _ _ (hHeld.1))).trans (hHeld.1)
            have HS1_ := (hb.cell (World.block_lt_of_cell? _ _ (hHeld.2.1))).trans (hHeld.2.1)
            have HS2_ := (hb.cell (World.block_lt_of_cell? _ _ (hHeld.2.2.1))).trans (hHeld.2.2.1)
            have HS3_ := (hb.cell (World.block_lt_of_cell? _ _ (hHeld.2.2.2))).trans (hHeld.2.2.2)
            replace HO_5 := Aside0.mk (Kd.R_below z170_ hb)
            replace HO_6 := Aside0.mk (Kd.R_below (Kd.R_elderB z171_ gb260 (Nat.le_of_eq hg.symm)) hb)
            have BK260 := Aside0.mk (hbox)
            have GW260 := Aside0.mk ((z39_ : w.heap.size ≤ gb260))
            have GE260 := Aside0.mk ((z39_ : w.heap.size ≤ gb260))
            replace HB := Aside0.mk (below_step z69_ hb)
            have NB253_260 := Aside0.mk ((z26_ : gb253 ≠ gb260))
            have NB260_253 := Aside0.mk ((z25_ : gb260 ≠ gb253))
            replace BK253 := Aside0.mk (blk_below (g := gb253) (o := .cells #[.string a1_0, .slice A1_1 l1_1.length c1_1, .int .i64 a1_2, .int .i64 a1_3, .int .i64 a1_4, .bool a1_5, .int .i64 a1_6, .bool a1_7, .bool a1_8] 25 (0, 0)) z143_ hb)
            have NB257_260 := Aside0.mk ((z38_ : gb257 ≠ gb260))
            have NB260_257 := Aside0.mk ((z37_ : gb260 ≠ gb257))
            replace BK257 := Aside0.mk (blk_below (g := gb257) (o := .stringIter a1_0 (itN_ a1_0 x258001_1 : Int).toNat) z144_ hb)
            clear hb hbox hg
            refine hK.out _ _ ⟨HS0_, HS1_, HS2_, HS3_⟩ (fun hHeld => ?_)
            clear hK K
            refine norm_ (a' := ?_) ?_ ?_
            rotate_left
            · show Act.put _ (some 11) _ = _
              simp only [Act.put, List.setIfInBounds_toArray, List.set_cons_zero, List.set_cons_succ, i64_w, i32_w]
              rfl
            refine one_ (i := 10) (N := some 12) bs0_ rfl rfl (one_of HT_.out (by kernel_rfl)) (by decide) (fun K hK => ?_)
            refine box_step ?hg (N := 12) ?hd (cs := #[.int .i64 0, .int .i64 0]) (t := 99) ?hr ?_; (case hd => rfl); (case hg => rfl); (case hr => exact z209_)
            intro gb261 hg w109 hbox hb
            have HS0_ := (hb.cell (World.block_lt_of_cell? _ _ (hHeld.1))).trans (hHeld.1)
            have HS1_ := (hb.cell (World.block_lt_of_cell? _ _ (hHeld.2.1))).trans (hHeld.2.1)
            have HS2_ := (hb.cell (World.block_lt_of_cell? _ _ (hHeld.2.2.1))).trans (hHeld.2.2.1)
            have HS3_ := (hb.cell (World.block_lt_of_cell? _ _ (hHeld.2.2.2))).trans (hHeld.2.2.2)
            replace HO_5 := Aside0.mk (Kd.R_below z170_ hb)
            replace HO_6 := Aside0.mk (Kd.R_below (Kd.R_elderB z171_ gb261 (Nat.le_of_eq hg.symm)) hb)
            have BK261 := Aside0.mk (hbox)
            have GW261 := Aside0.mk ((z30_ : w.heap.size ≤ gb261))
            have GE261 := Aside0.mk ((z30_ : w.heap.size ≤ gb261))
            replace HB := Aside0.mk (below_step z40_ hb)
            have NB253_261 := Aside0.mk ((z26_ : gb253 ≠ gb261))
            have NB261_253 := Aside0.mk ((z25_ : gb261 ≠ gb253))
            replace BK253 := Aside0.mk (blk_below (g := gb253) (o := .cells #[.string a1_0, .slice A1_1 l1_1.length c1_1, .int .i64 a1_2, .int .i64 a1_3, .int .i64 a1_4, .bool a1_5, .int .i64 a1_6, .bool a1_7, .bool a1_8] 25 (0, 0)) z143_ hb)
            have NB257_261 := Aside0.mk ((z38_ : gb257 ≠ gb261))
            have NB261_257 := Aside0.mk ((z37_ : gb261 ≠ gb257))
            replace BK257 := Aside0.mk (blk_below (g := gb257) (o := .stringIter a1_0 (itN_ a1_0 x258001_1 : Int).toNat) z144_ hb)
            have NB260_261 := Aside0.mk ((z44_ : gb260 ≠ gb261))
            have NB261_260 := Aside0.mk ((z42_ : gb261 ≠ gb260))
            replace BK260 := Aside0.mk (blk_below (g := gb260) (o := .cells #[.int .i64 0, .int .i64 0] 99 (0, 0)) z145_ hb)
            clear hb hbox hg
            refine hK.out _ _ ⟨HS0_, HS1_, HS2_, HS3_⟩ (fun hHeld => ?_)
            clear hK K
            refine norm_ (a' := ?_) ?_ ?_
            rotate_left
            · show Act.put _ (some 12) _ = _
              simp only [Act.put, List.setIfInBounds_toArray, List.set_cons_zero, List.set_cons_succ, i64_w, i32_w]
              rfl
            exact norm_ z177_ (hCont (gb260, gb261) _ ⟨hHeld, z170_, z108_, z143_, z144_, z145_, z146_, GW260.out, GE260.out, NB253_260.out, NB260_253.out, NB257_260.out, NB260_257.out, NB261_260.out, NB260_261.out, GW261.out, GE261.out, NB253_261.out, NB261_253.out, NB257_261.out, NB261_257.out, z32_⟩)
          · skip
            refine box_step ?hg (N := 12) ?hd (cs := #[.int .i64 0, .int .i64 0]) (t := 99) ?hr ?_; (case hd => rfl); (case hg => rfl); (case hr => exact z209_)
            intro gb261 hg w108 hbox hb
            have HS0_ := (hb.cell (World.block_lt_of_cell? _ _ (hHeld.1))).trans (hHeld.1)
            have HS1_ := (hb.cell (World.block_lt_of_cell? _ _ (hHeld.2.1))).trans (hHeld.2.1)
            have HS2_ := (hb.cell (World.block_lt_of_cell? _ _ (hHeld.2.2.1))).trans (hHeld.2.2.1)
            have HS3_ := (hb.cell (World.block_lt_of_cell? _ _ (hHeld.2.2.2))).trans (hHeld.2.2.2)
            replace HO_5 := Aside0.mk (Kd.R_below z170_ hb)
            replace HO_6 := Aside0.mk (Kd.R_below (Kd.R_elderB z171_ gb261 (Nat.le_of_eq hg.symm)) hb)
            have BK261 := Aside0.mk (hbox)
            have GW261 := Aside0.mk ((z39_ : w.heap.size ≤ gb261))
            have GE261 := Aside0.mk ((z39_ : w.heap.size ≤ gb261))
            replace HB := Aside0.mk (below_step z69_ hb)
            have NB253_261 := Aside0.mk ((z26_ : gb253 ≠ gb261))
            have NB261_253 := Aside0.mk ((z25_ : gb261 ≠ gb253))
            replace BK253 := Aside0.mk (blk_below (g := gb253) (o := .cells #[.string a1_0, .slice A1_1 l1_1.length c1_1, .int .i64 a1_2, .int .i64 a1_3, .int .i64 a1_4, .bool a1_5, .int .i64 a1_6, .bool a1_7, .bool a1_8] 25 (0, 0)) z143_ hb)
            have NB257_261 := Aside0.mk ((z38_ : gb257 ≠ gb261))
            have NB261_257 := Aside0.mk ((z37_ : gb261 ≠ gb257))
            replace BK257 := Aside0.mk (blk_below (g := gb257) (o := .stringIter a1_0 (itN_ a1_0 x258001_1 : Int).toNat) z144_ hb)
            clear hb hbox hg
            refine hK.out _ _ ⟨HS0_, HS1_, HS2_, HS3_⟩ (fun hHeld => ?_)
            clear hK K
            refine norm_ (a' := ?_) ?_ ?_
            rotate_left
            · show Act.put _ (some 12) _ = _
              simp only [Act.put, List.setIfInBounds_toArray, List.set_cons_zero, List.set_cons_succ, i64_w, i32_w]
              rfl
            refine one_ (i := 9) (N := some 11) bs0_ rfl rfl (one_of HT_.out (by kernel_rfl)) (by decide) (fun K hK => ?_)
            refine box_step ?hg (N := 11) ?hd (cs := #[.int .i64 0, .int .i64 0]) (t := 99) ?hr ?_; (case hd => rfl); (case hg => rfl); (case hr => exact z209_)
            intro gb260 hg w109 hbox hb
            have HS0_ := (hb.cell (World.block_lt_of_cell? _ _ (hHeld.1))).trans (hHeld.1)
            have HS1_ := (hb.cell (World.block_lt_of_cell? _ _ (hHeld.2.1))).trans (hHeld.2.1)
            have HS2_ := (hb.cell (World.block_lt_of_cell? _ _ (hHeld.2.2.1))).trans (hHeld.2.2.1)
            have HS3_ := (hb.cell (World.block_lt_of_cell? _ _ (hHeld.2.2.2))).trans (hHeld.2.2.2)
            replace HO_5 := Aside0.mk (Kd.R_below z170_ hb)
            replace HO_6 := Aside0.mk (Kd.R_below (Kd.R_elderB z171_ gb260 (Nat.le_of_eq hg.symm)) hb)
            have BK260 := Aside0.mk (hbox)
            have GW260 := Aside0.mk ((z31_ : w.heap.size ≤ gb260))
            have GE260 := Aside0.mk ((z31_ : w.heap.size ≤ gb260))
            replace HB := Aside0.mk (below_step z41_ hb)
            have NB253_260 := Aside0.mk ((z26_ : gb253 ≠ gb260))
            have NB260_253 := Aside0.mk ((z25_ : gb260 ≠ gb253))
            replace BK253 := Aside0.mk (blk_below (g := gb253) (o := .cells #[.string a1_0, .slice A1_1 l1_1.length c1_1, .int .i64 a1_2, .int .i64 a1_3, .int .i64 a1_4, .bool a1_5, .int .i64 a1_6, .bool a1_7, .bool a1_8] 25 (0, 0)) z143_ hb)
            have NB257_260 := Aside0.mk ((z38_ : gb257 ≠ gb260))
            have NB260_257 := Aside0.mk ((z37_ : gb260 ≠ gb257))
            replace BK257 := Aside0.mk (blk_below (g := gb257) (o := .stringIter a1_0 (itN_ a1_0 x258001_1 : Int).toNat) z144_ hb)
            have NB261_260 := Aside0.mk ((z45_ : gb261 ≠ gb260))
            have NB260_261 := Aside0.mk ((z43_ : gb260 ≠ gb261))
            replace BK261 := Aside0.mk (blk_below (g := gb261) (o := .cells #[.int .i64 0, .int .i64 0] 99 (0, 0)) z146_ hb)
            clear hb hbox hg
            refine hK.out _ _ ⟨HS0_, HS1_, HS2_, HS3_⟩ (fun hHeld => ?_)
            clear hK K
            refine norm_ (a' := ?_) ?_ ?_
            rotate_left
            · show Act.put _ (some 11) _ = _
              simp only [Act.put, List.setIfInBounds_toArray, List.set_cons_zero, List.set_cons_succ, i64_w, i32_w]
              rfl
            exact norm_ z177_ (hCont (gb260, gb261) _ ⟨hHeld, z170_, z109_, z143_, z144_, z145_, z146_, GW260.out, GE260.out, NB253_260.out, NB260_253.out, NB257_260.out, NB260_257.out, NB261_260.out, NB260_261.out, GW261.out, GE261.out, NB253_261.out, NB261_253.out, NB257_261.out, NB261_257.out, z33_⟩)
        rintro ⟨gb260, gb261⟩ w110 ⟨hS_, h0_, h1_, h2_, h3_, h4_, h5_, h6_, h7_, h8_, h9_, h10_, h11_, h12_, h13_, h14_, h15_, h16_, h17_, h18_, h19_, h20_⟩
        have n0_ : Aside0 (Kd.R k38 38 w110 w.heap.size (fun _ => True) u5 x5_1) := ⟨h0_⟩
        have n1_ : Aside0 (Kd.R k99 99 w110 w.heap.size (fun k_ => k_ ≠ gb260 ∧ k_ ≠ gb261) (.slice (some ad258) t254.length co107) t254) := ⟨h1_⟩
        have n2_ : Aside0 (w110.heap[gb253]? = some (.cells #[.string a1_0, .slice A1_1 l1_1.length c1_1, .int .i64 a1_2, .int .i64 a1_3, .int .i64 a1_4, .bool a1_5, .int .i64 a1_6, .bool a1_7, .bool a1_8] 25 (0, 0))) := ⟨h2_⟩
        have n3_ : Aside0 (w110.heap[gb257]? = some (.stringIter a1_0 (itN_ a1_0 x258001_1 : Int).toNat)) := ⟨h3_⟩
        have n4_ : Aside0 (w110.heap[gb260]? = some (.cells #[.int .i64 0, .int .i64 0] 99 (0, 0))) := ⟨h4_⟩
        have n5_ : Aside0 (w110.heap[gb261]? = some (.cells #[.int .i64 0, .int .i64 0] 99 (0, 0))) := ⟨h5_⟩
        have n6_ : Aside0 (w.heap.size ≤ gb260) := ⟨h6_⟩
        have n7_ : Aside0 (w.heap.size ≤ gb260) := ⟨h7_⟩
        have n8_ : Aside0 (gb253 ≠ gb260) := ⟨h8_⟩
        have n9_ : Aside0 (gb260 ≠ gb253) := ⟨h9_⟩
        have n10_ : Aside0 (gb257 ≠ gb260) := ⟨h10_⟩
        have n11_ : Aside0 (gb260 ≠ gb257) := ⟨h11_⟩
        have n12_ : Aside0 (gb261 ≠ gb260) := ⟨h12_⟩
        have n13_ : Aside0 (gb260 ≠ gb261) := ⟨h13_⟩
        have n14_ : Aside0 (w.heap.size ≤ gb261) := ⟨h14_⟩
        have n15_ : Aside0 (w.heap.size ≤ gb261) := ⟨h15_⟩
        have n16_ : Aside0 (gb253 ≠ gb261) := ⟨h16_⟩
        have n17_ : Aside0 (gb261 ≠ gb253) := ⟨h17_⟩
        have n18_ : Aside0 (gb257 ≠ gb261) := ⟨h18_⟩
        have n19_ : Aside0 (gb261 ≠ gb257) := ⟨h19_⟩
        have n20_ : Aside0 (Below w.heap.size w w110) := ⟨h20_⟩
        clear HO_5
        clear HO_6
        clear BK253
        clear BK257
        clear HB
        clear h0_ h1_ h2_ h3_ h4_ h5_ h6_ h7_ h8_ h9_ h10_ h11_ h12_ h13_ h14_ h15_ h16_ h17_ h18_ h19_ h20_
        have HO_5 := n0_
        have HO_6 := n1_
        have BK253 := n2_
        have BK257 := n3_
        have BK260 := n4_
        have BK261 := n5_
        have GW260 := n6_
        have GE260 := n7_
        have NB253_260 := n8_
        have NB260_253 := n9_
        have NB257_260 := n10_
        have NB260_257 := n11_
        have NB261_260 := n12_
        have NB260_261 := n13_
        have GW261 := n14_
        have GE261 := n15_
        have NB253_261 := n16_
        have NB261_253 := n17_
        have NB257_261 := n18_
        have NB261_257 := n19_
        have HB := n20_
        clear n0_ n1_ n2_ n3_ n4_ n5_ n6_ n7_ n8_ n9_ n10_ n11_ n12_ n13_ n14_ n15_ n16_ n17_ n18_ n19_ n20_
        have hHeld : w110.cell? (ad258.add ((x8_1).toNat * 2)) = some (.int .i64 ((rd_T99 t254 x8_1).f0)) ∧ w110.cell? ⟨(ad258.add ((x8_1).toNat * 2)).block, (ad258.add ((x8_1).toNat * 2)).off + 1, none⟩ = some (.int .i64 ((rd_T99 t254 x8_1).f1)) ∧ w110.cell? (ad258.add (((ji12)).toNat * 2)) = some (.int .i64 ((rd_T99 t254 (ji12)).f0)) ∧ w110.cell? ⟨(ad258.add (((ji12)).toNat * 2)).block, (ad258.add (((ji12)).toNat * 2)).off + 1, none⟩ = some (.int .i64 ((rd_T99 t254 (ji12)).f1)) := hS_
        refine norm_ (a' := ?_) ?_ ?_
        rotate_left
        · simp only [putAll, Act.put, List.setIfInBounds_toArray, List.set_cons_zero, List.set_cons_succ]
          rfl
        refine one_ (i := 11) (N := none) bs12_ rfl rfl (one_of HT_.out (by kernel_rfl)) (by decide) (fun K hK => ?_)
        have hs111 : w110.cell? ⟨gb260, 0, none⟩ = some (.int .i64 0) := (blk_cell BK260.out 0).trans z198_
        have hfs111 := blk_frozen BK260.out 0
        have hns111_0 := NB253_260.out
        have hns111_1 := NB257_260.out
        have hns111_3 := NB261_260.out
        have hms111_0 := NB260_253.out
        have hms111_1 := NB260_257.out
        have hms111_3 := NB260_261.out
        have hs112 : w110.cell? ⟨gb260, 1, none⟩ = some (.int .i64 0) := (blk_cell BK260.out 1).trans z198_
        have hfs112 := blk_frozen BK260.out 1
        have hns112_0 := NB253_260.out
        have hns112_1 := NB257_260.out
        have hns112_3 := NB261_260.out
        have hms112_0 := NB260_253.out
        have hms112_1 := NB260_257.out
        have hms112_3 := NB260_261.out
        refine skip_ (w1 := ?_) (by rfl) rfl ?_ ?_
        rotate_left
        · go_simp
          rfl
        refine hK.out _ _ ⟨((cell_far (p := ⟨gb260, _, none⟩) z27_ _).trans (((cell_far (p := ⟨gb260, _, none⟩) z27_ _).trans (hHeld.1)))), ((cell_far (p := ⟨gb260, _, none⟩) z27_ _).trans (((cell_far (p := ⟨gb260, _, none⟩) z27_ _).trans (hHeld.2.1)))), ((cell_far (p := ⟨gb260, _, none⟩) z27_ _).trans (((cell_far (p := ⟨gb260, _, none⟩) z27_ _).trans (hHeld.2.2.1)))), ((cell_far (p := ⟨gb260, _, none⟩) z27_ _).trans (((cell_far (p := ⟨gb260, _, none⟩) z27_ _).trans (hHeld.2.2.2))))⟩ (fun hHeld => ?_)
        clear hK K
        refine one_ (i := 12) (N := none) bs13_ rfl rfl (one_of HT_.out (by kernel_rfl)) (by decide) (fun K hK => ?_)
        have hs113 : w110.cell? ⟨gb261, 0, none⟩ = some (.int .i64 0) := (blk_cell BK261.out 0).trans z198_
        have hfs113 := blk_frozen BK261.out 0
        have hns113_0 := NB253_261.out
        have hns113_1 := NB257_261.out
        have hns113_2 := NB260_261.out
        have hms113_0 := NB261_253.out
        have hms113_1 := NB261_257.out
        have hms113_2 := NB261_260.out
        have hs114 : w110.cell? ⟨gb261, 1, none⟩ = some (.int .i64 0) := (blk_cell BK261.out 1).trans z198_
        have hfs114 := blk_frozen BK261.out 1
        have hns114_0 := NB253_261.out
        have hns114_1 := NB257_261.out
        have hns114_2 := NB260_261.out
        have hms114_0 := NB261_253.out
        have hms114_1 := NB261_257.out
        have hms114_2 := NB261_260.out
        refine skip_ (w1 := ?_) (by rfl) rfl ?_ ?_
        rotate_left
        · go_simp
          rfl
        refine hK.out _ _ ⟨((cell_far (p := ⟨gb261, _, none⟩) z28_ _).trans (((cell_far (p := ⟨gb261, _, none⟩) z28_ _).trans (hHeld.1)))), ((cell_far (p := ⟨gb261, _, none⟩) z28_ _).trans (((cell_far (p := ⟨gb261, _, none⟩) z28_ _).trans (hHeld.2.1)))), ((cell_far (p := ⟨gb261, _, none⟩) z28_ _).trans (((cell_far (p := ⟨gb261, _, none⟩) z28_ _).trans (hHeld.2.2.1)))), ((cell_far (p := ⟨gb261, _, none⟩) z28_ _).trans (((cell_far (p := ⟨gb261, _, none⟩) z28_ _).trans (hHeld.2.2.2))))⟩ (fun hHeld => ?_)
        clear hK K
        refine done_ (done_of HT_.out (by kernel_rfl)) ?_
        try go_wp2_with (first | ((with_reducible refine gate_callee (f := 42) rfl ?_); refine goesL_ (some 39) rfl rfl Try.func42 (by kernel_rfl) rfl #[.int .i32 (itR_ a1_0 x258001_1)] rfl z113_ ?_; (with_reducible refine (paint_drawn.calls k1 (itR_ a1_0 x258001_1) false _ A15.out).mono ?_); rintro e w' ⟨rfl, ⟨nd, rfl⟩⟩; refine ⟨_, rfl, ?_⟩; have hnb115 := NB261_253.out; have hnc115 := NB253_261.out; have hnb116 := NB261_257.out; have hnc116 := NB257_261.out; have hnb117 := NB261_260.out; have hnc117 := NB260_261.out; have hcz118_0 : w110.cell? ⟨gb261, 0, none⟩ = some (.int .i64 0) := (blk_cell BK261.out 0).trans rfl; have hcz118_1 : w110.cell? ⟨gb261, 1, none⟩ = some (.int .i64 0) := (blk_cell BK261.out 1).trans rfl; have hfz118_0 := blk_frozen BK261.out 0; have hfz118_1 := blk_frozen BK261.out 1; have hnb119 := NB260_253.out; have hnc119 := NB253_260.out; have hnb120 := NB260_257.out; have hnc120 := NB257_260.out; have hcz121_0 : w110.cell? ⟨gb260, 0, none⟩ = some (.int .i64 0) := (blk_cell BK260.out 0).trans rfl; have hcz121_1 : w110.cell? ⟨gb260, 1, none⟩ = some (.int .i64 0) := (blk_cell BK260.out 1).trans rfl; have hfz121_0 := blk_frozen BK260.out 0; have hfz121_1 := blk_frozen BK260.out 1))
        first | go_roundg k1 | (rw [← hji12]; go_roundg k1)
        case measure => have := HK1.out; omega
        case rel => exact ⟨(x5_1), (false), (ji12), (itN_ a1_0 x258001_1), z208_, z180_, z191_, ⟨z218_⟩, ⟨z11_⟩, ⟨z10_⟩, ⟨z7_⟩, ⟨z8_⟩, ⟨z32_⟩⟩
      rw [if_pos c67] at H
      have c67b0 : (((rd_T99 t254 (ji12)).f1) == ((rd_T99 t254 x8_1).f1)) = true := beq_iff_eq.mpr c67
      have c67b1 : (((rd_T99 t254 (ji12)).f1) != ((rd_T99 t254 x8_1).f1)) = false := bne_eq_false_iff_eq.mpr c67
      clear c67
      replace H := Option.bind_eq_some_iff.mp H
      obtain ⟨t263, A680, H⟩ := H
      replace H : (if t263 = 1 then (paint_Line.l0 k1 l0 x5_1 t254 false ji12 a1_0 l1_1 a1_2 a1_3 a1_4 a1_5 a1_6 a1_7 a1_8 a1_0 (itN_ a1_0 x258001_1)) else ((runes_Kind.f k1 (itR_ a1_0 x258001_1)).bind fun t264 => (paint_Line.l0 k1 l0 x5_1 t254 (t264 != 2) ji12 a1_0 l1_1 a1_2 a1_3 a1_4 a1_5 a1_6 a1_7 a1_8 a1_0 (itN_ a1_0 x258001_1)))) = some r := H
      have A68 := Aside0.mk A680
      clear A680
      by_cases c69 : t263 = 1
      · rw [if_pos c69] at H
        have c69b0 : (t263 == 1) = true := beq_iff_eq.mpr c69
        have c69b1 : (t263 != 1) = false := bne_eq_false_iff_eq.mpr c69
        clear c69
        have H' := Aside0.mk H
        clear H
        try go_wp2_with (first | ((with_reducible refine gate_dst (N := 23) rfl ?_); refine next_yes (w0 := w) (base := w.heap.size) ?hg (N := 23) ?hd (g := gb257) (s := a1_0) (p := x258001_1) ?hx rfl ?hi ?hp ?hB ?he ?_; (case hd => rfl); (case hg => rfl); (case hx => exact z207_); (case hi => exact z122_); (case hp => exact z204_); (case hB => exact z53_); (case he => exact GW257.out); intro w70 hbox hg hb; replace HO_5 := Aside0.mk (Kd.R_mono (Kd.R_grown (iter_R z170_ z144_) hg (fun k_ hk_ e_ => hk_.2 (Option.some.inj e_))) (fun _ h_ => h_.1)); replace HO_6 := Aside0.mk (Kd.R_mono (Kd.R_grown (iter_R z171_ z144_) hg (fun k_ hk_ e_ => hk_.2 (Option.some.inj e_))) (fun _ h_ => h_.1)); replace BK253 := Aside0.mk (blk_grown (g := gb253) (o := .cells #[.string a1_0, .slice A1_1 l1_1.length c1_1, .int .i64 a1_2, .int .i64 a1_3, .int .i64 a1_4, .bool a1_5, .int .i64 a1_6, .bool a1_7, .bool a1_8] 25 (0, 0)) z143_ hg (fun e_ => NB253_257.out (Option.some.inj e_))); replace BK257 := Aside0.mk (hbox); replace HB := Aside0.mk (hb); clear hbox hb hg))
        replace HO_5 := Aside0.mk (Kd.R_drew HO_5.out)
        replace HO_6 := Aside0.mk (Kd.R_drew HO_6.out)
        replace BK253 := Aside0.mk (blk_drew BK253.out)
        replace BK257 := Aside0.mk (blk_drew BK257.out)
        replace HB := Aside0.mk (below_drew1 HB.out)
        obtain ⟨Ao72, co72, eo72⟩ := Kd.R_slice HO_6.out
        (first | subst eo72 | (injection eo72 with f1_ f2_ f3_; have f4_ := f1_.symm; have f5_ := f3_.symm; clear f1_ f2_ f3_; subst f4_; subst f5_))
        have p258 : 0 ≤ (x8_1 : Int) := of_decide_eq_true z204_
        have q258 : x8_1 < (t254.length : Int) := of_decide_eq_true z204_
        obtain ⟨ad258, e258, hx258_0, hx258_1⟩ := at_T99 (Kd.R_reads' HO_6.out).2.2 x8_1 p258 q258
        cases e258
        replace p258 := eq_true p258
        replace q258 := eq_true q258
        have p259 : 0 ≤ ((ji12) : Int) := of_decide_eq_true z204_
        have q259 : (ji12) < (t254.length : Int) := of_decide_eq_true z204_
        obtain ⟨ad259, e259, hx259_0, hx259_1⟩ := at_T99 (Kd.R_reads' HO_6.out).2.2 (ji12) p259 q259
        obtain rfl : ad258 = ad259 := (by injection e259)
        replace p259 := eq_true p259
        replace q259 := eq_true q259
        refine start_ (n := 13) (S := fun w' => w'.cell? (ad258.add ((x8_1).toNat * 2)) = some (.int .i64 ((rd_T99 t254 x8_1).f0)) ∧ w'.cell? ⟨(ad258.add ((x8_1).toNat * 2)).block, (ad258.add ((x8_1).toNat * 2)).off + 1, none⟩ = some (.int .i64 ((rd_T99 t254 x8_1).f1)) ∧ w'.cell? (ad258.add (((ji12)).toNat * 2)) = some (.int .i64 ((rd_T99 t254 (ji12)).f0)) ∧ w'.cell? ⟨(ad258.add (((ji12)).toNat * 2)).block, (ad258.add (((ji12)).toNat * 2)).off + 1, none⟩ = some (.int .i64 ((rd_T99 t254 (ji12)).f1))) (ds := []) bs1_ (by kernel_rfl) rfl rfl ⟨hx258_0, hx258_1, hx259_0, hx259_1⟩ (fun hHeld => ?_); refine with_tabW paint_Line.tab8 paint_Line.bits8 (fun HT_ HW_ => ?_)
        generalize w70.drew = w71 at HO_5 HO_6 BK253 BK257 HB hx258_0 hx258_1 hx259_0 hx259_1 hHeld ⊢
        refine p1_ 0 27 bs2_ ?_
        refine p1_ 1 28 bs3_ ?_
        refine p1_ 2 29 bs4_ ?_
        refine p1_ 4 31 bs5_ ?_
        refine p1_ 5 32 bs6_ ?_
        refine p1_ 6 33 bs7_ ?_
        refine p1_ 7 34 bs8_ ?_
        refine take_ (i := 3) (N := some 30) (v := ?_) (a' := ?_) bs9_ rfl rfl (take_ofW HT_.out HW_.out (by kernel_rfl)) (fun _ _ _ h => h) (Or.inl ⟨by rfl, ?_⟩) hHeld ?_ ?_
        rotate_left
        · rintro w' ⟨s0, s1, s2, s3⟩
          go_simp
          with_reducible rfl
        rotate_left
        · simp only [Act.put, List.setIfInBounds_toArray, List.set_cons_zero, List.set_cons_succ, i64_w, i32_w]
          rfl
        refine take_ (i := 8) (N := some 35) (v := ?_) (a' := ?_) bs10_ rfl rfl (take_ofW HT_.out HW_.out (by kernel_rfl)) (fun _ _ _ h => h) (Or.inl ⟨by rfl, ?_⟩) hHeld ?_ ?_
        rotate_left
        · rintro w' ⟨s0, s1, s2, s3⟩
          go_simp
          with_reducible rfl
        rotate_left
        · simp only [Act.put, List.setIfInBounds_toArray, List.set_cons_zero, List.set_cons_succ, i64_w, i32_w]
          rfl
        refine join_ (σ := Nat × Nat) 2 bs0_ (fun s_ => [(11, .pointer (some ⟨s_.1, 0, none⟩)), (12, .pointer (some ⟨s_.2, 0, none⟩))]) (fun s_ w' => (w'.cell? (ad258.add ((x8_1).toNat * 2)) = some (.int .i64 ((rd_T99 t254 x8_1).f0)) ∧ w'.cell? ⟨(ad258.add ((x8_1).toNat * 2)).block, (ad258.add ((x8_1).toNat * 2)).off + 1, none⟩ = some (.int .i64 ((rd_T99 t254 x8_1).f1)) ∧ w'.cell? (ad258.add (((ji12)).toNat * 2)) = some (.int .i64 ((rd_T99 t254 (ji12)).f0)) ∧ w'.cell? ⟨(ad258.add (((ji12)).toNat * 2)).block, (ad258.add (((ji12)).toNat * 2)).off + 1, none⟩ = some (.int .i64 ((rd_T99 t254 (ji12)).f1))) ∧ (Kd.R k38 38 w' w.heap.size (fun _ => True) u5 x5_1) ∧ (Kd.R k99 99 w' w.heap.size (fun k_ => k_ ≠ s_.1 ∧ k_ ≠ s_.2) (.slice (some ad258) t254.length co72) t254) ∧ (w'.heap[gb253]? = some (.cells #[.string a1_0, .slice A1_1 l1_1.length c1_1, .int .i64 a1_2, .int .i64 a1_3, .int .i64 a1_4, .bool a1_5, .int .i64 a1_6, .bool a1_7, .bool a1_8] 25 (0, 0))) ∧ (w'.heap[gb257]? = some (.stringIter a1_0 (itN_ a1_0 x258001_1 : Int).toNat)) ∧ (w'.heap[s_.1]? = some (.cells #[.int .i64 0, .int .i64 0] 99 (0, 0))) ∧ (w'.heap[s_.2]? = some (.cells #[.int .i64 0, .int .i64 0] 99 (0, 0))) ∧ (w.heap.size ≤ s_.1) ∧ (w.heap.size ≤ s_.1) ∧ (gb253 ≠ s_.1) ∧ (s_.1 ≠ gb253) ∧ (gb257 ≠ s_.1) ∧ (s_.1 ≠ gb257) ∧ (s_.2 ≠ s_.1) ∧ (s_.1 ≠ s_.2) ∧ (w.heap.size ≤ s_.2) ∧ (w.heap.size ≤ s_.2) ∧ (gb253 ≠ s_.2) ∧ (s_.2 ≠ gb253) ∧ (gb257 ≠ s_.2) ∧ (s_.2 ≠ gb257) ∧ (Below w.heap.size w w')) ?_ ?_
        rotate_left
        · intro hCont
          refine two_ (i := 9) (j := 10) (Ni := some 11) (Nj := some 12) bs11_ bs14_ rfl rfl rfl rfl (two_of HT_.out (by kernel_rfl)) (by decide) (by decide) (fun K hK => ?_) (fun K hK => ?_)
          · skip
            refine box_step ?hg (N := 11) ?hd (cs := #[.int .i64 0, .int .i64 0]) (t := 99) ?hr ?_; (case hd => rfl); (case hg => rfl); (case hr => exact z209_)
            intro gb260 hg w73 hbox hb
            have HS0_ := (hb.cell (World.block_lt_of_cell? _ _ (hHeld.1))).trans (hHeld.1)
            have HS1_ := (hb.cell (World.block_lt_of_cell? _ _ (hHeld.2.1))).trans (hHeld.2.1)
            have HS2_ := (hb.cell (World.block_lt_of_cell? _ _ (hHeld.2.2.1))).trans (hHeld.2.2.1)
            have HS3_ := (hb.cell (World.block_lt_of_cell? _ _ (hHeld.2.2.2))).trans (hHeld.2.2.2)
            replace HO_5 := Aside0.mk (Kd.R_below z170_ hb)
            replace HO_6 := Aside0.mk (Kd.R_below (Kd.R_elderB z171_ gb260 (Nat.le_of_eq hg.symm)) hb)
            have BK260 := Aside0.mk (hbox)
            have GW260 := Aside0.mk ((z39_ : w.heap.size ≤ gb260))
            have GE260 := Aside0.mk ((z39_ : w.heap.size ≤ gb260))
            replace HB := Aside0.mk (below_step z69_ hb)
            have NB253_260 := Aside0.mk ((z26_ : gb253 ≠ gb260))
            have NB260_253 := Aside0.mk ((z25_ : gb260 ≠ gb253))
            replace BK253 := Aside0.mk (blk_below (g := gb253) (o := .cells #[.string a1_0, .slice A1_1 l1_1.length c1_1, .int .i64 a1_2, .int .i64 a1_3, .int .i64 a1_4, .bool a1_5, .int .i64 a1_6, .bool a1_7, .bool a1_8] 25 (0, 0)) z143_ hb)
            have NB257_260 := Aside0.mk ((z38_ : gb257 ≠ gb260))
            have NB260_257 := Aside0.mk ((z37_ : gb260 ≠ gb257))
            replace BK257 := Aside0.mk (blk_below (g := gb257) (o := .stringIter a1_0 (itN_ a1_0 x258001_1 : Int).toNat) z144_ hb)
            clear hb hbox hg
            refine hK.out _ _ ⟨HS0_, HS1_, HS2_, HS3_⟩ (fun hHeld => ?_)
            clear hK K
            refine norm_ (a' := ?_) ?_ ?_
            rotate_left
            · show Act.put _ (some 11) _ = _
              simp only [Act.put, List.setIfInBounds_toArray, List.set_cons_zero, List.set_cons_succ, i64_w, i32_w]
              rfl
            refine one_ (i := 10) (N := some 12) bs0_ rfl rfl (one_of HT_.out (by kernel_rfl)) (by decide) (fun K hK => ?_)
            refine box_step ?hg (N := 12) ?hd (cs := #[.int .i64 0, .int .i64 0]) (t := 99) ?hr ?_; (case hd => rfl); (case hg => rfl); (case hr => exact z209_)
            intro gb261 hg w74 hbox hb
            have HS0_ := (hb.cell (World.block_lt_of_cell? _ _ (hHeld.1))).trans (hHeld.1)
            have HS1_ := (hb.cell (World.block_lt_of_cell? _ _ (hHeld.2.1))).trans (hHeld.2.1)
            have HS2_ := (hb.cell (World.block_lt_of_cell? _ _ (hHeld.2.2.1))).trans (hHeld.2.2.1)
            have HS3_ := (hb.cell (World.block_lt_of_cell? _ _ (hHeld.2.2.2))).trans (hHeld.2.2.2)
            replace HO_5 := Aside0.mk (Kd.R_below z170_ hb)
            replace HO_6 := Aside0.mk (Kd.R_below (Kd.R_elderB z171_ gb261 (Nat.le_of_eq hg.symm)) hb)
            have BK261 := Aside0.mk (hbox)
            have GW261 := Aside0.mk ((z30_ : w.heap.size ≤ gb261))
            have GE261 := Aside0.mk ((z30_ : w.heap.size ≤ gb261))
            replace HB := Aside0.mk (below_step z40_ hb)
            have NB253_261 := Aside0.mk ((z26_ : gb253 ≠ gb261))
            have NB261_253 := Aside0.mk ((z25_ : gb261 ≠ gb253))
            replace BK253 := Aside0.mk (blk_below (g := gb253) (o := .cells #[.string a1_0, .slice A1_1 l1_1.length c1_1, .int .i64 a1_2, .int .i64 a1_3, .int .i64 a1_4, .bool a1_5, .int .i64 a1_6, .bool a1_7, .bool a1_8] 25 (0, 0)) z143_ hb)
            have NB257_261 := Aside0.mk ((z38_ : gb257 ≠ gb261))
            have NB261_257 := Aside0.mk ((z37_ : gb261 ≠ gb257))
            replace BK257 := Aside0.mk (blk_below (g := gb257) (o := .stringIter a1_0 (itN_ a1_0 x258001_1 : Int).toNat) z144_ hb)
            have NB260_261 := Aside0.mk ((z44_ : gb260 ≠ gb261))
            have NB261_260 := Aside0.mk ((z42_ : gb261 ≠ gb260))
            replace BK260 := Aside0.mk (blk_below (g := gb260) (o := .cells #[.int .i64 0, .int .i64 0] 99 (0, 0)) z145_ hb)
            clear hb hbox hg
            refine hK.out _ _ ⟨HS0_, HS1_, HS2_, HS3_⟩ (fun hHeld => ?_)
            clear hK K
            refine norm_ (a' := ?_) ?_ ?_
            rotate_left
            · show Act.put _ (some 12) _ = _
              simp only [Act.put, List.setIfInBounds_toArray, List.set_cons_zero, List.set_cons_succ, i64_w, i32_w]
              rfl
            exact norm_ z177_ (hCont (gb260, gb261) _ ⟨hHeld, z170_, z108_, z143_, z144_, z145_, z146_, GW260.out, GE260.out, NB253_260.out, NB260_253.out, NB257_260.out, NB260_257.out, NB261_260.out, NB260_261.out, GW261.out, GE261.out, NB253_261.out, NB261_253.out, NB257_261.out, NB261_257.out, z32_⟩)
          · skip
            refine box_step ?hg (N := 12) ?hd (cs := #[.int .i64 0, .int .i64 0]) (t := 99) ?hr ?_; (case hd => rfl); (case hg => rfl); (case hr => exact z209_)
            intro gb261 hg w73 hbox hb
            have HS0_ := (hb.cell (World.block_lt_of_cell? _ _ (hHeld.1))).trans (hHeld.1)
            have HS1_ := (hb.cell (World.block_lt_of_cell? _ _ (hHeld.2.1))).trans (hHeld.2.1)
            have HS2_ := (hb.cell (World.block_lt_of_cell? _ _ (hHeld.2.2.1))).trans (hHeld.2.2.1)
            have HS3_ := (hb.cell (World.block_lt_of_cell? _ _ (hHeld.2.2.2))).trans (hHeld.2.2.2)
            replace HO_5 := Aside0.mk (Kd.R_below z170_ hb)
            replace HO_6 := Aside0.mk (Kd.R_below (Kd.R_elderB z171_ gb261 (Nat.le_of_eq hg.symm)) hb)
            have BK261 := Aside0.mk (hbox)
            have GW261 := Aside0.mk ((z39_ : w.heap.size ≤ gb261))
            have GE261 := Aside0.mk ((z39_ : w.heap.size ≤ gb261))
            replace HB := Aside0.mk (below_step z69_ hb)
            have NB253_261 := Aside0.mk ((z26_ : gb253 ≠ gb261))
            have NB261_253 := Aside0.mk ((z25_ : gb261 ≠ gb253))
            replace BK253 := Aside0.mk (blk_below (g := gb253) (o := .cells #[.string a1_0, .slice A1_1 l1_1.length c1_1, .int .i64 a1_2, .int .i64 a1_3, .int .i64 a1_4, .bool a1_5, .int .i64 a1_6, .bool a1_7, .bool a1_8] 25 (0, 0)) z143_ hb)
            have NB257_261 := Aside0.mk ((z38_ : gb257 ≠ gb261))
            have NB261_257 := Aside0.mk ((z37_ : gb261 ≠ gb257))
            replace BK257 := Aside0.mk (blk_below (g := gb257) (o := .stringIter a1_0 (itN_ a1_0 x258001_1 : Int).toNat) z144_ hb)
            clear hb hbox hg
            refine hK.out _ _ ⟨HS0_, HS1_, HS2_, HS3_⟩ (fun hHeld => ?_)
            clear hK K
            refine norm_ (a' := ?_) ?_ ?_
            rotate_left
            · show Act.put _ (some 12) _ = _
              simp only [Act.put, List.setIfInBounds_toArray, List.set_cons_zero, List.set_cons_succ, i64_w, i32_w]
              rfl
            refine one_ (i := 9) (N := some 11) bs0_ rfl rfl (one_of HT_.out (by kernel_rfl)) (by decide) (fun K hK => ?_)
            refine box_step ?hg (N := 11) ?hd (cs := #[.int .i64 0, .int .i64 0]) (t := 99) ?hr ?_; (case hd => rfl); (case hg => rfl); (case hr => exact z209_)
            intro gb260 hg w74 hbox hb
            have HS0_ := (hb.cell (World.block_lt_of_cell? _ _ (hHeld.1))).trans (hHeld.1)
            have HS1_ := (hb.cell (World.block_lt_of_cell? _ _ (hHeld.2.1))).trans (hHeld.2.1)
            have HS2_ := (hb.cell (World.block_lt_of_cell? _ _ (hHeld.2.2.1))).trans (hHeld.2.2.1)
            have HS3_ := (hb.cell (World.block_lt_of_cell? _ _ (hHeld.2.2.2))).trans (hHeld.2.2.2)
            replace HO_5 := Aside0.mk (Kd.R_below z170_ hb)
            replace HO_6 := Aside0.mk (Kd.R_below (Kd.R_elderB z171_ gb260 (Nat.le_of_eq hg.symm)) hb)
            have BK260 := Aside0.mk (hbox)
            have GW260 := Aside0.mk ((z31_ : w.heap.size ≤ gb260))
            have GE260 := Aside0.mk ((z31_ : w.heap.size ≤ gb260))
            replace HB := Aside0.mk (below_step z41_ hb)
            have NB253_260 := Aside0.mk ((z26_ : gb253 ≠ gb260))
            have NB260_253 := Aside0.mk ((z25_ : gb260 ≠ gb253))
            replace BK253 := Aside0.mk (blk_below (g := gb253) (o := .cells #[.string a1_0, .slice A1_1 l1_1.length c1_1, .int .i64 a1_2, .int .i64 a1_3, .int .i64 a1_4, .bool a1_5, .int .i64 a1_6, .bool a1_7, .bool a1_8] 25 (0, 0)) z143_ hb)
            have NB257_260 := Aside0.mk ((z38_ : gb257 ≠ gb260))
            have NB260_257 := Aside0.mk ((z37_ : gb260 ≠ gb257))
            replace BK257 := Aside0.mk (blk_below (g := gb257) (o := .stringIter a1_0 (itN_ a1_0 x258001_1 : Int).toNat) z144_ hb)
            have NB261_260 := Aside0.mk ((z45_ : gb261 ≠ gb260))
            have NB260_261 := Aside0.mk ((z43_ : gb260 ≠ gb261))
            replace BK261 := Aside0.mk (blk_below (g := gb261) (o := .cells #[.int .i64 0, .int .i64 0] 99 (0, 0)) z146_ hb)
            clear hb hbox hg
            refine hK.out _ _ ⟨HS0_, HS1_, HS2_, HS3_⟩ (fun hHeld => ?_)
            clear hK K
            refine norm_ (a' := ?_) ?_ ?_
            rotate_left
            · show Act.put _ (some 11) _ = _
              simp only [Act.put, List.setIfInBounds_toArray, List.set_cons_zero, List.set_cons_succ, i64_w, i32_w]
              rfl
            exact norm_ z177_ (hCont (gb260, gb261) _ ⟨hHeld, z170_, z109_, z143_, z144_, z145_, z146_, GW260.out, GE260.out, NB253_260.out, NB260_253.out, NB257_260.out, NB260_257.out, NB261_260.out, NB260_261.out, GW261.out, GE261.out, NB253_261.out, NB261_253.out, NB257_261.out, NB261_257.out, z33_⟩)
        rintro ⟨gb260, gb261⟩ w75 ⟨hS_, h0_, h1_, h2_, h3_, h4_, h5_, h6_, h7_, h8_, h9_, h10_, h11_, h12_, h13_, h14_, h15_, h16_, h17_, h18_, h19_, h20_⟩
        have n0_ : Aside0 (Kd.R k38 38 w75 w.heap.size (fun _ => True) u5 x5_1) := ⟨h0_⟩
        have n1_ : Aside0 (Kd.R k99 99 w75 w.heap.size (fun k_ => k_ ≠ gb260 ∧ k_ ≠ gb261) (.slice (some ad258) t254.length co72) t254) := ⟨h1_⟩
        have n2_ : Aside0 (w75.heap[gb253]? = some (.cells #[.string a1_0, .slice A1_1 l1_1.length c1_1, .int .i64 a1_2, .int .i64 a1_3, .int .i64 a1_4, .bool a1_5, .int .i64 a1_6, .bool a1_7, .bool a1_8] 25 (0, 0))) := ⟨h2_⟩
        have n3_ : Aside0 (w75.heap[gb257]? = some (.stringIter a1_0 (itN_ a1_0 x258001_1 : Int).toNat)) := ⟨h3_⟩
        have n4_ : Aside0 (w75.heap[gb260]? = some (.cells #[.int .i64 0, .int .i64 0] 99 (0, 0))) := ⟨h4_⟩
        have n5_ : Aside0 (w75.heap[gb261]? = some (.cells #[.int .i64 0, .int .i64 0] 99 (0, 0))) := ⟨h5_⟩
        have n6_ : Aside0 (w.heap.size ≤ gb260) := ⟨h6_⟩
        have n7_ : Aside0 (w.heap.size ≤ gb260) := ⟨h7_⟩
        have n8_ : Aside0 (gb253 ≠ gb260) := ⟨h8_⟩
        have n9_ : Aside0 (gb260 ≠ gb253) := ⟨h9_⟩
        have n10_ : Aside0 (gb257 ≠ gb260) := ⟨h10_⟩
        have n11_ : Aside0 (gb260 ≠ gb257) := ⟨h11_⟩
        have n12_ : Aside0 (gb261 ≠ gb260) := ⟨h12_⟩
        have n13_ : Aside0 (gb260 ≠ gb261) := ⟨h13_⟩
        have n14_ : Aside0 (w.heap.size ≤ gb261) := ⟨h14_⟩
        have n15_ : Aside0 (w.heap.size ≤ gb261) := ⟨h15_⟩
        have n16_ : Aside0 (gb253 ≠ gb261) := ⟨h16_⟩
        have n17_ : Aside0 (gb261 ≠ gb253) := ⟨h17_⟩
        have n18_ : Aside0 (gb257 ≠ gb261) := ⟨h18_⟩
        have n19_ : Aside0 (gb261 ≠ gb257) := ⟨h19_⟩
        have n20_ : Aside0 (Below w.heap.size w w75) := ⟨h20_⟩
        clear HO_5
        clear HO_6
        clear BK253
        clear BK257
        clear HB
        clear h0_ h1_ h2_ h3_ h4_ h5_ h6_ h7_ h8_ h9_ h10_ h11_ h12_ h13_ h14_ h15_ h16_ h17_ h18_ h19_ h20_
        have HO_5 := n0_
        have HO_6 := n1_
        have BK253 := n2_
        have BK257 := n3_
        have BK260 := n4_
        have BK261 := n5_
        have GW260 := n6_
        have GE260 := n7_
        have NB253_260 := n8_
        have NB260_253 := n9_
        have NB257_260 := n10_
        have NB260_257 := n11_
        have NB261_260 := n12_
        have NB260_261 := n13_
        have GW261 := n14_
        have GE261 := n15_
        have NB253_261 := n16_
        have NB261_253 := n17_
        have NB257_261 := n18_
        have NB261_257 := n19_
        have HB := n20_
        clear n0_ n1_ n2_ n3_ n4_ n5_ n6_ n7_ n8_ n9_ n10_ n11_ n12_ n13_ n14_ n15_ n16_ n17_ n18_ n19_ n20_
        have hHeld : w75.cell? (ad258.add ((x8_1).toNat * 2)) = some (.int .i64 ((rd_T99 t254 x8_1).f0)) ∧ w75.cell? ⟨(ad258.add ((x8_1).toNat * 2)).block, (ad258.add ((x8_1).toNat * 2)).off + 1, none⟩ = some (.int .i64 ((rd_T99 t254 x8_1).f1)) ∧ w75.cell? (ad258.add (((ji12)).toNat * 2)) = some (.int .i64 ((rd_T99 t254 (ji12)).f0)) ∧ w75.cell? ⟨(ad258.add (((ji12)).toNat * 2)).block, (ad258.add (((ji12)).toNat * 2)).off + 1, none⟩ = some (.int .i64 ((rd_T99 t254 (ji12)).f1)) := hS_
        refine norm_ (a' := ?_) ?_ ?_
        rotate_left
        · simp only [putAll, Act.put, List.setIfInBounds_toArray, List.set_cons_zero, List.set_cons_succ]
          rfl
        refine one_ (i := 11) (N := none) bs12_ rfl rfl (one_of HT_.out (by kernel_rfl)) (by decide) (fun K hK => ?_)
        have hs76 : w75.cell? ⟨gb260, 0, none⟩ = some (.int .i64 0) := (blk_cell BK260.out 0).trans z198_
        have hfs76 := blk_frozen BK260.out 0
        have hns76_0 := NB253_260.out
        have hns76_1 := NB257_260.out
        have hns76_3 := NB261_260.out
        have hms76_0 := NB260_253.out
        have hms76_1 := NB260_257.out
        have hms76_3 := NB260_261.out
        have hs77 : w75.cell? ⟨gb260, 1, none⟩ = some (.int .i64 0) := (blk_cell BK260.out 1).trans z198_
        have hfs77 := blk_frozen BK260.out 1
        have hns77_0 := NB253_260.out
        have hns77_1 := NB257_260.out
        have hns77_3 := NB261_260.out
        have hms77_0 := NB260_253.out
        have hms77_1 := NB260_257.out
        have hms77_3 := NB260_261.out
        refine skip_ (w1 := ?_) (by rfl) rfl ?_ ?_
        rotate_left
        · go_simp
          rfl
        refine hK.out _ _ ⟨((cell_far (p := ⟨gb260, _, none⟩) z27_ _).trans (((cell_far (p := ⟨gb260, _, none⟩) z27_ _).trans (hHeld.1)))), ((cell_far (p := ⟨gb260, _, none⟩) z27_ _).trans (((cell_far (p := ⟨gb260, _, none⟩) z27_ _).trans (hHeld.2.1)))), ((cell_far (p := ⟨gb260, _, none⟩) z27_ _).trans (((cell_far (p := ⟨gb260, _, none⟩) z27_ _).trans (hHeld.2.2.1)))), ((cell_far (p := ⟨gb260, _, none⟩) z27_ _).trans (((cell_far (p := ⟨gb260, _, none⟩) z27_ _).trans (hHeld.2.2.2))))⟩ (fun hHeld => ?_)
        clear hK K
        refine one_ (i := 12) (N := none) bs13_ rfl rfl (one_of HT_.out (by kernel_rfl)) (by decide) (fun K hK => ?_)
        have hs78 : w75.cell? ⟨gb261, 0, none⟩ = some (.int .i64 0) := (blk_cell BK261.out 0).trans z198_
        have hfs78 := blk_frozen BK261.out 0
        have hns78_0 := NB253_261.out
        have hns78_1 := NB257_261.out
        have hns78_2 := NB260_261.out
        have hms78_0 := NB261_253.out
        have hms78_1 := NB261_257.out
        have hms78_2 := NB261_260.out
        have hs79 : w75.cell? ⟨gb261, 1, none⟩ = some (.int .i64 0) := (blk_cell BK261.out 1).trans z198_
        have hfs79 := blk_frozen BK261.out 1
        have hns79_0 := NB253_261.out
        have hns79_1 := NB257_261.out
        have hns79_2 := NB260_261.out
        have hms79_0 := NB261_253.out
        have hms79_1 := NB261_257.out
        have hms79_2 := NB261_260.out
        refine skip_ (w1 := ?_) (by rfl) rfl ?_ ?_
        rotate_left
        · go_simp
          rfl
        refine hK.out _ _ ⟨((cell_far (p := ⟨gb261, _, none⟩) z28_ _).trans (((cell_far (p := ⟨gb261, _, none⟩) z28_ _).trans (hHeld.1)))), ((cell_far (p := ⟨gb261, _, none⟩) z28_ _).trans (((cell_far (p := ⟨gb261, _, none⟩) z28_ _).trans (hHeld.2.1)))), ((cell_far (p := ⟨gb261, _, none⟩) z28_ _).trans (((cell_far (p := ⟨gb261, _, none⟩) z28_ _).trans (hHeld.2.2.1)))), ((cell_far (p := ⟨gb261, _, none⟩) z28_ _).trans (((cell_far (p := ⟨gb261, _, none⟩) z28_ _).trans (hHeld.2.2.2))))⟩ (fun hHeld => ?_)
        clear hK K
        refine done_ (done_of HT_.out (by kernel_rfl)) ?_
        try go_wp2_with (first | ((with_reducible refine gate_callee (f := 42) rfl ?_); refine goesL_ (some 39) rfl rfl Try.func42 (by kernel_rfl) rfl #[.int .i32 (itR_ a1_0 x258001_1)] rfl z113_ ?_; (with_reducible refine (paint_drawn.calls k1 (itR_ a1_0 x258001_1) false _ A15.out).mono ?_); rintro e w' ⟨rfl, ⟨nd, rfl⟩⟩; refine ⟨_, rfl, ?_⟩; have hnb80 := NB261_253.out; have hnc80 := NB253_261.out; have hnb81 := NB261_257.out; have hnc81 := NB257_261.out; have hnb82 := NB261_260.out; have hnc82 := NB260_261.out; have hcz83_0 : w75.cell? ⟨gb261, 0, none⟩ = some (.int .i64 0) := (blk_cell BK261.out 0).trans rfl; have hcz83_1 : w75.cell? ⟨gb261, 1, none⟩ = some (.int .i64 0) := (blk_cell BK261.out 1).trans rfl; have hfz83_0 := blk_frozen BK261.out 0; have hfz83_1 := blk_frozen BK261.out 1; have hnb84 := NB260_253.out; have hnc84 := NB253_260.out; have hnb85 := NB260_257.out; have hnc85 := NB257_260.out; have hcz86_0 : w75.cell? ⟨gb260, 0, none⟩ = some (.int .i64 0) := (blk_cell BK260.out 0).trans rfl; have hcz86_1 : w75.cell? ⟨gb260, 1, none⟩ = some (.int .i64 0) := (blk_cell BK260.out 1).trans rfl; have hfz86_0 := blk_frozen BK260.out 0; have hfz86_1 := blk_frozen BK260.out 1) | (go_at_call 43; (with_reducible refine (runes_Kind.calls k1 (itR_ a1_0 x258001_1) t263 _ A68.out).mono ?_); rintro e w' ⟨rfl, ⟨nd, rfl⟩⟩))
        first | go_roundg k1 | (rw [← hji12]; go_roundg k1)
        case measure => have := HK1.out; omega
        case rel => exact ⟨(x5_1), (false), (ji12), (itN_ a1_0 x258001_1), z208_, z180_, z191_, ⟨z218_⟩, ⟨z11_⟩, ⟨z10_⟩, ⟨z7_⟩, ⟨z8_⟩, ⟨z32_⟩⟩
      rw [if_neg c69] at H
      have c69b0 : (t263 == 1) = false := beq_eq_false_iff_ne.mpr c69
      have c69b1 : (t263 != 1) = true := bne_iff_ne.mpr c69
      replace H := Option.bind_eq_some_iff.mp H
      obtain ⟨t264, A870, H⟩ := H
      replace H : (paint_Line.l0 k1 l0 x5_1 t254 (t264 != 2) ji12 a1_0 l1_1 a1_2 a1_3 a1_4 a1_5 a1_6 a1_7 a1_8 a1_0 (itN_ a1_0 x258001_1)) = some r := H
      have A87 := Aside0.mk A870
      clear A870
      have H' := Aside0.mk H
      clear H
      try go_wp2_with (first | ((with_reducible refine gate_dst (N := 23) rfl ?_); refine next_yes (w0 := w) (base := w.heap.size) ?hg (N := 23) ?hd (g := gb257) (s := a1_0) (p := x258001_1) ?hx rfl ?hi ?hp ?hB ?he ?_; (case hd => rfl); (case hg => rfl); (case hx => exact z207_); (case hi => exact z122_); (case hp => exact z204_); (case hB => exact z53_); (case he => exact GW257.out); intro w88 hbox hg hb; replace HO_5 := Aside0.mk (Kd.R_mono (Kd.R_grown (iter_R z170_ z144_) hg (fun k_ hk_ e_ => hk_.2 (Option.some.inj e_))) (fun _ h_ => h_.1)); replace HO_6 := Aside0.mk (Kd.R_mono (Kd.R_grown (iter_R z171_ z144_) hg (fun k_ hk_ e_ => hk_.2 (Option.some.inj e_))) (fun _ h_ => h_.1)); replace BK253 := Aside0.mk (blk_grown (g := gb253) (o := .cells #[.string a1_0, .slice A1_1 l1_1.length c1_1, .int .i64 a1_2, .int .i64 a1_3, .int .i64 a1_4, .bool a1_5, .int .i64 a1_6, .bool a1_7, .bool a1_8] 25 (0, 0)) z143_ hg (fun e_ => NB253_257.out (Option.some.inj e_))); replace BK257 := Aside0.mk (hbox); replace HB := Aside0.mk (hb); clear hbox hb hg))
      replace HO_5 := Aside0.mk (Kd.R_drew HO_5.out)
      replace HO_6 := Aside0.mk (Kd.R_drew HO_6.out)
      replace BK253 := Aside0.mk (blk_drew BK253.out)
      replace BK257 := Aside0.mk (blk_drew BK257.out)
      replace HB := Aside0.mk (below_drew1 HB.out)
      obtain ⟨Ao90, co90, eo90⟩ := Kd.R_slice HO_6.out
      (first | subst eo90 | (injection eo90 with f1_ f2_ f3_; have f4_ := f1_.symm; have f5_ := f3_.symm; clear f1_ f2_ f3_; subst f4_; subst f5_))
      have p258 : 0 ≤ (x8_1 : Int) := of_decide_eq_true z204_
      have q258 : x8_1 < (t254.length : Int) := of_decide_eq_true z204_
      obtain ⟨ad258, e258, hx258_0, hx258_1⟩ := at_T99 (Kd.R_reads' HO_6.out).2.2 x8_1 p258 q258
      cases e258
      replace p258 := eq_true p258
      replace q258 := eq_true q258
      have p259 : 0 ≤ ((ji12) : Int) := of_decide_eq_true z204_
      have q259 : (ji12) < (t254.length : Int) := of_decide_eq_true z204_
      obtain ⟨ad259, e259, hx259_0, hx259_1⟩ := at_T99 (Kd.R_reads' HO_6.out).2.2 (ji12) p259 q259
      obtain rfl : ad258 = ad259 := (by injection e259)
      replace p259 := eq_true p259
      replace q259 := eq_true q259
      refine start_ (n := 13) (S := fun w' => w'.cell? (ad258.add ((x8_1).toNat * 2)) = some (.int .i64 ((rd_T99 t254 x8_1).f0)) ∧ w'.cell? ⟨(ad258.add ((x8_1).toNat * 2)).block, (ad258.add ((x8_1).toNat * 2)).off + 1, none⟩ = some (.int .i64 ((rd_T99 t254 x8_1).f1)) ∧ w'.cell? (ad258.add (((ji12)).toNat * 2)) = some (.int .i64 ((rd_T99 t254 (ji12)).f0)) ∧ w'.cell? ⟨(ad258.add (((ji12)).toNat * 2)).block, (ad258.add (((ji12)).toNat * 2)).off + 1, none⟩ = some (.int .i64 ((rd_T99 t254 (ji12)).f1))) (ds := []) bs1_ (by kernel_rfl) rfl rfl ⟨hx258_0, hx258_1, hx259_0, hx259_1⟩ (fun hHeld => ?_); refine with_tabW paint_Line.tab8 paint_Line.bits8 (fun HT_ HW_ => ?_)
      generalize w88.drew = w89 at HO_5 HO_6 BK253 BK257 HB hx258_0 hx258_1 hx259_0 hx259_1 hHeld ⊢
      refine p1_ 0 27 bs2_ ?_
      refine p1_ 1 28 bs3_ ?_
      refine p1_ 2 29 bs4_ ?_
      refine p1_ 4 31 bs5_ ?_
      refine p1_ 5 32 bs6_ ?_
      refine p1_ 6 33 bs7_ ?_
      refine p1_ 7 34 bs8_ ?_
      refine take_ (i := 3) (N := some 30) (v := ?_) (a' := ?_) bs9_ rfl rfl (take_ofW HT_.out HW_.out (by kernel_rfl)) (fun _ _ _ h => h) (Or.inl ⟨by rfl, ?_⟩) hHeld ?_ ?_
      rotate_left
      · rintro w' ⟨s0, s1, s2, s3⟩
        go_simp
        with_reducible rfl
      rotate_left
      · simp only [Act.put, List.setIfInBounds_toArray, List.set_cons_zero, List.set_cons_succ, i64_w, i32_w]
        rfl
      refine take_ (i := 8) (N := some 35) (v := ?_) (a' := ?_) bs10_ rfl rfl (take_ofW HT_.out HW_.out (by kernel_rfl)) (fun _ _ _ h => h) (Or.inl ⟨by rfl, ?_⟩) hHeld ?_ ?_
      rotate_left
      · rintro w' ⟨s0, s1, s2, s3⟩
        go_simp
        with_reducible rfl
      rotate_left
      · simp only [Act.put, List.setIfInBounds_toArray, List.set_cons_zero, List.set_cons_succ, i64_w, i32_w]
        rfl
      refine join_ (σ := Nat × Nat) 2 bs0_ (fun s_ => [(11, .pointer (some ⟨s_.1, 0, none⟩)), (12, .pointer (some ⟨s_.2, 0, none⟩))]) (fun s_ w' => (w'.cell? (ad258.add ((x8_1).toNat * 2)) = some (.int .i64 ((rd_T99 t254 x8_1).f0)) ∧ w'.cell? ⟨(ad258.add ((x8_1).toNat * 2)).block, (ad258.add ((x8_1).toNat * 2)).off + 1, none⟩ = some (.int .i64 ((rd_T99 t254 x8_1).f1)) ∧ w'.cell? (ad258.add (((ji12)).toNat * 2)) = some (.int .i64 ((rd_T99 t254 (ji12)).f0)) ∧ w'.cell? ⟨(ad258.add (((ji12)).toNat * 2)).block, (ad258.add (((ji12)).toNat * 2)).off + 1, none⟩ = some (.int .i64 ((rd_T99 t254 (ji12)).f1))) ∧ (Kd.R k38 38 w' w.heap.size (fun _ => True) u5 x5_1) ∧ (Kd.R k99 99 w' w.heap.size (fun k_ => k_ ≠ s_.1 ∧ k_ ≠ s_.2) (.slice (some ad258) t254.length co90) t254) ∧ (w'.heap[gb253]? = some (.cells #[.string a1_0, .slice A1_1 l1_1.length c1_1, .int .i64 a1_2, .int .i64 a1_3, .int .i64 a1_4, .bool a1_5, .int .i64 a1_6, .bool a1_7, .bool a1_8] 25 (0, 0))) ∧ (w'.heap[gb257]? = some (.stringIter a1_0 (itN_ a1_0 x258001_1 : Int).toNat)) ∧ (w'.heap[s_.1]? = some (.cells #[.int .i64 0, .int .i64 0] 99 (0, 0))) ∧ (w'.heap[s_.2]? = some (.cells #[.int .i64 0, .int .i64 0] 99 (0, 0))) ∧ (w.heap.size ≤ s_.1) ∧ (w.heap.size ≤ s_.1) ∧ (gb253 ≠ s_.1) ∧ (s_.1 ≠ gb253) ∧ (gb257 ≠ s_.1) ∧ (s_.1 ≠ gb257) ∧ (s_.2 ≠ s_.1) ∧ (s_.1 ≠ s_.2) ∧ (w.heap.size ≤ s_.2) ∧ (w.heap.size ≤ s_.2) ∧ (gb253 ≠ s_.2) ∧ (s_.2 ≠ gb253) ∧ (gb257 ≠ s_.2) ∧ (s_.2 ≠ gb257) ∧ (Below w.heap.size w w')) ?_ ?_
      rotate_left
      · intro hCont
        refine two_ (i := 9) (j := 10) (Ni := some 11) (Nj := some 12) bs11_ bs14_ rfl rfl rfl rfl (two_of HT_.out (by kernel_rfl)) (by decide) (by decide) (fun K hK => ?_) (fun K hK => ?_)
        · skip
          refine box_step ?hg (N := 11) ?hd (cs := #[.int .i64 0, .int .i64 0]) (t := 99) ?hr ?_; (case hd => rfl); (case hg => rfl); (case hr => exact z209_)
          intro gb260 hg w91 hbox hb
          have HS0_ := (hb.cell (World.block_lt_of_cell? _ _ (hHeld.1))).trans (hHeld.1)
          have HS1_ := (hb.cell (World.block_lt_of_cell? _ _ (hHeld.2.1))).trans (hHeld.2.1)
          have HS2_ := (hb.cell (World.block_lt_of_cell? _ _ (hHeld.2.2.1))).trans (hHeld.2.2.1)
          have HS3_ := (hb.cell (World.block_lt_of_cell? _ _ (hHeld.2.2.2))).trans (hHeld.2.2.2)
          replace HO_5 := Aside0.mk (Kd.R_below z170_ hb)
          replace HO_6 := Aside0.mk (Kd.R_below (Kd.R_elderB z171_ gb260 (Nat.le_of_eq hg.symm)) hb)
          have BK260 := Aside0.mk (hbox)
          have GW260 := Aside0.mk ((z39_ : w.heap.size ≤ gb260))
          have GE260 := Aside0.mk ((z39_ : w.heap.size ≤ gb260))
          replace HB := Aside0.mk (below_step z69_ hb)
          have NB253_260 := Aside0.mk ((z26_ : gb253 ≠ gb260))
          have NB260_253 := Aside0.mk ((z25_ : gb260 ≠ gb253))
          replace BK253 := Aside0.mk (blk_below (g := gb253) (o := .cells #[.string a1_0, .slice A1_1 l1_1.length c1_1, .int .i64 a1_2, .int .i64 a1_3, .int .i64 a1_4, .bool a1_5, .int .i64 a1_6, .bool a1_7, .bool a1_8] 25 (0, 0)) z143_ hb)
          have NB257_260 := Aside0.mk ((z38_ : gb257 ≠ gb260))
          have NB260_257 := Aside0.mk ((z37_ : gb260 ≠ gb257))
          replace BK257 := Aside0.mk (blk_below (g := gb257) (o := .stringIter a1_0 (itN_ a1_0 x258001_1 : Int).toNat) z144_ hb)
          clear hb hbox hg
          refine hK.out _ _ ⟨HS0_, HS1_, HS2_, HS3_⟩ (fun hHeld => ?_)
          clear hK K
          refine norm_ (a' := ?_) ?_ ?_
          rotate_left
          · show Act.put _ (some 11) _ = _
            simp only [Act.put, List.setIfInBounds_toArray, List.set_cons_zero, List.set_cons_succ, i64_w, i32_w]
            rfl
          refine one_ (i := 10) (N := some 12) bs0_ rfl rfl (one_of HT_.out (by kernel_rfl)) (by decide) (fun K hK => ?_)
          refine box_step ?hg (N := 12) ?hd (cs := #[.int .i64 0, .int .i64 0]) (t := 99) ?hr ?_; (case hd => rfl); (case hg => rfl); (case hr => exact z209_)
          intro gb261 hg w92 hbox hb
          have HS0_ := (hb.cell (World.block_lt_of_cell? _ _ (hHeld.1))).trans (hHeld.1)
          have HS1_ := (hb.cell (World.block_lt_of_cell? _ _ (hHeld.2.1))).trans (hHeld.2.1)
          have HS2_ := (hb.cell (World.block_lt_of_cell? _ _ (hHeld.2.2.1))).trans (hHeld.2.2.1)
          have HS3_ := (hb.cell (World.block_lt_of_cell? _ _ (hHeld.2.2.2))).trans (hHeld.2.2.2)
          replace HO_5 := Aside0.mk (Kd.R_below z170_ hb)
          replace HO_6 := Aside0.mk (Kd.R_below (Kd.R_elderB z171_ gb261 (Nat.le_of_eq hg.symm)) hb)
          have BK261 := Aside0.mk (hbox)
          have GW261 := Aside0.mk ((z30_ : w.heap.size ≤ gb261))
          have GE261 := Aside0.mk ((z30_ : w.heap.size ≤ gb261))
          replace HB := Aside0.mk (below_step z40_ hb)
          have NB253_261 := Aside0.mk ((z26_ : gb253 ≠ gb261))
          have NB261_253 := Aside0.mk ((z25_ : gb261 ≠ gb253))
          replace BK253 := Aside0.mk (blk_below (g := gb253) (o := .cells #[.string a1_0, .slice A1_1 l1_1.length c1_1, .int .i64 a1_2, .int .i64 a1_3, .int .i64 a1_4, .bool a1_5, .int .i64 a1_6, .bool a1_7, .bool a1_8] 25 (0, 0)) z143_ hb)
          have NB257_261 := Aside0.mk ((z38_ : gb257 ≠ gb261))
          have NB261_257 := Aside0.mk ((z37_ : gb261 ≠ gb257))
          replace BK257 := Aside0.mk (blk_below (g := gb257) (o := .stringIter a1_0 (itN_ a1_0 x258001_1 : Int).toNat) z144_ hb)
          have NB260_261 := Aside0.mk ((z44_ : gb260 ≠ gb261))
          have NB261_260 := Aside0.mk ((z42_ : gb261 ≠ gb260))
          replace BK260 := Aside0.mk (blk_below (g := gb260) (o := .cells #[.int .i64 0, .int .i64 0] 99 (0, 0)) z145_ hb)
          clear hb hbox hg
          refine hK.out _ _ ⟨HS0_, HS1_, HS2_, HS3_⟩ (fun hHeld => ?_)
          clear hK K
          refine norm_ (a' := ?_) ?_ ?_
          rotate_left
          · show Act.put _ (some 12) _ = _
            simp only [Act.put, List.setIfInBounds_toArray, List.set_cons_zero, List.set_cons_succ, i64_w, i32_w]
            rfl
          exact norm_ z177_ (hCont (gb260, gb261) _ ⟨hHeld, z170_, z108_, z143_, z144_, z145_, z146_, GW260.out, GE260.out, NB253_260.out, NB260_253.out, NB257_260.out, NB260_257.out, NB261_260.out, NB260_261.out, GW261.out, GE261.out, NB253_261.out, NB261_253.out, NB257_261.out, NB261_257.out, z32_⟩)
        · skip
          refine box_step ?hg (N := 12) ?hd (cs := #[.int .i64 0, .int .i64 0]) (t := 99) ?hr ?_; (case hd => rfl); (case hg => rfl); (case hr => exact z209_)
          intro gb261 hg w91 hbox hb
          have HS0_ := (hb.cell (World.block_lt_of_cell? _ _ (hHeld.1))).trans (hHeld.1)
          have HS1_ := (hb.cell (World.block_lt_of_cell? _ _ (hHeld.2.1))).trans (hHeld.2.1)
          have HS2_ := (hb.cell (World.block_lt_of_cell? _ _ (hHeld.2.2.1))).trans (hHeld.2.2.1)
          have HS3_ := (hb.cell (World.block_lt_of_cell? _ _ (hHeld.2.2.2))).trans (hHeld.2.2.2)
          replace HO_5 := Aside0.mk (Kd.R_below z170_ hb)
          replace HO_6 := Aside0.mk (Kd.R_below (Kd.R_elderB z171_ gb261 (Nat.le_of_eq hg.symm)) hb)
          have BK261 := Aside0.mk (hbox)
          have GW261 := Aside0.mk ((z39_ : w.heap.size ≤ gb261))
          have GE261 := Aside0.mk ((z39_ : w.heap.size ≤ gb261))
          replace HB := Aside0.mk (below_step z69_ hb)
          have NB253_261 := Aside0.mk ((z26_ : gb253 ≠ gb261))
          have NB261_253 := Aside0.mk ((z25_ : gb261 ≠ gb253))
          replace BK253 := Aside0.mk (blk_below (g := gb253) (o := .cells #[.string a1_0, .slice A1_1 l1_1.length c1_1, .int .i64 a1_2, .int .i64 a1_3, .int .i64 a1_4, .bool a1_5, .int .i64 a1_6, .bool a1_7, .bool a1_8] 25 (0, 0)) z143_ hb)
          have NB257_261 := Aside0.mk ((z38_ : gb257 ≠ gb261))
          have NB261_257 := Aside0.mk ((z37_ : gb261 ≠ gb257))
          replace BK257 := Aside0.mk (blk_below (g := gb257) (o := .stringIter a1_0 (itN_ a1_0 x258001_1 : Int).toNat) z144_ hb)
          clear hb hbox hg
          refine hK.out _ _ ⟨HS0_, HS1_, HS2_, HS3_⟩ (fun hHeld => ?_)
          clear hK K
          refine norm_ (a' := ?_) ?_ ?_
          rotate_left
          · show Act.put _ (some 12) _ = _
            simp only [Act.put, List.setIfInBounds_toArray, List.set_cons_zero, List.set_cons_succ, i64_w, i32_w]
            rfl
          refine one_ (i := 9) (N := some 11) bs0_ rfl rfl (one_of HT_.out (by kernel_rfl)) (by decide) (fun K hK => ?_)
          refine box_step ?hg (N := 11) ?hd (cs := #[.int .i64 0, .int .i64 0]) (t := 99) ?hr ?_; (case hd => rfl); (case hg => rfl); (case hr => exact z209_)
          intro gb260 hg w92 hbox hb
          have HS0_ := (hb.cell (World.block_lt_of_cell? _ _ (hHeld.1))).trans (hHeld.1)
          have HS1_ := (hb.cell (World.block_lt_of_cell? _ _ (hHeld.2.1))).trans (hHeld.2.1)
          have HS2_ := (hb.cell (World.block_lt_of_cell? _ _ (hHeld.2.2.1))).trans (hHeld.2.2.1)
          have HS3_ := (hb.cell (World.block_lt_of_cell? _ _ (hHeld.2.2.2))).trans (hHeld.2.2.2)
          replace HO_5 := Aside0.mk (Kd.R_below z170_ hb)
          replace HO_6 := Aside0.mk (Kd.R_below (Kd.R_elderB z171_ gb260 (Nat.le_of_eq hg.symm)) hb)
          have BK260 := Aside0.mk (hbox)
          have GW260 := Aside0.mk ((z31_ : w.heap.size ≤ gb260))
          have GE260 := Aside0.mk ((z31_ : w.heap.size ≤ gb260))
          replace HB := Aside0.mk (below_step z41_ hb)
          have NB253_260 := Aside0.mk ((z26_ : gb253 ≠ gb260))
          have NB260_253 := Aside0.mk ((z25_ : gb260 ≠ gb253))
          replace BK253 := Aside0.mk (blk_below (g := gb253) (o := .cells #[.string a1_0, .slice A1_1 l1_1.length c1_1, .int .i64 a1_2, .int .i64 a1_3, .int .i64 a1_4, .bool a1_5, .int .i64 a1_6, .bool a1_7, .bool a1_8] 25 (0, 0)) z143_ hb)
          have NB257_260 := Aside0.mk ((z38_ : gb257 ≠ gb260))
          have NB260_257 := Aside0.mk ((z37_ : gb260 ≠ gb257))
          replace BK257 := Aside0.mk (blk_below (g := gb257) (o := .stringIter a1_0 (itN_ a1_0 x258001_1 : Int).toNat) z144_ hb)
          have NB261_260 := Aside0.mk ((z45_ : gb261 ≠ gb260))
          have NB260_261 := Aside0.mk ((z43_ : gb260 ≠ gb261))
          replace BK261 := Aside0.mk (blk_below (g := gb261) (o := .cells #[.int .i64 0, .int .i64 0] 99 (0, 0)) z146_ hb)
          clear hb hbox hg
          refine hK.out _ _ ⟨HS0_, HS1_, HS2_, HS3_⟩ (fun hHeld => ?_)
          clear hK K
          refine norm_ (a' := ?_) ?_ ?_
          rotate_left
          · show Act.put _ (some 11) _ = _
            simp only [Act.put, List.setIfInBounds_toArray, List.set_cons_zero, List.set_cons_succ, i64_w, i32_w]
            rfl
          exact norm_ z177_ (hCont (gb260, gb261) _ ⟨hHeld, z170_, z109_, z143_, z144_, z145_, z146_, GW260.out, GE260.out, NB253_260.out, NB260_253.out, NB257_260.out, NB260_257.out, NB261_260.out, NB260_261.out, GW261.out, GE261.out, NB253_261.out, NB261_253.out, NB257_261.out, NB261_257.out, z33_⟩)
      rintro ⟨gb260, gb261⟩ w93 ⟨hS_, h0_, h1_, h2_, h3_, h4_, h5_, h6_, h7_, h8_, h9_, h10_, h11_, h12_, h13_, h14_, h15_, h16_, h17_, h18_, h19_, h20_⟩
      have n0_ : Aside0 (Kd.R k38 38 w93 w.heap.size (fun _ => True) u5 x5_1) := ⟨h0_⟩
      have n1_ : Aside0 (Kd.R k99 99 w93 w.heap.size (fun k_ => k_ ≠ gb260 ∧ k_ ≠ gb261) (.slice (some ad258) t254.length co90) t254) := ⟨h1_⟩
      have n2_ : Aside0 (w93.heap[gb253]? = some (.cells #[.string a1_0, .slice A1_1 l1_1.length c1_1, .int .i64 a1_2, .int .i64 a1_3, .int .i64 a1_4, .bool a1_5, .int .i64 a1_6, .bool a1_7, .bool a1_8] 25 (0, 0))) := ⟨h2_⟩
      have n3_ : Aside0 (w93.heap[gb257]? = some (.stringIter a1_0 (itN_ a1_0 x258001_1 : Int).toNat)) := ⟨h3_⟩
      have n4_ : Aside0 (w93.heap[gb260]? = some (.cells #[.int .i64 0, .int .i64 0] 99 (0, 0))) := ⟨h4_⟩
      have n5_ : Aside0 (w93.heap[gb261]? = some (.cells #[.int .i64 0, .int .i64 0] 99 (0, 0))) := ⟨h5_⟩
      have n6_ : Aside0 (w.heap.size ≤ gb260) := ⟨h6_⟩
      have n7_ : Aside0 (w.heap.size ≤ gb260) := ⟨h7_⟩
      have n8_ : Aside0 (gb253 ≠ gb260) := ⟨h8_⟩
      have n9_ : Aside0 (gb260 ≠ gb253) := ⟨h9_⟩
      have n10_ : Aside0 (gb257 ≠ gb260) := ⟨h10_⟩
      have n11_ : Aside0 (gb260 ≠ gb257) := ⟨h11_⟩
      have n12_ : Aside0 (gb261 ≠ gb260) := ⟨h12_⟩
      have n13_ : Aside0 (gb260 ≠ gb261) := ⟨h13_⟩
      have n14_ : Aside0 (w.heap.size ≤ gb261) := ⟨h14_⟩
      have n15_ : Aside0 (w.heap.size ≤ gb261) := ⟨h15_⟩
      have n16_ : Aside0 (gb253 ≠ gb261) := ⟨h16_⟩
      have n17_ : Aside0 (gb261 ≠ gb253) := ⟨h17_⟩
      have n18_ : Aside0 (gb257 ≠ gb261) := ⟨h18_⟩
      have n19_ : Aside0 (gb261 ≠ gb257) := ⟨h19_⟩
      have n20_ : Aside0 (Below w.heap.size w w93) := ⟨h20_⟩
      clear HO_5
      clear HO_6
      clear BK253
      clear BK257
      clear HB
      clear h0_ h1_ h2_ h3_ h4_ h5_ h6_ h7_ h8_ h9_ h10_ h11_ h12_ h13_ h14_ h15_ h16_ h17_ h18_ h19_ h20_
      have HO_5 := n0_
      have HO_6 := n1_
      have BK253 := n2_
      have BK257 := n3_
      have BK260 := n4_
      have BK261 := n5_
      have GW260 := n6_
      have GE260 := n7_
      have NB253_260 := n8_
      have NB260_253 := n9_
      have NB257_260 := n10_
      have NB260_257 := n11_
      have NB261_260 := n12_
      have NB260_261 := n13_
      have GW261 := n14_
      have GE261 := n15_
      have NB253_261 := n16_
      have NB261_253 := n17_
      have NB257_261 := n18_
      have NB261_257 := n19_
      have HB := n20_
      clear n0_ n1_ n2_ n3_ n4_ n5_ n6_ n7_ n8_ n9_ n10_ n11_ n12_ n13_ n14_ n15_ n16_ n17_ n18_ n19_ n20_
      have hHeld : w93.cell? (ad258.add ((x8_1).toNat * 2)) = some (.int .i64 ((rd_T99 t254 x8_1).f0)) ∧ w93.cell? ⟨(ad258.add ((x8_1).toNat * 2)).block, (ad258.add ((x8_1).toNat * 2)).off + 1, none⟩ = some (.int .i64 ((rd_T99 t254 x8_1).f1)) ∧ w93.cell? (ad258.add (((ji12)).toNat * 2)) = some (.int .i64 ((rd_T99 t254 (ji12)).f0)) ∧ w93.cell? ⟨(ad258.add (((ji12)).toNat * 2)).block, (ad258.add (((ji12)).toNat * 2)).off + 1, none⟩ = some (.int .i64 ((rd_T99 t254 (ji12)).f1)) := hS_
      refine norm_ (a' := ?_) ?_ ?_
      rotate_left
      · simp only [putAll, Act.put, List.setIfInBounds_toArray, List.set_cons_zero, List.set_cons_succ]
        rfl
      refine one_ (i := 11) (N := none) bs12_ rfl rfl (one_of HT_.out (by kernel_rfl)) (by decide) (fun K hK => ?_)
      have hs94 : w93.cell? ⟨gb260, 0, none⟩ = some (.int .i64 0) := (blk_cell BK260.out 0).trans z198_
      have hfs94 := blk_frozen BK260.out 0
      have hns94_0 := NB253_260.out
      have hns94_1 := NB257_260.out
      have hns94_3 := NB261_260.out
      have hms94_0 := NB260_253.out
      have hms94_1 := NB260_257.out
      have hms94_3 := NB260_261.out
      have hs95 : w93.cell? ⟨gb260, 1, none⟩ = some (.int .i64 0) := (blk_cell BK260.out 1).trans z198_
      have hfs95 := blk_frozen BK260.out 1
      have hns95_0 := NB253_260.out
      have hns95_1 := NB257_260.out
      have hns95_3 := NB261_260.out
      have hms95_0 := NB260_253.out
      have hms95_1 := NB260_257.out
      have hms95_3 := NB260_261.out
      refine skip_ (w1 := ?_) (by rfl) rfl ?_ ?_
      rotate_left
      · go_simp
        rfl
      refine hK.out _ _ ⟨((cell_far (p := ⟨gb260, _, none⟩) z27_ _).trans (((cell_far (p := ⟨gb260, _, none⟩) z27_ _).trans (hHeld.1)))), ((cell_far (p := ⟨gb260, _, none⟩) z27_ _).trans (((cell_far (p := ⟨gb260, _, none⟩) z27_ _).trans (hHeld.2.1)))), ((cell_far (p := ⟨gb260, _, none⟩) z27_ _).trans (((cell_far (p := ⟨gb260, _, none⟩) z27_ _).trans (hHeld.2.2.1)))), ((cell_far (p := ⟨gb260, _, none⟩) z27_ _).trans (((cell_far (p := ⟨gb260, _, none⟩) z27_ _).trans (hHeld.2.2.2))))⟩ (fun hHeld => ?_)
      clear hK K
      refine one_ (i := 12) (N := none) bs13_ rfl rfl (one_of HT_.out (by kernel_rfl)) (by decide) (fun K hK => ?_)
      have hs96 : w93.cell? ⟨gb261, 0, none⟩ = some (.int .i64 0) := (blk_cell BK261.out 0).trans z198_
      have hfs96 := blk_frozen BK261.out 0
      have hns96_0 := NB253_261.out
      have hns96_1 := NB257_261.out
      have hns96_2 := NB260_261.out
      have hms96_0 := NB261_253.out
      have hms96_1 := NB261_257.out
      have hms96_2 := NB261_260.out
      have hs97 : w93.cell? ⟨gb261, 1, none⟩ = some (.int .i64 0) := (blk_cell BK261.out 1).trans z198_
      have hfs97 := blk_frozen BK261.out 1
      have hns97_0 := NB253_261.out
      have hns97_1 := NB257_261.out
      have hns97_2 := NB260_261.out
      have hms97_0 := NB261_253.out
      have hms97_1 := NB261_257.out
      have hms97_2 := NB261_260.out
      refine skip_ (w1 := ?_) (by rfl) rfl ?_ ?_
      rotate_left
      · go_simp
        rfl
      refine hK.out _ _ ⟨((cell_far (p := ⟨gb261, _, none⟩) z28_ _).trans (((cell_far (p := ⟨gb261, _, none⟩) z28_ _).trans (hHeld.1)))), ((cell_far (p := ⟨gb261, _, none⟩) z28_ _).trans (((cell_far (p := ⟨gb261, _, none⟩) z28_ _).trans (hHeld.2.1)))), ((cell_far (p := ⟨gb261, _, none⟩) z28_ _).trans (((cell_far (p := ⟨gb261, _, none⟩) z28_ _).trans (hHeld.2.2.1)))), ((cell_far (p := ⟨gb261, _, none⟩) z28_ _).trans (((cell_far (p := ⟨gb261, _, none⟩) z28_ _).trans (hHeld.2.2.2))))⟩ (fun hHeld => ?_)
      clear hK K
      refine done_ (done_of HT_.out (by kernel_rfl)) ?_
      try go_wp2_with (first | ((with_reducible refine gate_callee (f := 42) rfl ?_); refine goesL_ (some 39) rfl rfl Try.func42 (by kernel_rfl) rfl #[.int .i32 (itR_ a1_0 x258001_1)] rfl z113_ ?_; (with_reducible refine (paint_drawn.calls k1 (itR_ a1_0 x258001_1) false _ A15.out).mono ?_); rintro e w' ⟨rfl, ⟨nd, rfl⟩⟩; refine ⟨_, rfl, ?_⟩; have hnb98 := NB261_253.out; have hnc98 := NB253_261.out; have hnb99 := NB261_257.out; have hnc99 := NB257_261.out; have hnb100 := NB261_260.out; have hnc100 := NB260_261.out; have hcz101_0 : w93.cell? ⟨gb261, 0, none⟩ = some (.int .i64 0) := (blk_cell BK261.out 0).trans rfl; have hcz101_1 : w93.cell? ⟨gb261, 1, none⟩ = some (.int .i64 0) := (blk_cell BK261.out 1).trans rfl; have hfz101_0 := blk_frozen BK261.out 0; have hfz101_1 := blk_frozen BK261.out 1; have hnb102 := NB260_253.out; have hnc102 := NB253_260.out; have hnb103 := NB260_257.out; have hnc103 := NB257_260.out; have hcz104_0 : w93.cell? ⟨gb260, 0, none⟩ = some (.int .i64 0) := (blk_cell BK260.out 0).trans rfl; have hcz104_1 : w93.cell? ⟨gb260, 1, none⟩ = some (.int .i64 0) := (blk_cell BK260.out 1).trans rfl; have hfz104_0 := blk_frozen BK260.out 0; have hfz104_1 := blk_frozen BK260.out 1) | (go_at_call 43; (with_reducible refine (runes_Kind.calls k1 (itR_ a1_0 x258001_1) t263 _ A68.out).mono ?_); rintro e w' ⟨rfl, ⟨nd, rfl⟩⟩) | (go_at_call 43; (with_reducible refine (runes_Kind.calls k1 (itR_ a1_0 x258001_1) t264 _ A87.out).mono ?_); rintro e w' ⟨rfl, ⟨nd, rfl⟩⟩))
      first | go_roundg k1 | (rw [← hji12]; go_roundg k1)
      case measure => have := HK1.out; omega
      case rel => exact ⟨(x5_1), ((t264 != 2)), (ji12), (itN_ a1_0 x258001_1), (by first | rfl | (have e_ := Option.some.inj (A68.out.symm.trans A87.out); first | (rw [e_]; done) | (simp [e_]; done)) | (simp; done) | (simp [*]; done)), z180_, z191_, ⟨z218_⟩, ⟨z11_⟩, ⟨z10_⟩, ⟨z7_⟩, ⟨z8_⟩, ⟨z32_⟩⟩
end Go.Proofs.Ytblmcdpfhdamjaa.PPaintWindow
