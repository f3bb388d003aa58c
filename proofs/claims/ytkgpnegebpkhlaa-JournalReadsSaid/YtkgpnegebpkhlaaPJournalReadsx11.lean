-- WRITTEN BY wip/xprint.py of this repo, over the kit's print; functions the print does not take are by hand
import Derived.Test.YtkgpnegebpkhlaaPJournalReadsx0
import Derived.Test.YtkgpnegebpkhlaaPJournalReadsx7
import Derived.Test.YtkgpnegebpkhlaaPJournalReadsx8
import Derived.Test.YtkgpnegebpkhlaaPJournalReadsx9
import Derived.Test.YtkgpnegebpkhlaaPJournalReadsx10
namespace Go.Proofs.Ytkgpnegebpkhlaa.PJournalReads
open Go.RowKit Go.Proofs.YtkgpnegebpkhlaaW.PrintWords Go.Proofs.YtkgpnegebpkhlaaW.PrintLast Go.Proofs.YtkgpnegebpkhlaaW.PrintMore
attribute [local go_sem] max2_int min2_int max_two min_two max_three min_three max_four min_four   -- for this text's walks alone
set_option linter.unusedVariables false
set_option linter.unusedSimpArgs false
/-! ### regletref23_One: function 28 -/
mutual
def regletref23_One.l0 : Nat → List Int → Int → Int → Int → Int → Int → Int → ByteArray → Int → Int → Int → Option (Int × Int × Int × Int × ByteArray × Int)
  | 0, _, _, _, _, _, _, _, _, _, _, _ => none
  | k + 1, x0, x6, x7, x274000, x274001, x274002, x274003, x274004, x276000, x276001, x276002 => (regletref23_Many.f x274000).bind fun t276 => (if x7 < t276 then (if 0 ≤ x6 then (if x6 ≤ (x0.length : Int) then ((regletref23_value.f k (x0.drop (x6 : Int).toNat)).bind fun bt278 => (if bt278.2 = 0 then (some (x274000, x274001, x274002, x274003, x274004, 0)) else (if bt278.2 = 10 then (if 9 < (bt278.1.length : Int) then (if (rd bt278.1 9) > 1 then (some (x274000, x274001, x274002, x274003, x274004, 0)) else ((regletref23_number.f k bt278.1).bind fun t283 => (if 0 ≤ x7 then (if x7 < 3 then (if x7 = 0 then (regletref23_One.l0 k x0 (wrap64 (x6 + bt278.2)) (wrap64 (x7 + 1)) x274000 x274001 x274002 x274003 x274004 t283 x276001 x276002) else (if x7 = 1 then (regletref23_One.l0 k x0 (wrap64 (x6 + bt278.2)) (wrap64 (x7 + 1)) x274000 x274001 x274002 x274003 x274004 x276000 t283 x276002) else (if x7 = 2 then (regletref23_One.l0 k x0 (wrap64 (x6 + bt278.2)) (wrap64 (x7 + 1)) x274000 x274001 x274002 x274003 x274004 x276000 x276001 t283) else (none)))) else (none)) else (none)))) else (none)) else ((regletref23_number.f k bt278.1).bind fun t284 => (if 0 ≤ x7 then (if x7 < 3 then (if x7 = 0 then (regletref23_One.l0 k x0 (wrap64 (x6 + bt278.2)) (wrap64 (x7 + 1)) x274000 x274001 x274002 x274003 x274004 t284 x276001 x276002) else (if x7 = 1 then (regletref23_One.l0 k x0 (wrap64 (x6 + bt278.2)) (wrap64 (x7 + 1)) x274000 x274001 x274002 x274003 x274004 x276000 t284 x276002) else (if x7 = 2 then (regletref23_One.l0 k x0 (wrap64 (x6 + bt278.2)) (wrap64 (x7 + 1)) x274000 x274001 x274002 x274003 x274004 x276000 x276001 t284) else (none)))) else (none)) else (none)))))) else (none)) else (none)) else (if x274000 = 1 then (if 0 ≤ x6 then (if x6 ≤ (x0.length : Int) then ((regletref23_value.f k (x0.drop (x6 : Int).toNat)).bind fun bt286 => (if bt286.2 = 0 then (regletref23_One.j1 k x0 x6 bt286.1 bt286.2 true x274000 x276000 x276001 x276002 x274004) else ((regletref23_length.f k bt286.1).bind fun t290 => (regletref23_One.j1 k x0 x6 bt286.1 bt286.2 (decide (t290 > (wrap64 ((wrap64 ((x0.length : Int) - x6)) - bt286.2)))) x274000 x276000 x276001 x276002 x274004)))) else (none)) else (none)) else (regletref23_One.j2 k x0 x6 x274000 x276000 x276001 x276002 x274004)))
def regletref23_One.j2 : Nat → List Int → Int → Int → Int → Int → Int → ByteArray → Option (Int × Int × Int × Int × ByteArray × Int)
  | 0, _, _, _, _, _, _, _ => none
  | k + 1, x0, x6, x274000, x274001, x274002, x274003, x274004 => (regletref23_Right.f k x274000 x274001 x274002 x274003 x274004).bind fun t294 => (if t294 = 0 then ((regletref23_Bytes.f k x274000 x274001 x274002 x274003 x274004).bind fun t295 => (if 0 ≤ x6 then (if x6 ≤ (x0.length : Int) then ((regletref23_same.f t295 (x0.take (x6 : Int).toNat)).bind fun t299 => (if t299 = true then (some (x274000, x274001, x274002, x274003, x274004, x6)) else (some (x274000, x274001, x274002, x274003, x274004, 0)))) else (none)) else (none))) else (some (x274000, x274001, x274002, x274003, x274004, 0)))
def regletref23_One.j1 : Nat → List Int → Int → List Int → Int → Bool → Int → Int → Int → Int → ByteArray → Option (Int × Int × Int × Int × ByteArray × Int)
  | 0, _, _, _, _, _, _, _, _, _, _ => none
  | k + 1, x0, x6, x10, x11, x86, x274000, x274001, x274002, x274003, x274004 => if x86 = true then (some (x274000, x274001, x274002, x274003, x274004, 0)) else ((regletref23_length.f k x10).bind fun t291 => ((regletref23_length.f k x10).bind fun t292 => (if 0 ≤ (wrap64 ((wrap64 ((wrap64 (x6 + x11)) + t291)) - t292)) then (if (wrap64 ((wrap64 ((wrap64 (x6 + x11)) + t291)) - t292)) ≤ (wrap64 ((wrap64 (x6 + x11)) + t291)) then (if (wrap64 ((wrap64 (x6 + x11)) + t291)) ≤ (x0.length : Int) then (regletref23_One.j2 k x0 (wrap64 ((wrap64 (x6 + x11)) + t291)) x274000 x274001 x274002 x274003 (strOfNums ((x0.take ((wrap64 ((wrap64 (x6 + x11)) + t291)) : Int).toNat).drop ((wrap64 ((wrap64 ((wrap64 (x6 + x11)) + t291)) - t292)) : Int).toNat))) else (none)) else (none)) else (none))))
end
def regletref23_One.f (k : Nat) (l0 : List Int) : Option (Int × Int × Int × Int × ByteArray × Int) := if (l0.length : Int) = 0 then (some (0, 0, 0, 0, (⟨#[]⟩ : ByteArray), 0)) else (if 0 < (l0.length : Int) then (regletref23_One.l0 k l0 1 0 (wrap64 (rd l0 0)) 0 0 0 (⟨#[]⟩ : ByteArray) 0 0 0) else (none))
theorem regletref23_One.mono_l : ∀ k, (∀ y0 y1 y2 y3 y4 y5 y6 y7 y8 y9 y10, LeO (regletref23_One.l0 k y0 y1 y2 y3 y4 y5 y6 y7 y8 y9 y10) (regletref23_One.l0 (k + 1) y0 y1 y2 y3 y4 y5 y6 y7 y8 y9 y10)) ∧ (∀ y0 y1 y2 y3 y4 y5 y6, LeO (regletref23_One.j2 k y0 y1 y2 y3 y4 y5 y6) (regletref23_One.j2 (k + 1) y0 y1 y2 y3 y4 y5 y6)) ∧ (∀ y0 y1 y2 y3 y4 y5 y6 y7 y8 y9, LeO (regletref23_One.j1 k y0 y1 y2 y3 y4 y5 y6 y7 y8 y9) (regletref23_One.j1 (k + 1) y0 y1 y2 y3 y4 y5 y6 y7 y8 y9))
  | 0 => ⟨fun _ _ _ _ _ _ _ _ _ _ _ r h => by simp [regletref23_One.l0] at h, fun _ _ _ _ _ _ _ r h => by simp [regletref23_One.j2] at h, fun _ _ _ _ _ _ _ _ _ _ r h => by simp [regletref23_One.j1] at h⟩
  | k + 1 => by
    obtain ⟨ih0, ih1, ih2⟩ := regletref23_One.mono_l k
    refine ⟨?_, ?_, ?_⟩
    · intro y0 y1 y2 y3 y4 y5 y6 y7 y8 y9 y10
      unfold regletref23_One.l0
      repeat' first | (with_reducible first | exact ih0 _ _ _ _ _ _ _ _ _ _ _ | exact ih1 _ _ _ _ _ _ _ | exact ih2 _ _ _ _ _ _ _ _ _ _ | exact regletref23_Bytes.mono _ _ _ _ _ _ | exact regletref23_Right.mono _ _ _ _ _ _ | exact regletref23_length.mono _ _ | exact regletref23_number.mono _ _ | exact regletref23_value.mono _ _ | exact LeO.refl _ | exact LeO.none _ | refine LeO.ite ?_ ?_ | refine LeO.bind ?_ (fun _ => ?_)) | exact ih0 _ _ _ _ _ _ _ _ _ _ _ | exact ih1 _ _ _ _ _ _ _ | exact ih2 _ _ _ _ _ _ _ _ _ _ | exact regletref23_Bytes.mono _ _ _ _ _ _ | exact regletref23_Right.mono _ _ _ _ _ _ | exact regletref23_length.mono _ _ | exact regletref23_number.mono _ _ | exact regletref23_value.mono _ _ | exact LeO.none _ | refine LeO.ite ?_ ?_ | refine LeO.bind ?_ (fun _ => ?_)
    · intro y0 y1 y2 y3 y4 y5 y6
      unfold regletref23_One.j2
      repeat' first | (with_reducible first | exact ih0 _ _ _ _ _ _ _ _ _ _ _ | exact ih1 _ _ _ _ _ _ _ | exact ih2 _ _ _ _ _ _ _ _ _ _ | exact regletref23_Bytes.mono _ _ _ _ _ _ | exact regletref23_Right.mono _ _ _ _ _ _ | exact regletref23_length.mono _ _ | exact regletref23_number.mono _ _ | exact regletref23_value.mono _ _ | exact LeO.refl _ | exact LeO.none _ | refine LeO.ite ?_ ?_ | refine LeO.bind ?_ (fun _ => ?_)) | exact ih0 _ _ _ _ _ _ _ _ _ _ _ | exact ih1 _ _ _ _ _ _ _ | exact ih2 _ _ _ _ _ _ _ _ _ _ | exact regletref23_Bytes.mono _ _ _ _ _ _ | exact regletref23_Right.mono _ _ _ _ _ _ | exact regletref23_length.mono _ _ | exact regletref23_number.mono _ _ | exact regletref23_value.mono _ _ | exact LeO.none _ | refine LeO.ite ?_ ?_ | refine LeO.bind ?_ (fun _ => ?_)
    · intro y0 y1 y2 y3 y4 y5 y6 y7 y8 y9
      unfold regletref23_One.j1
      repeat' first | (with_reducible first | exact ih0 _ _ _ _ _ _ _ _ _ _ _ | exact ih1 _ _ _ _ _ _ _ | exact ih2 _ _ _ _ _ _ _ _ _ _ | exact regletref23_Bytes.mono _ _ _ _ _ _ | exact regletref23_Right.mono _ _ _ _ _ _ | exact regletref23_length.mono _ _ | exact regletref23_number.mono _ _ | exact regletref23_value.mono _ _ | exact LeO.refl _ | exact LeO.none _ | refine LeO.ite ?_ ?_ | refine LeO.bind ?_ (fun _ => ?_)) | exact ih0 _ _ _ _ _ _ _ _ _ _ _ | exact ih1 _ _ _ _ _ _ _ | exact ih2 _ _ _ _ _ _ _ _ _ _ | exact regletref23_Bytes.mono _ _ _ _ _ _ | exact regletref23_Right.mono _ _ _ _ _ _ | exact regletref23_length.mono _ _ | exact regletref23_number.mono _ _ | exact regletref23_value.mono _ _ | exact LeO.none _ | refine LeO.ite ?_ ?_ | refine LeO.bind ?_ (fun _ => ?_)
theorem regletref23_One.mono : ∀ a0 k, LeO (regletref23_One.f k a0) (regletref23_One.f (k + 1) a0) := by
  intro a0 k
  obtain ⟨ih0, ih1, ih2⟩ := regletref23_One.mono_l k
  unfold regletref23_One.f
  repeat' first | (with_reducible first | exact ih0 _ _ _ _ _ _ _ _ _ _ _ | exact ih1 _ _ _ _ _ _ _ | exact ih2 _ _ _ _ _ _ _ _ _ _ | exact regletref23_Bytes.mono _ _ _ _ _ _ | exact regletref23_Right.mono _ _ _ _ _ _ | exact regletref23_length.mono _ _ | exact regletref23_number.mono _ _ | exact regletref23_value.mono _ _ | exact LeO.refl _ | exact LeO.none _ | refine LeO.ite ?_ ?_ | refine LeO.bind ?_ (fun _ => ?_)) | exact ih0 _ _ _ _ _ _ _ _ _ _ _ | exact ih1 _ _ _ _ _ _ _ | exact ih2 _ _ _ _ _ _ _ _ _ _ | exact regletref23_Bytes.mono _ _ _ _ _ _ | exact regletref23_Right.mono _ _ _ _ _ _ | exact regletref23_length.mono _ _ | exact regletref23_number.mono _ _ | exact regletref23_value.mono _ _ | exact LeO.none _ | refine LeO.ite ?_ ?_ | refine LeO.bind ?_ (fun _ => ?_)
def regletref23_One.T15 : Bool × List (List Nat × List Nat) := (true, [([], []), ([0], [0]), ([], []), ([2], [2]), ([], []), ([4], [4]), ([0, 1], []), ([6, 1, 0, 1], [1, 6]), ([0, 1, 2, 3, 6, 7], []), ([8, 3, 7, 0, 1, 2, 3, 6, 7], [3, 8]), ([0, 1, 2, 3, 4, 5, 6, 7, 8, 9], []), ([10, 5, 9, 0, 1, 2, 3, 4, 5, 6, 7, 8, 9], [5, 10])])
def regletref23_One.B15 : List Nat := [0, 1, 0, 4, 0, 16, 3, 67, 207, 463, 1023, 2047]
theorem regletref23_One.tab15 : rtab .any (opsOf Try.f28 15) = regletref23_One.T15 := by kernel_rfl
theorem regletref23_One.bits15 : waitsOk regletref23_One.T15.2 regletref23_One.B15 = true := by kernel_rfl
def regletref23_One.T22 : Bool × List (List Nat × List Nat) := (true, [([], []), ([0], [0]), ([1], [1]), ([2, 1], [2]), ([3], [3]), ([4, 3, 3], [3, 4]), ([3], [3]), ([3], [3]), ([6, 7, 3], [3, 6, 7]), ([5, 8, 5, 3], [3, 5, 8]), ([9, 3], [3, 9]), ([3, 10], [3, 10])])
def regletref23_One.B22 : List Nat := [0, 1, 3, 7, 15, 31, 15, 15, 207, 511, 1023, 2047]
theorem regletref23_One.tab22 : rtab .any (opsOf Try.f28 22) = regletref23_One.T22 := by kernel_rfl
theorem regletref23_One.bits22 : waitsOk regletref23_One.T22.2 regletref23_One.B22 = true := by kernel_rfl
set_option maxHeartbeats 8000000 in
set_option maxRecDepth 100000 in
theorem regletref23_One.calls (k : Nat) (A0 : Option Addr) (c0 : Nat) (l0 : List Int) (r1 : Int) (r2 : Int) (r3 : Int) (r4 : Int) (r5 : ByteArray) (r6 : Int) (w : World) (hr0 : Kd.C (Kd.int .u8) w A0 l0.length l0) (hc0 : l0.length ≤ c0) (h : regletref23_One.f k l0 = some (r1, r2, r3, r4, r5, r6)) :
    Calls Try.prog 28 #[.slice A0 l0.length c0] w fun e w' => e = .returned (.tuple #[.agg #[.int .i64 r1, .int .i64 r2, .int .i64 r3, .int .i64 r4, .string r5], .int .i64 r6]) ∧ Below w.heap.size w w' := by
  have hu30 := Try.underlying30
  have hu68 := Try.underlying68
  have HR0 := Aside0.mk hr0
  have HC0 := Aside0.mk hc0
  clear hr0 hc0
  have HB := Aside0.mk (Below.refl w.heap.size w)
  have H : (if (l0.length : Int) = 0 then (some (0, 0, 0, 0, (⟨#[]⟩ : ByteArray), 0)) else (if 0 < (l0.length : Int) then (regletref23_One.l0 k l0 1 0 (wrap64 (rd l0 0)) 0 0 0 (⟨#[]⟩ : ByteArray) 0 0 0) else (none))) = some (r1, r2, r3, r4, r5, r6) := h
  clear h
  by_cases c2 : (l0.length : Int) = 0
  · rw [if_pos c2] at H
    have c2b0 : ((l0.length : Int) == 0) = true := beq_iff_eq.mpr c2
    have c2b1 : ((l0.length : Int) != 0) = false := bne_eq_false_iff_eq.mpr c2
    clear c2
    simp only [Option.some.injEq, Prod.mk.injEq] at H
    obtain ⟨rfl, rfl, rfl, rfl, rfl, rfl⟩ := H
    go_enter Try.func28, Try.ntmps28
    go_wp2_with (first | ((with_reducible refine gate_dst (N := 2) rfl ?_); (try (refine gate_guard (by rfl) ?_; dsimp only)); refine box_event ?hg (N := 2) ?hd (cs := #[.int .i64 0, .int .i64 0, .int .i64 0, .int .i64 0, .string (⟨#[]⟩ : ByteArray)]) (t := 30) ?hr ?_; (case hd => rfl); (case hg => rfl); (case hr => first | (go_simp; done) | (go_simp; rfl)); intro gb272 hg w3 hbox hb; have n0_ := Aside0.mk (below_step (by repeat (first | (with_reducible first | exact HB.out | apply below_alloc | apply pw_below_drewN | apply below_drew1) | exact HB.out)) hb); have n1_ := Aside0.mk (hbox); have n2_ := Aside0.mk ((by rw [hg]; exact (below_size (by repeat (first | (with_reducible first | exact HB.out | apply below_alloc | apply pw_below_drewN | apply below_drew1) | exact HB.out))) : w.heap.size ≤ gb272)); have n3_ := Aside0.mk ((by rw [hg]; exact (below_size (by repeat (first | (with_reducible first | exact HB.out | apply below_alloc | apply pw_below_drewN | apply below_drew1) | exact HB.out))) : w.heap.size ≤ gb272)); clear HB; have HB := n0_; have BK272 := n1_; have GW272 := n2_; have GE272 := n3_; clear n0_ n1_ n2_ n3_; clear hb hbox hg) | ((with_reducible refine gate_dst (N := 4) rfl ?_); (try (refine gate_guard (by rfl) ?_; dsimp only)); refine box_event ?hg (N := 4) ?hd (cs := #[.int .i64 0, .int .i64 0, .int .i64 0, .int .i64 0, .string (⟨#[]⟩ : ByteArray)]) (t := 30) ?hr ?_; (case hd => rfl); (case hg => rfl); (case hr => first | (go_simp; done) | (go_simp; rfl)); intro gb273 hg w4 hbox hb; have n0_ := Aside0.mk (blk_below (g := gb272) (o := .cells #[.int .i64 0, .int .i64 0, .int .i64 0, .int .i64 0, .string (⟨#[]⟩ : ByteArray)] 30 (0, 0)) (by (with_reducible repeat (first | refine blk_drewN ?_ _ | refine blk_drew ?_ | refine blk_alloc ?_ _)); exact BK272.out) hb); have n1_ := Aside0.mk (below_step (by repeat (first | (with_reducible first | exact HB.out | apply below_alloc | apply pw_below_drewN | apply below_drew1 | refine below_set ?_ GE272.out) | exact HB.out)) hb); have n2_ := Aside0.mk (hbox); have n3_ := Aside0.mk ((by rw [hg]; exact (below_size (by repeat (first | (with_reducible first | exact HB.out | apply below_alloc | apply pw_below_drewN | apply below_drew1 | refine below_set ?_ GE272.out) | exact HB.out))) : w.heap.size ≤ gb273)); have n4_ := Aside0.mk ((by rw [hg]; exact (below_size (by repeat (first | (with_reducible first | exact HB.out | apply below_alloc | apply pw_below_drewN | apply below_drew1 | refine below_set ?_ GE272.out) | exact HB.out))) : w.heap.size ≤ gb273)); have n5_ := Aside0.mk ((by rw [hg]; exact Nat.ne_of_lt (blk_lt (g := gb272) (o := .cells #[.int .i64 0, .int .i64 0, .int .i64 0, .int .i64 0, .string (⟨#[]⟩ : ByteArray)] 30 (0, 0)) (by (with_reducible repeat (first | refine blk_drewN ?_ _ | refine blk_drew ?_ | refine blk_alloc ?_ _)); exact BK272.out)) : gb272 ≠ gb273)); have n6_ := Aside0.mk ((by rw [hg]; exact Nat.ne_of_gt (blk_lt (g := gb272) (o := .cells #[.int .i64 0, .int .i64 0, .int .i64 0, .int .i64 0, .string (⟨#[]⟩ : ByteArray)] 30 (0, 0)) (by (with_reducible repeat (first | refine blk_drewN ?_ _ | refine blk_drew ?_ | refine blk_alloc ?_ _)); exact BK272.out)) : gb273 ≠ gb272)); clear BK272; clear HB; have BK272 := n0_; have HB := n1_; have BK273 := n2_; have GW273 := n3_; have GE273 := n4_; have NB272_273 := n5_; have NB273_272 := n6_; clear n0_ n1_ n2_ n3_ n4_ n5_ n6_; clear hb hbox hg; have hnb5 := NB273_272.out; have hnc5 := NB272_273.out; have hcz6_0 : w4.cell? ⟨gb273, 0, none⟩ = some (.int .i64 0) := (blk_cell BK273.out 0).trans rfl; have hcz6_1 : w4.cell? ⟨gb273, 1, none⟩ = some (.int .i64 0) := (blk_cell BK273.out 1).trans rfl; have hcz6_2 : w4.cell? ⟨gb273, 2, none⟩ = some (.int .i64 0) := (blk_cell BK273.out 2).trans rfl; have hcz6_3 : w4.cell? ⟨gb273, 3, none⟩ = some (.int .i64 0) := (blk_cell BK273.out 3).trans rfl; have hcz6_4 : w4.cell? ⟨gb273, 4, none⟩ = some (.string (⟨#[]⟩ : ByteArray)) := (blk_cell BK273.out 4).trans rfl; have hfz6_0 := blk_frozen BK273.out 0; have hfz6_1 := blk_frozen BK273.out 1; have hfz6_2 := blk_frozen BK273.out 2; have hfz6_3 := blk_frozen BK273.out 3; have hfz6_4 := blk_frozen BK273.out 4; have hcz7_0 : w4.cell? ⟨gb272, 0, none⟩ = some (.int .i64 0) := (blk_cell BK272.out 0).trans rfl; have hcz7_1 : w4.cell? ⟨gb272, 1, none⟩ = some (.int .i64 0) := (blk_cell BK272.out 1).trans rfl; have hcz7_2 : w4.cell? ⟨gb272, 2, none⟩ = some (.int .i64 0) := (blk_cell BK272.out 2).trans rfl; have hcz7_3 : w4.cell? ⟨gb272, 3, none⟩ = some (.int .i64 0) := (blk_cell BK272.out 3).trans rfl; have hcz7_4 : w4.cell? ⟨gb272, 4, none⟩ = some (.string (⟨#[]⟩ : ByteArray)) := (blk_cell BK272.out 4).trans rfl; have hfz7_0 := blk_frozen BK272.out 0; have hfz7_1 := blk_frozen BK272.out 1; have hfz7_2 := blk_frozen BK272.out 2; have hfz7_3 := blk_frozen BK272.out 3; have hfz7_4 := blk_frozen BK272.out 4))
    refine bodyPost_ret (results_ct rfl _ _ gb272 30 #[.int .i64 0, .int .i64 0, .int .i64 0, .int .i64 0, .string (⟨#[]⟩ : ByteArray)] (0, 0) _ rfl (by (with_reducible repeat (first | refine blk_drewN ?_ _ | refine blk_drew ?_ | refine blk_alloc ?_ _)); refine blk_put (cs := #[.int .i64 0, .int .i64 0, .int .i64 0, .int .i64 0, .string (⟨#[]⟩ : ByteArray)]) ?_ 4 _ rfl; (with_reducible repeat (first | refine blk_drewN ?_ _ | refine blk_drew ?_ | refine blk_alloc ?_ _)); refine blk_put (cs := #[.int .i64 0, .int .i64 0, .int .i64 0, .int .i64 0, .string (⟨#[]⟩ : ByteArray)]) ?_ 3 _ rfl; (with_reducible repeat (first | refine blk_drewN ?_ _ | refine blk_drew ?_ | refine blk_alloc ?_ _)); refine blk_put (cs := #[.int .i64 0, .int .i64 0, .int .i64 0, .int .i64 0, .string (⟨#[]⟩ : ByteArray)]) ?_ 2 _ rfl; (with_reducible repeat (first | refine blk_drewN ?_ _ | refine blk_drew ?_ | refine blk_alloc ?_ _)); refine blk_put (cs := #[.int .i64 0, .int .i64 0, .int .i64 0, .int .i64 0, .string (⟨#[]⟩ : ByteArray)]) ?_ 1 _ rfl; (with_reducible repeat (first | refine blk_drewN ?_ _ | refine blk_drew ?_ | refine blk_alloc ?_ _)); refine blk_put (cs := #[.int .i64 0, .int .i64 0, .int .i64 0, .int .i64 0, .string (⟨#[]⟩ : ByteArray)]) ?_ 0 _ rfl; (with_reducible repeat (first | refine blk_drewN ?_ _ | refine blk_drew ?_ | refine blk_alloc ?_ _)); exact BK272.out) Try.underlying30 rfl (by kernel_rfl)) rfl ?_
    exact ⟨by first | rfl | (simp [errW_none, errW_some] <;> rfl) | (simp [*, errW_none, errW_some] <;> rfl), by repeat (first | (with_reducible first | exact HB.out | apply below_alloc | apply pw_below_drewN | apply below_drew1 | refine below_set ?_ GE272.out | refine below_set ?_ GE273.out) | exact HB.out)⟩
  rw [if_neg c2] at H
  have c2b0 : ((l0.length : Int) == 0) = false := beq_eq_false_iff_ne.mpr c2
  have c2b1 : ((l0.length : Int) != 0) = true := bne_iff_ne.mpr c2
  have c2b2 : ¬ (l0 = []) := fun h_ => c2 (by rw [h_]; rfl)
  by_cases c8 : 0 < (l0.length : Int)
  rotate_left
  · rw [if_neg c8] at H
    exact absurd H (by simp)
  rw [if_pos c8] at H
  have c8b0 : decide (0 < (l0.length : Int)) = true := decide_eq_true c8
  have c8b1 : decide (0 < l0.length) = true := decide_eq_true (by omega)
  clear c8
  have H' := Aside0.mk H
  clear H
  go_enter Try.func28, Try.ntmps28
  go_wp2_with (first | ((with_reducible refine gate_dst (N := 2) rfl ?_); (try (refine gate_guard (by rfl) ?_; dsimp only)); refine box_event ?hg (N := 2) ?hd (cs := #[.int .i64 0, .int .i64 0, .int .i64 0, .int .i64 0, .string (⟨#[]⟩ : ByteArray)]) (t := 30) ?hr ?_; (case hd => rfl); (case hg => rfl); (case hr => first | (go_simp; done) | (go_simp; rfl)); intro gb272 hg w9 hbox hb; have n0_ := Aside0.mk (below_step (by repeat (first | (with_reducible first | exact HB.out | apply below_alloc | apply pw_below_drewN | apply below_drew1) | exact HB.out)) hb); have n1_ := Aside0.mk (hbox); have n2_ := Aside0.mk ((by rw [hg]; exact (below_size (by repeat (first | (with_reducible first | exact HB.out | apply below_alloc | apply pw_below_drewN | apply below_drew1) | exact HB.out))) : w.heap.size ≤ gb272)); have n3_ := Aside0.mk ((by rw [hg]; exact (below_size (by repeat (first | (with_reducible first | exact HB.out | apply below_alloc | apply pw_below_drewN | apply below_drew1) | exact HB.out))) : w.heap.size ≤ gb272)); clear HB; have HB := n0_; have BK272 := n1_; have GW272 := n2_; have GE272 := n3_; clear n0_ n1_ n2_ n3_; clear hb hbox hg) | ((with_reducible refine gate_dst (N := 4) rfl ?_); (try (refine gate_guard (by rfl) ?_; dsimp only)); refine box_event ?hg (N := 4) ?hd (cs := #[.int .i64 0, .int .i64 0, .int .i64 0, .int .i64 0, .string (⟨#[]⟩ : ByteArray)]) (t := 30) ?hr ?_; (case hd => rfl); (case hg => rfl); (case hr => first | (go_simp; done) | (go_simp; rfl)); intro gb273 hg w10 hbox hb; have n0_ := Aside0.mk (blk_below (g := gb272) (o := .cells #[.int .i64 0, .int .i64 0, .int .i64 0, .int .i64 0, .string (⟨#[]⟩ : ByteArray)] 30 (0, 0)) (by (with_reducible repeat (first | refine blk_drewN ?_ _ | refine blk_drew ?_ | refine blk_alloc ?_ _)); exact BK272.out) hb); have n1_ := Aside0.mk (below_step (by repeat (first | (with_reducible first | exact HB.out | apply below_alloc | apply pw_below_drewN | apply below_drew1 | refine below_set ?_ GE272.out) | exact HB.out)) hb); have n2_ := Aside0.mk (hbox); have n3_ := Aside0.mk ((by rw [hg]; exact (below_size (by repeat (first | (with_reducible first | exact HB.out | apply below_alloc | apply pw_below_drewN | apply below_drew1 | refine below_set ?_ GE272.out) | exact HB.out))) : w.heap.size ≤ gb273)); have n4_ := Aside0.mk ((by rw [hg]; exact (below_size (by repeat (first | (with_reducible first | exact HB.out | apply below_alloc | apply pw_below_drewN | apply below_drew1 | refine below_set ?_ GE272.out) | exact HB.out))) : w.heap.size ≤ gb273)); have n5_ := Aside0.mk ((by rw [hg]; exact Nat.ne_of_lt (blk_lt (g := gb272) (o := .cells #[.int .i64 0, .int .i64 0, .int .i64 0, .int .i64 0, .string (⟨#[]⟩ : ByteArray)] 30 (0, 0)) (by (with_reducible repeat (first | refine blk_drewN ?_ _ | refine blk_drew ?_ | refine blk_alloc ?_ _)); exact BK272.out)) : gb272 ≠ gb273)); have n6_ := Aside0.mk ((by rw [hg]; exact Nat.ne_of_gt (blk_lt (g := gb272) (o := .cells #[.int .i64 0, .int .i64 0, .int .i64 0, .int .i64 0, .string (⟨#[]⟩ : ByteArray)] 30 (0, 0)) (by (with_reducible repeat (first | refine blk_drewN ?_ _ | refine blk_drew ?_ | refine blk_alloc ?_ _)); exact BK272.out)) : gb273 ≠ gb272)); clear BK272; clear HB; have BK272 := n0_; have HB := n1_; have BK273 := n2_; have GW273 := n3_; have GE273 := n4_; have NB272_273 := n5_; have NB273_272 := n6_; clear n0_ n1_ n2_ n3_ n4_ n5_ n6_; clear hb hbox hg; have p274 : 0 ≤ (0 : Int) := (by omega); have q274 : 0 < (l0.length : Int) := of_decide_eq_true (by first | (with_reducible assumption) | assumption); obtain ⟨ad274, e274, hx274_0⟩ := Kd.at_int HR0.out 0 p274 q274; cases e274; have qi274 : (0 < l0.length) = True := eq_true (by omega); (try rw [show ((0 : Int)).toNat = 0 from rfl] at hx274_0); (try rw [Addr.add_zero'] at hx274_0); replace hx274_0 := (HB.out.cell (World.block_lt_of_cell? w _ hx274_0)).trans hx274_0; replace p274 := eq_true p274; replace q274 := eq_true q274; have hnb11 := NB273_272.out; have hnc11 := NB272_273.out; have hcz12_0 : w10.cell? ⟨gb273, 0, none⟩ = some (.int .i64 0) := (blk_cell BK273.out 0).trans rfl; have hcz12_1 : w10.cell? ⟨gb273, 1, none⟩ = some (.int .i64 0) := (blk_cell BK273.out 1).trans rfl; have hcz12_2 : w10.cell? ⟨gb273, 2, none⟩ = some (.int .i64 0) := (blk_cell BK273.out 2).trans rfl; have hcz12_3 : w10.cell? ⟨gb273, 3, none⟩ = some (.int .i64 0) := (blk_cell BK273.out 3).trans rfl; have hcz12_4 : w10.cell? ⟨gb273, 4, none⟩ = some (.string (⟨#[]⟩ : ByteArray)) := (blk_cell BK273.out 4).trans rfl; have hfz12_0 := blk_frozen BK273.out 0; have hfz12_1 := blk_frozen BK273.out 1; have hfz12_2 := blk_frozen BK273.out 2; have hfz12_3 := blk_frozen BK273.out 3; have hfz12_4 := blk_frozen BK273.out 4) | ((with_reducible refine gate_dst (N := 5) rfl ?_); (try (refine gate_guard (by rfl) ?_; dsimp only)); refine box_event ?hg (N := 5) ?hd (cs := #[.int .i64 0, .int .i64 0, .int .i64 0]) (t := 68) ?hr ?_; (case hd => rfl); (case hg => rfl); (case hr => first | (go_simp; done) | (go_simp; rfl)); intro gb275 hg w13 hbox hb; have n0_ := Aside0.mk (blk_below (g := gb272) (o := .cells #[.int .i64 0, .int .i64 0, .int .i64 0, .int .i64 0, .string (⟨#[]⟩ : ByteArray)] 30 (0, 0)) (by (with_reducible repeat (first | refine blk_drewN ?_ _ | refine blk_drew ?_ | refine blk_alloc ?_ _)); refine blk_far ?_ NB272_273.out _; (with_reducible repeat (first | refine blk_drewN ?_ _ | refine blk_drew ?_ | refine blk_alloc ?_ _)); exact BK272.out) hb); have n1_ := Aside0.mk (blk_below (g := gb273) (o := .cells #[.int .i64 (wrap64 (rd l0 0)), .int .i64 0, .int .i64 0, .int .i64 0, .string (⟨#[]⟩ : ByteArray)] 30 (0, 0)) (by (with_reducible repeat (first | refine blk_drewN ?_ _ | refine blk_drew ?_ | refine blk_alloc ?_ _)); refine blk_put (cs := #[.int .i64 0, .int .i64 0, .int .i64 0, .int .i64 0, .string (⟨#[]⟩ : ByteArray)]) ?_ 0 _ rfl; (with_reducible repeat (first | refine blk_drewN ?_ _ | refine blk_drew ?_ | refine blk_alloc ?_ _)); exact BK273.out) hb); have n2_ := Aside0.mk (below_step (by repeat (first | (with_reducible first | exact HB.out | apply below_alloc | apply pw_below_drewN | apply below_drew1 | refine below_set ?_ GE272.out | refine below_set ?_ GE273.out) | exact HB.out)) hb); have n3_ := Aside0.mk (hbox); have n4_ := Aside0.mk ((by rw [hg]; exact (below_size (by repeat (first | (with_reducible first | exact HB.out | apply below_alloc | apply pw_below_drewN | apply below_drew1 | refine below_set ?_ GE272.out | refine below_set ?_ GE273.out) | exact HB.out))) : w.heap.size ≤ gb275)); have n5_ := Aside0.mk ((by rw [hg]; exact (below_size (by repeat (first | (with_reducible first | exact HB.out | apply below_alloc | apply pw_below_drewN | apply below_drew1 | refine below_set ?_ GE272.out | refine below_set ?_ GE273.out) | exact HB.out))) : w.heap.size ≤ gb275)); have n6_ := Aside0.mk ((by rw [hg]; exact Nat.ne_of_lt (blk_lt (g := gb272) (o := .cells #[.int .i64 0, .int .i64 0, .int .i64 0, .int .i64 0, .string (⟨#[]⟩ : ByteArray)] 30 (0, 0)) (by (with_reducible repeat (first | refine blk_drewN ?_ _ | refine blk_drew ?_ | refine blk_alloc ?_ _)); refine blk_far ?_ NB272_273.out _; (with_reducible repeat (first | refine blk_drewN ?_ _ | refine blk_drew ?_ | refine blk_alloc ?_ _)); exact BK272.out)) : gb272 ≠ gb275)); have n7_ := Aside0.mk ((by rw [hg]; exact Nat.ne_of_gt (blk_lt (g := gb272) (o := .cells #[.int .i64 0, .int .i64 0, .int .i64 0, .int .i64 0, .string (⟨#[]⟩ : ByteArray)] 30 (0, 0)) (by (with_reducible repeat (first | refine blk_drewN ?_ _ | refine blk_drew ?_ | refine blk_alloc ?_ _)); refine blk_far ?_ NB272_273.out _; (with_reducible repeat (first | refine blk_drewN ?_ _ | refine blk_drew ?_ | refine blk_alloc ?_ _)); exact BK272.out)) : gb275 ≠ gb272)); have n8_ := Aside0.mk ((by rw [hg]; exact Nat.ne_of_lt (blk_lt (g := gb273) (o := .cells #[.int .i64 (wrap64 (rd l0 0)), .int .i64 0, .int .i64 0, .int .i64 0, .string (⟨#[]⟩ : ByteArray)] 30 (0, 0)) (by (with_reducible repeat (first | refine blk_drewN ?_ _ | refine blk_drew ?_ | refine blk_alloc ?_ _)); refine blk_put (cs := #[.int .i64 0, .int .i64 0, .int .i64 0, .int .i64 0, .string (⟨#[]⟩ : ByteArray)]) ?_ 0 _ rfl; (with_reducible repeat (first | refine blk_drewN ?_ _ | refine blk_drew ?_ | refine blk_alloc ?_ _)); exact BK273.out)) : gb273 ≠ gb275)); have n9_ := Aside0.mk ((by rw [hg]; exact Nat.ne_of_gt (blk_lt (g := gb273) (o := .cells #[.int .i64 (wrap64 (rd l0 0)), .int .i64 0, .int .i64 0, .int .i64 0, .string (⟨#[]⟩ : ByteArray)] 30 (0, 0)) (by (with_reducible repeat (first | refine blk_drewN ?_ _ | refine blk_drew ?_ | refine blk_alloc ?_ _)); refine blk_put (cs := #[.int .i64 0, .int .i64 0, .int .i64 0, .int .i64 0, .string (⟨#[]⟩ : ByteArray)]) ?_ 0 _ rfl; (with_reducible repeat (first | refine blk_drewN ?_ _ | refine blk_drew ?_ | refine blk_alloc ?_ _)); exact BK273.out)) : gb275 ≠ gb273)); clear BK272; clear BK273; clear HB; have BK272 := n0_; have BK273 := n1_; have HB := n2_; have BK275 := n3_; have GW275 := n4_; have GE275 := n5_; have NB272_275 := n6_; have NB275_272 := n7_; have NB273_275 := n8_; have NB275_273 := n9_; clear n0_ n1_ n2_ n3_ n4_ n5_ n6_ n7_ n8_ n9_; clear hb hbox hg))
  go_loopg [6, 7] k (fun kq v6 v7 w' => ∃ (x6_1 : Int) (x7_1 : Int) (x273000_1 : Int) (x273001_1 : Int) (x273002_1 : Int) (x273003_1 : Int) (x273004_1 : ByteArray) (x276000_1 : Int) (x276001_1 : Int) (x276002_1 : Int), v6 = .int .i64 x6_1 ∧ v7 = .int .i64 x7_1 ∧ Aside0 (regletref23_One.l0 kq l0 x6_1 x7_1 (wrap64 (rd l0 0)) 0 0 0 (⟨#[]⟩ : ByteArray) x276000_1 x276001_1 x276002_1 = some (r1, r2, r3, r4, r5, r6)) ∧ Aside0 (kq ≤ k) ∧ Aside0 (w'.heap[gb272]? = some (.cells #[.int .i64 x273000_1, .int .i64 x273001_1, .int .i64 x273002_1, .int .i64 x273003_1, .string x273004_1] 30 (0, 0))) ∧ Aside0 (w'.heap[gb273]? = some (.cells #[.int .i64 (wrap64 (rd l0 0)), .int .i64 0, .int .i64 0, .int .i64 0, .string (⟨#[]⟩ : ByteArray)] 30 (0, 0))) ∧ Aside0 (w'.heap[gb275]? = some (.cells #[.int .i64 x276000_1, .int .i64 x276001_1, .int .i64 x276002_1] 68 (0, 0))) ∧ Aside0 (Below w.heap.size w w'))
  case atStart => exact ⟨(1), (0), (0), (0), (0), (0), ((⟨#[]⟩ : ByteArray)), (0), (0), (0), (by first | rfl | (simp; done) | (simp [*]; done) | (congr 1; simp only [decide_eq_true_eq, beq_iff_eq, eq_iff_iff, iff_true] at *; unfold wrap64; omega)), (by first | rfl | (simp; done) | (simp [*]; done) | (congr 1; simp only [decide_eq_true_eq, beq_iff_eq, eq_iff_iff, iff_true] at *; unfold wrap64; omega)), H', ⟨Nat.le_refl _⟩, ⟨by (with_reducible repeat (first | refine blk_drewN ?_ _ | refine blk_drew ?_ | refine blk_alloc ?_ _)); exact BK272.out⟩, ⟨by (with_reducible repeat (first | refine blk_drewN ?_ _ | refine blk_drew ?_ | refine blk_alloc ?_ _)); exact BK273.out⟩, ⟨by (with_reducible repeat (first | refine blk_drewN ?_ _ | refine blk_drew ?_ | refine blk_alloc ?_ _)); exact BK275.out⟩, ⟨by repeat (first | (with_reducible first | exact HB.out | apply below_alloc | apply pw_below_drewN | apply below_drew1 | refine below_set ?_ GE272.out | refine below_set ?_ GE273.out | refine below_set ?_ GE275.out) | exact HB.out)⟩⟩
  case round =>
    clear H'
    try clear c1
    try clear c2
    try clear c2b0
    try clear c2b1
    try clear c2b2
    try clear p2
    try clear q2
    try clear hx2
    try clear qi2
    try clear c5
    try clear p6
    try clear c8
    try clear c8b0
    try clear c8b1
    try clear c11
    try clear hcz12_0
    try clear hcz12_1
    try clear hcz12_2
    try clear hcz12_3
    try clear hcz12_4
    try clear hcz6_0
    try clear hcz6_1
    try clear hcz6_2
    try clear hcz6_3
    try clear hcz6_4
    try clear hcz7_0
    try clear hcz7_1
    try clear hcz7_2
    try clear hcz7_3
    try clear hcz7_4
    try clear hfz12_0
    try clear hfz12_1
    try clear hfz12_2
    try clear hfz12_3
    try clear hfz12_4
    try clear hfz6_0
    try clear hfz6_1
    try clear hfz6_2
    try clear hfz6_3
    try clear hfz6_4
    try clear hfz7_0
    try clear hfz7_1
    try clear hfz7_2
    try clear hfz7_3
    try clear hfz7_4
    try clear hx274_0
    try clear p274
    try clear q274
    obtain ⟨x6_1, x7_1, x273000_1, x273001_1, x273002_1, x273003_1, x273004_1, x276000_1, x276001_1, x276002_1, rfl, rfl, HA, HK1, BK272, BK273, BK275, HB⟩ := hrel
    cases gk with
    | zero => exact absurd HA.out (by simp [regletref23_One.l0])
    | succ k1 =>
      have H := HA.out
      clear HA
      simp only [regletref23_One.l0] at H
      replace H := Option.bind_eq_some_iff.mp H
      obtain ⟨t276, A140, H⟩ := H
      replace H : (if x7_1 < t276 then (if 0 ≤ x6_1 then (if x6_1 ≤ (l0.length : Int) then ((regletref23_value.f k1 (l0.drop (x6_1 : Int).toNat)).bind fun bt278 => (if bt278.2 = 0 then (some ((wrap64 (rd l0 0)), 0, 0, 0, (⟨#[]⟩ : ByteArray), 0)) else (if bt278.2 = 10 then (if 9 < (bt278.1.length : Int) then (if (rd bt278.1 9) > 1 then (some ((wrap64 (rd l0 0)), 0, 0, 0, (⟨#[]⟩ : ByteArray), 0)) else ((regletref23_number.f k1 bt278.1).bind fun t283 => (if 0 ≤ x7_1 then (if x7_1 < 3 then (if x7_1 = 0 then (regletref23_One.l0 k1 l0 (wrap64 (x6_1 + bt278.2)) (wrap64 (x7_1 + 1)) (wrap64 (rd l0 0)) 0 0 0 (⟨#[]⟩ : ByteArray) t283 x276001_1 x276002_1) else (if x7_1 = 1 then (regletref23_One.l0 k1 l0 (wrap64 (x6_1 + bt278.2)) (wrap64 (x7_1 + 1)) (wrap64 (rd l0 0)) 0 0 0 (⟨#[]⟩ : ByteArray) x276000_1 t283 x276002_1) else (if x7_1 = 2 then (regletref23_One.l0 k1 l0 (wrap64 (x6_1 + bt278.2)) (wrap64 (x7_1 + 1)) (wrap64 (rd l0 0)) 0 0 0 (⟨#[]⟩ : ByteArray) x276000_1 x276001_1 t283) else (none)))) else (none)) else (none)))) else (none)) else ((regletref23_number.f k1 bt278.1).bind fun t284 => (if 0 ≤ x7_1 then (if x7_1 < 3 then (if x7_1 = 0 then (regletref23_One.l0 k1 l0 (wrap64 (x6_1 + bt278.2)) (wrap64 (x7_1 + 1)) (wrap64 (rd l0 0)) 0 0 0 (⟨#[]⟩ : ByteArray) t284 x276001_1 x276002_1) else (if x7_1 = 1 then (regletref23_One.l0 k1 l0 (wrap64 (x6_1 + bt278.2)) (wrap64 (x7_1 + 1)) (wrap64 (rd l0 0)) 0 0 0 (⟨#[]⟩ : ByteArray) x276000_1 t284 x276002_1) else (if x7_1 = 2 then (regletref23_One.l0 k1 l0 (wrap64 (x6_1 + bt278.2)) (wrap64 (x7_1 + 1)) (wrap64 (rd l0 0)) 0 0 0 (⟨#[]⟩ : ByteArray) x276000_1 x276001_1 t284) else (none)))) else (none)) else (none)))))) else (none)) else (none)) else (if (wrap64 (rd l0 0)) = 1 then (if 0 ≤ x6_1 then (if x6_1 ≤ (l0.length : Int) then ((regletref23_value.f k1 (l0.drop (x6_1 : Int).toNat)).bind fun bt286 => (if bt286.2 = 0 then (regletref23_One.j1 k1 l0 x6_1 bt286.1 bt286.2 true (wrap64 (rd l0 0)) x276000_1 x276001_1 x276002_1 (⟨#[]⟩ : ByteArray)) else ((regletref23_length.f k1 bt286.1).bind fun t290 => (regletref23_One.j1 k1 l0 x6_1 bt286.1 bt286.2 (decide (t290 > (wrap64 ((wrap64 ((l0.length : Int) - x6_1)) - bt286.2)))) (wrap64 (rd l0 0)) x276000_1 x276001_1 x276002_1 (⟨#[]⟩ : ByteArray))))) else (none)) else (none)) else (regletref23_One.j2 k1 l0 x6_1 (wrap64 (rd l0 0)) x276000_1 x276001_1 x276002_1 (⟨#[]⟩ : ByteArray)))) = some (r1, r2, r3, r4, r5, r6) := H
      have A14 := Aside0.mk A140
      clear A140
      by_cases c15 : x7_1 < t276
      · rw [if_pos c15] at H
        have c15b0 : decide (x7_1 < t276) = true := decide_eq_true c15
        clear c15
        by_cases c16 : 0 ≤ x6_1
        rotate_left
        · rw [if_neg c16] at H
          exact absurd H (by simp)
        rw [if_pos c16] at H
        have c16b0 := eq_true c16
        have c16b1 : decide (0 ≤ x6_1) = true := decide_eq_true c16
        clear c16
        by_cases c17 : x6_1 ≤ (l0.length : Int)
        rotate_left
        · rw [if_neg c17] at H
          exact absurd H (by simp)
        rw [if_pos c17] at H
        have c17b0 := eq_true c17
        have c17b1 : decide (x6_1 ≤ (l0.length : Int)) = true := decide_eq_true c17
        clear c17
        replace H := Option.bind_eq_some_iff.mp H
        obtain ⟨⟨t278, t279⟩, A180, H⟩ := H
        replace H : (if t279 = 0 then (some ((wrap64 (rd l0 0)), 0, 0, 0, (⟨#[]⟩ : ByteArray), 0)) else (if t279 = 10 then (if 9 < (t278.length : Int) then (if (rd t278 9) > 1 then (some ((wrap64 (rd l0 0)), 0, 0, 0, (⟨#[]⟩ : ByteArray), 0)) else ((regletref23_number.f k1 t278).bind fun t283 => (if 0 ≤ x7_1 then (if x7_1 < 3 then (if x7_1 = 0 then (regletref23_One.l0 k1 l0 (wrap64 (x6_1 + t279)) (wrap64 (x7_1 + 1)) (wrap64 (rd l0 0)) 0 0 0 (⟨#[]⟩ : ByteArray) t283 x276001_1 x276002_1) else (if x7_1 = 1 then (regletref23_One.l0 k1 l0 (wrap64 (x6_1 + t279)) (wrap64 (x7_1 + 1)) (wrap64 (rd l0 0)) 0 0 0 (⟨#[]⟩ : ByteArray) x276000_1 t283 x276002_1) else (if x7_1 = 2 then (regletref23_One.l0 k1 l0 (wrap64 (x6_1 + t279)) (wrap64 (x7_1 + 1)) (wrap64 (rd l0 0)) 0 0 0 (⟨#[]⟩ : ByteArray) x276000_1 x276001_1 t283) else (none)))) else (none)) else (none)))) else (none)) else ((regletref23_number.f k1 t278).bind fun t284 => (if 0 ≤ x7_1 then (if x7_1 < 3 then (if x7_1 = 0 then (regletref23_One.l0 k1 l0 (wrap64 (x6_1 + t279)) (wrap64 (x7_1 + 1)) (wrap64 (rd l0 0)) 0 0 0 (⟨#[]⟩ : ByteArray) t284 x276001_1 x276002_1) else (if x7_1 = 1 then (regletref23_One.l0 k1 l0 (wrap64 (x6_1 + t279)) (wrap64 (x7_1 + 1)) (wrap64 (rd l0 0)) 0 0 0 (⟨#[]⟩ : ByteArray) x276000_1 t284 x276002_1) else (if x7_1 = 2 then (regletref23_One.l0 k1 l0 (wrap64 (x6_1 + t279)) (wrap64 (x7_1 + 1)) (wrap64 (rd l0 0)) 0 0 0 (⟨#[]⟩ : ByteArray) x276000_1 x276001_1 t284) else (none)))) else (none)) else (none))))) = some (r1, r2, r3, r4, r5, r6) := H
        have A18 := Aside0.mk A180
        clear A180
        by_cases c19 : t279 = 0
        · rw [if_pos c19] at H
          have c19b0 : (t279 == 0) = true := beq_iff_eq.mpr c19
          have c19b1 : (t279 != 0) = false := bne_eq_false_iff_eq.mpr c19
          clear c19
          simp only [Option.some.injEq, Prod.mk.injEq] at H
          obtain ⟨rfl, rfl, rfl, rfl, rfl, rfl⟩ := H
          have hnb20 := NB273_272.out
          have hnc20 := NB272_273.out
          have hnb21 := NB273_275.out
          have hnc21 := NB275_273.out
          have hcz22_0 : wr.cell? ⟨gb273, 0, none⟩ = some (.int .i64 (wrap64 (rd l0 0))) := (blk_cell BK273.out 0).trans rfl
          have hcz22_1 : wr.cell? ⟨gb273, 1, none⟩ = some (.int .i64 0) := (blk_cell BK273.out 1).trans rfl
          have hcz22_2 : wr.cell? ⟨gb273, 2, none⟩ = some (.int .i64 0) := (blk_cell BK273.out 2).trans rfl
          have hcz22_3 : wr.cell? ⟨gb273, 3, none⟩ = some (.int .i64 0) := (blk_cell BK273.out 3).trans rfl
          have hcz22_4 : wr.cell? ⟨gb273, 4, none⟩ = some (.string (⟨#[]⟩ : ByteArray)) := (blk_cell BK273.out 4).trans rfl
          have hfz22_0 := blk_frozen BK273.out 0
          have hfz22_1 := blk_frozen BK273.out 1
          have hfz22_2 := blk_frozen BK273.out 2
          have hfz22_3 := blk_frozen BK273.out 3
          have hfz22_4 := blk_frozen BK273.out 4
          go_wp2_with (first | ((with_reducible refine gate_callee (f := 21) rfl ?_); refine goesL_ (some 24) rfl rfl Try.func21 (by kernel_rfl) rfl #[.int .i64 (wrap64 (rd l0 0))] rfl (by (try simp only [List.map_toArray, List.map_cons, List.map_nil]); first | done | rfl | (simp only [List.length_drop, List.length_take]; rfl)) ?_; (with_reducible refine (regletref23_Many.calls (wrap64 (rd l0 0)) t276 _ A14.out).mono ?_); rintro e w' ⟨rfl, ⟨nd, rfl⟩⟩; refine ⟨_, rfl, ?_⟩; (try (rw [drewN_self wr]; generalize hq_ : World.drewN wr _ = wr; have n0_ : Aside0 (wr.heap[gb272]? = some (.cells #[.int .i64 x273000_1, .int .i64 x273001_1, .int .i64 x273002_1, .int .i64 x273003_1, .string x273004_1] 30 (0, 0))) := ⟨by rw [← hq_]; exact (by (with_reducible repeat (first | refine blk_drewN ?_ _ | refine blk_drew ?_ | refine blk_alloc ?_ _)); exact BK272.out)⟩; have n1_ : Aside0 (wr.heap[gb273]? = some (.cells #[.int .i64 (wrap64 (rd l0 0)), .int .i64 0, .int .i64 0, .int .i64 0, .string (⟨#[]⟩ : ByteArray)] 30 (0, 0))) := ⟨by rw [← hq_]; exact (by (with_reducible repeat (first | refine blk_drewN ?_ _ | refine blk_drew ?_ | refine blk_alloc ?_ _)); exact BK273.out)⟩; have n2_ : Aside0 (wr.heap[gb275]? = some (.cells #[.int .i64 x276000_1, .int .i64 x276001_1, .int .i64 x276002_1] 68 (0, 0))) := ⟨by rw [← hq_]; exact (by (with_reducible repeat (first | refine blk_drewN ?_ _ | refine blk_drew ?_ | refine blk_alloc ?_ _)); exact BK275.out)⟩; have n3_ : Aside0 (Below w.heap.size w wr) := ⟨by rw [← hq_]; exact (by repeat (first | (with_reducible first | exact HB.out | apply below_alloc | apply pw_below_drewN | apply below_drew1 | refine below_set ?_ GE272.out | refine below_set ?_ GE273.out | refine below_set ?_ GE275.out) | exact HB.out))⟩; clear BK272 BK273 BK275 HB hq_; have BK272 := n0_; have BK273 := n1_; have BK275 := n2_; have HB := n3_; clear n0_ n1_ n2_ n3_)); obtain ⟨i023, hi023, _, hsz23, _⟩ := info_parts info5; obtain ⟨A23, hcut23, hA23, hC23⟩ := print_drop_of (P := Try.prog) (Value.int .u8) 0 22 5 .i64 Try.underlying22 hi023 hsz23 (some ad274) c0 l0 x6_1 (of_decide_eq_true (by first | (with_reducible assumption) | assumption)) (of_decide_eq_true (by first | (with_reducible assumption) | assumption)) HC0.out; have HR277 := Aside0.mk (Kd.C_of_reads (h1 := fun _ => rfl) (hA23 _ (Kd.reads_of_C HR0.out))); have HC277 := Aside0.mk hC23; clear hA23 hC23 hi023 hsz23) | ((with_reducible refine gate_callee (f := 34) rfl ?_); refine goesL_ (some 32) rfl rfl Try.func34 (by kernel_rfl) rfl #[.slice A23 (l0.drop (x6_1 : Int).toNat).length (c0 - x6_1.toNat)] rfl (by (try simp only [List.map_toArray, List.map_cons, List.map_nil]); first | done | (rw [show (l0.drop (x6_1 : Int).toNat).length = (l0.length - x6_1.toNat) from List.length_drop] <;> rfl) | rfl | (simp only [List.length_drop, List.length_take]; rfl)) ?_; (with_reducible refine (regletref23_value.calls k1 _ _ (l0.drop (x6_1 : Int).toNat) t278 t279 _ ?side1 ?side2 A18.out).mono ?_); (case side1 => repeat (first | exact (Kd.C_below HR277.out HB.out) | (with_reducible refine Kd.C_alloc ?_ _) | (with_reducible refine Kd.C_drewN ?_ _) | (with_reducible refine Kd.C_drew ?_))); (case side2 => exact HC277.out); rintro e w24 ⟨v280, rfl, ho0, hb⟩; refine ⟨_, rfl, ?_⟩; have n0_ := Aside0.mk (Kd.R_lower ho0 (below_size (by repeat (first | (with_reducible first | exact HB.out | apply below_alloc | apply pw_below_drewN | apply below_drew1 | refine below_set ?_ GE272.out | refine below_set ?_ GE273.out | refine below_set ?_ GE275.out) | exact HB.out)))); have n1_ := Aside0.mk (blk_below (g := gb272) (o := .cells #[.int .i64 x273000_1, .int .i64 x273001_1, .int .i64 x273002_1, .int .i64 x273003_1, .string x273004_1] 30 (0, 0)) (by (with_reducible repeat (first | refine blk_drewN ?_ _ | refine blk_drew ?_ | refine blk_alloc ?_ _)); exact BK272.out) hb); have n2_ := Aside0.mk (blk_below (g := gb273) (o := .cells #[.int .i64 (wrap64 (rd l0 0)), .int .i64 0, .int .i64 0, .int .i64 0, .string (⟨#[]⟩ : ByteArray)] 30 (0, 0)) (by (with_reducible repeat (first | refine blk_drewN ?_ _ | refine blk_drew ?_ | refine blk_alloc ?_ _)); exact BK273.out) hb); have n3_ := Aside0.mk (blk_below (g := gb275) (o := .cells #[.int .i64 x276000_1, .int .i64 x276001_1, .int .i64 x276002_1] 68 (0, 0)) (by (with_reducible repeat (first | refine blk_drewN ?_ _ | refine blk_drew ?_ | refine blk_alloc ?_ _)); exact BK275.out) hb); have n4_ := Aside0.mk (below_step (by repeat (first | (with_reducible first | exact HB.out | apply below_alloc | apply pw_below_drewN | apply below_drew1 | refine below_set ?_ GE272.out | refine below_set ?_ GE273.out | refine below_set ?_ GE275.out) | exact HB.out)) hb); clear BK272; clear BK273; clear BK275; clear HB; have HO281 := n0_; have BK272 := n1_; have BK273 := n2_; have BK275 := n3_; have HB := n4_; clear n0_ n1_ n2_ n3_ n4_; (try clear hb); (try clear hb2); (try clear hk); (try clear hi); (try clear ho0); have hcz25_0 : w24.cell? ⟨gb273, 0, none⟩ = some (.int .i64 (wrap64 (rd l0 0))) := (blk_cell BK273.out 0).trans rfl; have hcz25_1 : w24.cell? ⟨gb273, 1, none⟩ = some (.int .i64 0) := (blk_cell BK273.out 1).trans rfl; have hcz25_2 : w24.cell? ⟨gb273, 2, none⟩ = some (.int .i64 0) := (blk_cell BK273.out 2).trans rfl; have hcz25_3 : w24.cell? ⟨gb273, 3, none⟩ = some (.int .i64 0) := (blk_cell BK273.out 3).trans rfl; have hcz25_4 : w24.cell? ⟨gb273, 4, none⟩ = some (.string (⟨#[]⟩ : ByteArray)) := (blk_cell BK273.out 4).trans rfl; have hfz25_0 := blk_frozen BK273.out 0; have hfz25_1 := blk_frozen BK273.out 1; have hfz25_2 := blk_frozen BK273.out 2; have hfz25_3 := blk_frozen BK273.out 3; have hfz25_4 := blk_frozen BK273.out 4; have hnb26 := NB272_275.out; have hnc26 := NB275_272.out; have hcz27_0 : w24.cell? ⟨gb272, 0, none⟩ = some (.int .i64 x273000_1) := (blk_cell BK272.out 0).trans rfl; have hcz27_1 : w24.cell? ⟨gb272, 1, none⟩ = some (.int .i64 x273001_1) := (blk_cell BK272.out 1).trans rfl; have hcz27_2 : w24.cell? ⟨gb272, 2, none⟩ = some (.int .i64 x273002_1) := (blk_cell BK272.out 2).trans rfl; have hcz27_3 : w24.cell? ⟨gb272, 3, none⟩ = some (.int .i64 x273003_1) := (blk_cell BK272.out 3).trans rfl; have hcz27_4 : w24.cell? ⟨gb272, 4, none⟩ = some (.string x273004_1) := (blk_cell BK272.out 4).trans rfl; have hfz27_0 := blk_frozen BK272.out 0; have hfz27_1 := blk_frozen BK272.out 1; have hfz27_2 := blk_frozen BK272.out 2; have hfz27_3 := blk_frozen BK272.out 3; have hfz27_4 := blk_frozen BK272.out 4))
          refine bodyPost_ret (results_ct rfl _ _ gb272 30 #[.int .i64 (wrap64 (rd l0 0)), .int .i64 0, .int .i64 0, .int .i64 0, .string (⟨#[]⟩ : ByteArray)] (0, 0) _ rfl (by (with_reducible repeat (first | refine blk_drewN ?_ _ | refine blk_drew ?_ | refine blk_alloc ?_ _)); refine blk_put (cs := #[.int .i64 (wrap64 (rd l0 0)), .int .i64 0, .int .i64 0, .int .i64 0, .string x273004_1]) ?_ 4 _ rfl; (with_reducible repeat (first | refine blk_drewN ?_ _ | refine blk_drew ?_ | refine blk_alloc ?_ _)); refine blk_put (cs := #[.int .i64 (wrap64 (rd l0 0)), .int .i64 0, .int .i64 0, .int .i64 x273003_1, .string x273004_1]) ?_ 3 _ rfl; (with_reducible repeat (first | refine blk_drewN ?_ _ | refine blk_drew ?_ | refine blk_alloc ?_ _)); refine blk_put (cs := #[.int .i64 (wrap64 (rd l0 0)), .int .i64 0, .int .i64 x273002_1, .int .i64 x273003_1, .string x273004_1]) ?_ 2 _ rfl; (with_reducible repeat (first | refine blk_drewN ?_ _ | refine blk_drew ?_ | refine blk_alloc ?_ _)); refine blk_put (cs := #[.int .i64 (wrap64 (rd l0 0)), .int .i64 x273001_1, .int .i64 x273002_1, .int .i64 x273003_1, .string x273004_1]) ?_ 1 _ rfl; (with_reducible repeat (first | refine blk_drewN ?_ _ | refine blk_drew ?_ | refine blk_alloc ?_ _)); refine blk_put (cs := #[.int .i64 x273000_1, .int .i64 x273001_1, .int .i64 x273002_1, .int .i64 x273003_1, .string x273004_1]) ?_ 0 _ rfl; (with_reducible repeat (first | refine blk_drewN ?_ _ | refine blk_drew ?_ | refine blk_alloc ?_ _)); exact BK272.out) Try.underlying30 rfl (by kernel_rfl)) rfl ?_
          exact ⟨by first | rfl | (simp [errW_none, errW_some] <;> rfl) | (simp [*, errW_none, errW_some] <;> rfl), by repeat (first | (with_reducible first | exact HB.out | apply below_alloc | apply pw_below_drewN | apply below_drew1 | refine below_set ?_ GE272.out | refine below_set ?_ GE273.out | refine below_set ?_ GE275.out) | exact HB.out)⟩
        rw [if_neg c19] at H
        have c19b0 : (t279 == 0) = false := beq_eq_false_iff_ne.mpr c19
        have c19b1 : (t279 != 0) = true := bne_iff_ne.mpr c19
        by_cases c28 : t279 = 10
        rotate_left
        · rw [if_neg c28] at H
          have c28b0 : (t279 == 10) = false := beq_eq_false_iff_ne.mpr c28
          have c28b1 : (t279 != 10) = true := bne_iff_ne.mpr c28
          replace H := Option.bind_eq_some_iff.mp H
          obtain ⟨t284, A790, H⟩ := H
          replace H : (if 0 ≤ x7_1 then (if x7_1 < 3 then (if x7_1 = 0 then (regletref23_One.l0 k1 l0 (wrap64 (x6_1 + t279)) (wrap64 (x7_1 + 1)) (wrap64 (rd l0 0)) 0 0 0 (⟨#[]⟩ : ByteArray) t284 x276001_1 x276002_1) else (if x7_1 = 1 then (regletref23_One.l0 k1 l0 (wrap64 (x6_1 + t279)) (wrap64 (x7_1 + 1)) (wrap64 (rd l0 0)) 0 0 0 (⟨#[]⟩ : ByteArray) x276000_1 t284 x276002_1) else (if x7_1 = 2 then (regletref23_One.l0 k1 l0 (wrap64 (x6_1 + t279)) (wrap64 (x7_1 + 1)) (wrap64 (rd l0 0)) 0 0 0 (⟨#[]⟩ : ByteArray) x276000_1 x276001_1 t284) else (none)))) else (none)) else (none)) = some (r1, r2, r3, r4, r5, r6) := H
          have A79 := Aside0.mk A790
          clear A790
          by_cases c80 : 0 ≤ x7_1
          rotate_left
          · rw [if_neg c80] at H
            exact absurd H (by simp)
          rw [if_pos c80] at H
          have c80b0 : decide (0 ≤ x7_1) = true := decide_eq_true c80
          clear c80
          by_cases c81 : x7_1 < 3
          rotate_left
          · rw [if_neg c81] at H
            exact absurd H (by simp)
          rw [if_pos c81] at H
          have c81b0 : decide (x7_1 < 3) = true := decide_eq_true c81
          clear c81
          by_cases c82 : x7_1 = 0
          · rw [if_pos c82] at H
            have c82b0 : (x7_1 == 0) = true := beq_iff_eq.mpr c82
            have c82b1 : (x7_1 != 0) = false := bne_eq_false_iff_eq.mpr c82
            clear c82
            have c83b0 := eq_true (of_decide_eq_true (by first | (with_reducible assumption) | assumption) : 0 ≤ x7_1)
            have c84b0 := eq_true (of_decide_eq_true (by first | (with_reducible assumption) | assumption) : x7_1 < 3)
            have c85t : (x7_1 : Int).toNat = 0 := by have h_ : (x7_1 == 0) = true := (by first | (with_reducible assumption) | assumption); rw [beq_iff_eq.1 h_]; rfl
            have H' := Aside0.mk H
            clear H
            have hnb86 := NB273_272.out
            have hnc86 := NB272_273.out
            have hnb87 := NB273_275.out
            have hnc87 := NB275_273.out
            have hcz88_0 : wr.cell? ⟨gb273, 0, none⟩ = some (.int .i64 (wrap64 (rd l0 0))) := (blk_cell BK273.out 0).trans rfl
            have hcz88_1 : wr.cell? ⟨gb273, 1, none⟩ = some (.int .i64 0) := (blk_cell BK273.out 1).trans rfl
            have hcz88_2 : wr.cell? ⟨gb273, 2, none⟩ = some (.int .i64 0) := (blk_cell BK273.out 2).trans rfl
            have hcz88_3 : wr.cell? ⟨gb273, 3, none⟩ = some (.int .i64 0) := (blk_cell BK273.out 3).trans rfl
            have hcz88_4 : wr.cell? ⟨gb273, 4, none⟩ = some (.string (⟨#[]⟩ : ByteArray)) := (blk_cell BK273.out 4).trans rfl
            have hfz88_0 := blk_frozen BK273.out 0
            have hfz88_1 := blk_frozen BK273.out 1
            have hfz88_2 := blk_frozen BK273.out 2
            have hfz88_3 := blk_frozen BK273.out 3
            have hfz88_4 := blk_frozen BK273.out 4
            go_wp2_with (first | ((with_reducible refine gate_callee (f := 21) rfl ?_); refine goesL_ (some 24) rfl rfl Try.func21 (by kernel_rfl) rfl #[.int .i64 (wrap64 (rd l0 0))] rfl (by (try simp only [List.map_toArray, List.map_cons, List.map_nil]); first | done | rfl | (simp only [List.length_drop, List.length_take]; rfl)) ?_; (with_reducible refine (regletref23_Many.calls (wrap64 (rd l0 0)) t276 _ A14.out).mono ?_); rintro e w' ⟨rfl, ⟨nd, rfl⟩⟩; refine ⟨_, rfl, ?_⟩; (try (rw [drewN_self wr]; generalize hq_ : World.drewN wr _ = wr; have n0_ : Aside0 (wr.heap[gb272]? = some (.cells #[.int .i64 x273000_1, .int .i64 x273001_1, .int .i64 x273002_1, .int .i64 x273003_1, .string x273004_1] 30 (0, 0))) := ⟨by rw [← hq_]; exact (by (with_reducible repeat (first | refine blk_drewN ?_ _ | refine blk_drew ?_ | refine blk_alloc ?_ _)); exact BK272.out)⟩; have n1_ : Aside0 (wr.heap[gb273]? = some (.cells #[.int .i64 (wrap64 (rd l0 0)), .int .i64 0, .int .i64 0, .int .i64 0, .string (⟨#[]⟩ : ByteArray)] 30 (0, 0))) := ⟨by rw [← hq_]; exact (by (with_reducible repeat (first | refine blk_drewN ?_ _ | refine blk_drew ?_ | refine blk_alloc ?_ _)); exact BK273.out)⟩; have n2_ : Aside0 (wr.heap[gb275]? = some (.cells #[.int .i64 x276000_1, .int .i64 x276001_1, .int .i64 x276002_1] 68 (0, 0))) := ⟨by rw [← hq_]; exact (by (with_reducible repeat (first | refine blk_drewN ?_ _ | refine blk_drew ?_ | refine blk_alloc ?_ _)); exact BK275.out)⟩; have n3_ : Aside0 (Below w.heap.size w wr) := ⟨by rw [← hq_]; exact (by repeat (first | (with_reducible first | exact HB.out | apply below_alloc | apply pw_below_drewN | apply below_drew1 | refine below_set ?_ GE272.out | refine below_set ?_ GE273.out | refine below_set ?_ GE275.out) | exact HB.out))⟩; clear BK272 BK273 BK275 HB hq_; have BK272 := n0_; have BK273 := n1_; have BK275 := n2_; have HB := n3_; clear n0_ n1_ n2_ n3_)); obtain ⟨i089, hi089, _, hsz89, _⟩ := info_parts info5; obtain ⟨A89, hcut89, hA89, hC89⟩ := print_drop_of (P := Try.prog) (Value.int .u8) 0 22 5 .i64 Try.underlying22 hi089 hsz89 (some ad274) c0 l0 x6_1 (of_decide_eq_true (by first | (with_reducible assumption) | assumption)) (of_decide_eq_true (by first | (with_reducible assumption) | assumption)) HC0.out; have HR277 := Aside0.mk (Kd.C_of_reads (h1 := fun _ => rfl) (hA89 _ (Kd.reads_of_C HR0.out))); have HC277 := Aside0.mk hC89; clear hA89 hC89 hi089 hsz89) | ((with_reducible refine gate_callee (f := 34) rfl ?_); refine goesL_ (some 32) rfl rfl Try.func34 (by kernel_rfl) rfl #[.slice A89 (l0.drop (x6_1 : Int).toNat).length (c0 - x6_1.toNat)] rfl (by (try simp only [List.map_toArray, List.map_cons, List.map_nil]); first | done | (rw [show (l0.drop (x6_1 : Int).toNat).length = (l0.length - x6_1.toNat) from List.length_drop] <;> rfl) | rfl | (simp only [List.length_drop, List.length_take]; rfl)) ?_; (with_reducible refine (regletref23_value.calls k1 _ _ (l0.drop (x6_1 : Int).toNat) t278 t279 _ ?side1 ?side2 A18.out).mono ?_); (case side1 => repeat (first | exact (Kd.C_below HR277.out HB.out) | (with_reducible refine Kd.C_alloc ?_ _) | (with_reducible refine Kd.C_drewN ?_ _) | (with_reducible refine Kd.C_drew ?_))); (case side2 => exact HC277.out); rintro e w90 ⟨v280, rfl, ho0, hb⟩; refine ⟨_, rfl, ?_⟩; have n0_ := Aside0.mk (Kd.R_lower ho0 (below_size (by repeat (first | (with_reducible first | exact HB.out | apply below_alloc | apply pw_below_drewN | apply below_drew1 | refine below_set ?_ GE272.out | refine below_set ?_ GE273.out | refine below_set ?_ GE275.out) | exact HB.out)))); have n1_ := Aside0.mk (blk_below (g := gb272) (o := .cells #[.int .i64 x273000_1, .int .i64 x273001_1, .int .i64 x273002_1, .int .i64 x273003_1, .string x273004_1] 30 (0, 0)) (by (with_reducible repeat (first | refine blk_drewN ?_ _ | refine blk_drew ?_ | refine blk_alloc ?_ _)); exact BK272.out) hb); have n2_ := Aside0.mk (blk_below (g := gb273) (o := .cells #[.int .i64 (wrap64 (rd l0 0)), .int .i64 0, .int .i64 0, .int .i64 0, .string (⟨#[]⟩ : ByteArray)] 30 (0, 0)) (by (with_reducible repeat (first | refine blk_drewN ?_ _ | refine blk_drew ?_ | refine blk_alloc ?_ _)); exact BK273.out) hb); have n3_ := Aside0.mk (blk_below (g := gb275) (o := .cells #[.int .i64 x276000_1, .int .i64 x276001_1, .int .i64 x276002_1] 68 (0, 0)) (by (with_reducible repeat (first | refine blk_drewN ?_ _ | refine blk_drew ?_ | refine blk_alloc ?_ _)); exact BK275.out) hb); have n4_ := Aside0.mk (below_step (by repeat (first | (with_reducible first | exact HB.out | apply below_alloc | apply pw_below_drewN | apply below_drew1 | refine below_set ?_ GE272.out | refine below_set ?_ GE273.out | refine below_set ?_ GE275.out) | exact HB.out)) hb); clear BK272; clear BK273; clear BK275; clear HB; have HO281 := n0_; have BK272 := n1_; have BK273 := n2_; have BK275 := n3_; have HB := n4_; clear n0_ n1_ n2_ n3_ n4_; (try clear hb); (try clear hb2); (try clear hk); (try clear hi); (try clear ho0); obtain ⟨Ao91, co91, eo91⟩ := Kd.R_slice HO281.out; subst eo91) | ((with_reducible refine gate_callee (f := 35) rfl ?_); refine goesL_ (some 50) rfl rfl Try.func35 (by kernel_rfl) rfl #[.slice Ao91 t278.length co91] rfl (by (try simp only [List.map_toArray, List.map_cons, List.map_nil]); first | done | rfl | (simp only [List.length_drop, List.length_take]; rfl)) ?_; (with_reducible refine (regletref23_number.calls k1 _ _ t278 t284 _ ?side1 ?side2 A79.out).mono ?_); (case side1 => repeat (first | exact (Kd.R_reads' HO281.out).2.2 | (with_reducible refine Kd.C_alloc ?_ _) | (with_reducible refine Kd.C_drewN ?_ _) | (with_reducible refine Kd.C_drew ?_))); (case side2 => exact (Kd.R_reads' HO281.out).2.1); rintro e w' ⟨rfl, ⟨nd, rfl⟩⟩; refine ⟨_, rfl, ?_⟩; (try (rw [drewN_self w90]; generalize hq_ : World.drewN w90 _ = w90; have n0_ : Aside0 (Kd.R (Kd.int .i64) 3 w90 w.heap.size (fun _ => True) (.slice Ao91 t278.length co91) t278) := ⟨by rw [← hq_]; exact (by (with_reducible repeat (first | apply Kd.R_alloc | apply Kd.R_drewN | apply Kd.R_drew)); exact HO281.out)⟩; have n1_ : Aside0 (w90.heap[gb272]? = some (.cells #[.int .i64 x273000_1, .int .i64 x273001_1, .int .i64 x273002_1, .int .i64 x273003_1, .string x273004_1] 30 (0, 0))) := ⟨by rw [← hq_]; exact (by (with_reducible repeat (first | refine blk_drewN ?_ _ | refine blk_drew ?_ | refine blk_alloc ?_ _)); exact BK272.out)⟩; have n2_ : Aside0 (w90.heap[gb273]? = some (.cells #[.int .i64 (wrap64 (rd l0 0)), .int .i64 0, .int .i64 0, .int .i64 0, .string (⟨#[]⟩ : ByteArray)] 30 (0, 0))) := ⟨by rw [← hq_]; exact (by (with_reducible repeat (first | refine blk_drewN ?_ _ | refine blk_drew ?_ | refine blk_alloc ?_ _)); exact BK273.out)⟩; have n3_ : Aside0 (w90.heap[gb275]? = some (.cells #[.int .i64 x276000_1, .int .i64 x276001_1, .int .i64 x276002_1] 68 (0, 0))) := ⟨by rw [← hq_]; exact (by (with_reducible repeat (first | refine blk_drewN ?_ _ | refine blk_drew ?_ | refine blk_alloc ?_ _)); exact BK275.out)⟩; have n4_ : Aside0 (Below w.heap.size w w90) := ⟨by rw [← hq_]; exact (by repeat (first | (with_reducible first | exact HB.out | apply below_alloc | apply pw_below_drewN | apply below_drew1 | refine below_set ?_ GE272.out | refine below_set ?_ GE273.out | refine below_set ?_ GE275.out) | exact HB.out))⟩; clear HO281 BK272 BK273 BK275 HB hq_; have HO281 := n0_; have BK272 := n1_; have BK273 := n2_; have BK275 := n3_; have HB := n4_; clear n0_ n1_ n2_ n3_ n4_)); have hnb92 := NB275_272.out; have hnc92 := NB272_275.out; have hcz93_0 : w90.cell? ⟨gb275, 0, none⟩ = some (.int .i64 x276000_1) := (blk_cell BK275.out 0).trans rfl; have hcz93_1 : w90.cell? ⟨gb275, 1, none⟩ = some (.int .i64 x276001_1) := (blk_cell BK275.out 1).trans rfl; have hcz93_2 : w90.cell? ⟨gb275, 2, none⟩ = some (.int .i64 x276002_1) := (blk_cell BK275.out 2).trans rfl; have hfz93_0 := blk_frozen BK275.out 0; have hfz93_1 := blk_frozen BK275.out 1; have hfz93_2 := blk_frozen BK275.out 2))
            go_roundg k1
            case measure => have := HK1.out; omega
            case rel => exact ⟨(wrap64 (x6_1 + t279)), (wrap64 (x7_1 + 1)), (x273000_1), (x273001_1), (x273002_1), (x273003_1), (x273004_1), (t284), (x276001_1), (x276002_1), (by first | rfl | (simp; done) | (simp [*]; done) | (congr 1; simp only [decide_eq_true_eq, beq_iff_eq, eq_iff_iff, iff_true] at *; unfold wrap64; omega)), (by first | rfl | (simp; done) | (simp [*]; done) | (congr 1; simp only [decide_eq_true_eq, beq_iff_eq, eq_iff_iff, iff_true] at *; unfold wrap64; omega)), H', ⟨by have := HK1.out; omega⟩, ⟨by (with_reducible repeat (first | refine blk_drewN ?_ _ | refine blk_drew ?_ | refine blk_alloc ?_ _)); refine blk_far ?_ NB272_275.out _; (with_reducible repeat (first | refine blk_drewN ?_ _ | refine blk_drew ?_ | refine blk_alloc ?_ _)); exact BK272.out⟩, ⟨by (with_reducible repeat (first | refine blk_drewN ?_ _ | refine blk_drew ?_ | refine blk_alloc ?_ _)); refine blk_far ?_ NB273_275.out _; (with_reducible repeat (first | refine blk_drewN ?_ _ | refine blk_drew ?_ | refine blk_alloc ?_ _)); exact BK273.out⟩, ⟨by (with_reducible repeat (first | refine blk_drewN ?_ _ | refine blk_drew ?_ | refine blk_alloc ?_ _)); refine blk_put (cs := #[.int .i64 x276000_1, .int .i64 x276001_1, .int .i64 x276002_1]) ?_ 0 _ rfl; (with_reducible repeat (first | refine blk_drewN ?_ _ | refine blk_drew ?_ | refine blk_alloc ?_ _)); exact BK275.out⟩, ⟨by repeat (first | (with_reducible first | exact HB.out | apply below_alloc | apply pw_below_drewN | apply below_drew1 | refine below_set ?_ GE272.out | refine below_set ?_ GE273.out | refine below_set ?_ GE275.out) | exact HB.out)⟩⟩
          rw [if_neg c82] at H
          have c82b0 : (x7_1 == 0) = false := beq_eq_false_iff_ne.mpr c82
          have c82b1 : (x7_1 != 0) = true := bne_iff_ne.mpr c82
          by_cases c94 : x7_1 = 1
          · rw [if_pos c94] at H
            have c94b0 : (x7_1 == 1) = true := beq_iff_eq.mpr c94
            have c94b1 : (x7_1 != 1) = false := bne_eq_false_iff_eq.mpr c94
            clear c94
            have c95b0 := eq_true (of_decide_eq_true (by first | (with_reducible assumption) | assumption) : 0 ≤ x7_1)
            have c96b0 := eq_true (of_decide_eq_true (by first | (with_reducible assumption) | assumption) : x7_1 < 3)
            have c97t : (x7_1 : Int).toNat = 1 := by have h_ : (x7_1 == 1) = true := (by first | (with_reducible assumption) | assumption); rw [beq_iff_eq.1 h_]; rfl
            have H' := Aside0.mk H
            clear H
            have hnb98 := NB273_272.out
            have hnc98 := NB272_273.out
            have hnb99 := NB273_275.out
            have hnc99 := NB275_273.out
            have hcz100_0 : wr.cell? ⟨gb273, 0, none⟩ = some (.int .i64 (wrap64 (rd l0 0))) := (blk_cell BK273.out 0).trans rfl
            have hcz100_1 : wr.cell? ⟨gb273, 1, none⟩ = some (.int .i64 0) := (blk_cell BK273.out 1).trans rfl
            have hcz100_2 : wr.cell? ⟨gb273, 2, none⟩ = some (.int .i64 0) := (blk_cell BK273.out 2).trans rfl
            have hcz100_3 : wr.cell? ⟨gb273, 3, none⟩ = some (.int .i64 0) := (blk_cell BK273.out 3).trans rfl
            have hcz100_4 : wr.cell? ⟨gb273, 4, none⟩ = some (.string (⟨#[]⟩ : ByteArray)) := (blk_cell BK273.out 4).trans rfl
            have hfz100_0 := blk_frozen BK273.out 0
            have hfz100_1 := blk_frozen BK273.out 1
            have hfz100_2 := blk_frozen BK273.out 2
            have hfz100_3 := blk_frozen BK273.out 3
            have hfz100_4 := blk_frozen BK273.out 4
            go_wp2_with (first | ((with_reducible refine gate_callee (f := 21) rfl ?_); refine goesL_ (some 24) rfl rfl Try.func21 (by kernel_rfl) rfl #[.int .i64 (wrap64 (rd l0 0))] rfl (by (try simp only [List.map_toArray, List.map_cons, List.map_nil]); first | done | rfl | (simp only [List.length_drop, List.length_take]; rfl)) ?_; (with_reducible refine (regletref23_Many.calls (wrap64 (rd l0 0)) t276 _ A14.out).mono ?_); rintro e w' ⟨rfl, ⟨nd, rfl⟩⟩; refine ⟨_, rfl, ?_⟩; (try (rw [drewN_self wr]; generalize hq_ : World.drewN wr _ = wr; have n0_ : Aside0 (wr.heap[gb272]? = some (.cells #[.int .i64 x273000_1, .int .i64 x273001_1, .int .i64 x273002_1, .int .i64 x273003_1, .string x273004_1] 30 (0, 0))) := ⟨by rw [← hq_]; exact (by (with_reducible repeat (first | refine blk_drewN ?_ _ | refine blk_drew ?_ | refine blk_alloc ?_ _)); exact BK272.out)⟩; have n1_ : Aside0 (wr.heap[gb273]? = some (.cells #[.int .i64 (wrap64 (rd l0 0)), .int .i64 0, .int .i64 0, .int .i64 0, .string (⟨#[]⟩ : ByteArray)] 30 (0, 0))) := ⟨by rw [← hq_]; exact (by (with_reducible repeat (first | refine blk_drewN ?_ _ | refine blk_drew ?_ | refine blk_alloc ?_ _)); exact BK273.out)⟩; have n2_ : Aside0 (wr.heap[gb275]? = some (.cells #[.int .i64 x276000_1, .int .i64 x276001_1, .int .i64 x276002_1] 68 (0, 0))) := ⟨by rw [← hq_]; exact (by (with_reducible repeat (first | refine blk_drewN ?_ _ | refine blk_drew ?_ | refine blk_alloc ?_ _)); exact BK275.out)⟩; have n3_ : Aside0 (Below w.heap.size w wr) := ⟨by rw [← hq_]; exact (by repeat (first | (with_reducible first | exact HB.out | apply below_alloc | apply pw_below_drewN | apply below_drew1 | refine below_set ?_ GE272.out | refine below_set ?_ GE273.out | refine below_set ?_ GE275.out) | exact HB.out))⟩; clear BK272 BK273 BK275 HB hq_; have BK272 := n0_; have BK273 := n1_; have BK275 := n2_; have HB := n3_; clear n0_ n1_ n2_ n3_)); obtain ⟨i0101, hi0101, _, hsz101, _⟩ := info_parts info5; obtain ⟨A101, hcut101, hA101, hC101⟩ := print_drop_of (P := Try.prog) (Value.int .u8) 0 22 5 .i64 Try.underlying22 hi0101 hsz101 (some ad274) c0 l0 x6_1 (of_decide_eq_true (by first | (with_reducible assumption) | assumption)) (of_decide_eq_true (by first | (with_reducible assumption) | assumption)) HC0.out; have HR277 := Aside0.mk (Kd.C_of_reads (h1 := fun _ => rfl) (hA101 _ (Kd.reads_of_C HR0.out))); have HC277 := Aside0.mk hC101; clear hA101 hC101 hi0101 hsz101) | ((with_reducible refine gate_callee (f := 34) rfl ?_); refine goesL_ (some 32) rfl rfl Try.func34 (by kernel_rfl) rfl #[.slice A101 (l0.drop (x6_1 : Int).toNat).length (c0 - x6_1.toNat)] rfl (by (try simp only [List.map_toArray, List.map_cons, List.map_nil]); first | done | (rw [show (l0.drop (x6_1 : Int).toNat).length = (l0.length - x6_1.toNat) from List.length_drop] <;> rfl) | rfl | (simp only [List.length_drop, List.length_take]; rfl)) ?_; (with_reducible refine (regletref23_value.calls k1 _ _ (l0.drop (x6_1 : Int).toNat) t278 t279 _ ?side1 ?side2 A18.out).mono ?_); (case side1 => repeat (first | exact (Kd.C_below HR277.out HB.out) | (with_reducible refine Kd.C_alloc ?_ _) | (with_reducible refine Kd.C_drewN ?_ _) | (with_reducible refine Kd.C_drew ?_))); (case side2 => exact HC277.out); rintro e w102 ⟨v280, rfl, ho0, hb⟩; refine ⟨_, rfl, ?_⟩; have n0_ := Aside0.mk (Kd.R_lower ho0 (below_size (by repeat (first | (with_reducible first | exact HB.out | apply below_alloc | apply pw_below_drewN | apply below_drew1 | refine below_set ?_ GE272.out | refine below_set ?_ GE273.out | refine below_set ?_ GE275.out) | exact HB.out)))); have n1_ := Aside0.mk (blk_below (g := gb272) (o := .cells #[.int .i64 x273000_1, .int .i64 x273001_1, .int .i64 x273002_1, .int .i64 x273003_1, .string x273004_1] 30 (0, 0)) (by (with_reducible repeat (first | refine blk_drewN ?_ _ | refine blk_drew ?_ | refine blk_alloc ?_ _)); exact BK272.out) hb); have n2_ := Aside0.mk (blk_below (g := gb273) (o := .cells #[.int .i64 (wrap64 (rd l0 0)), .int .i64 0, .int .i64 0, .int .i64 0, .string (⟨#[]⟩ : ByteArray)] 30 (0, 0)) (by (with_reducible repeat (first | refine blk_drewN ?_ _ | refine blk_drew ?_ | refine blk_alloc ?_ _)); exact BK273.out) hb); have n3_ := Aside0.mk (blk_below (g := gb275) (o := .cells #[.int .i64 x276000_1, .int .i64 x276001_1, .int .i64 x276002_1] 68 (0, 0)) (by (with_reducible repeat (first | refine blk_drewN ?_ _ | refine blk_drew ?_ | refine blk_alloc ?_ _)); exact BK275.out) hb); have n4_ := Aside0.mk (below_step (by repeat (first | (with_reducible first | exact HB.out | apply below_alloc | apply pw_below_drewN | apply below_drew1 | refine below_set ?_ GE272.out | refine below_set ?_ GE273.out | refine below_set ?_ GE275.out) | exact HB.out)) hb); clear BK272; clear BK273; clear BK275; clear HB; have HO281 := n0_; have BK272 := n1_; have BK273 := n2_; have BK275 := n3_; have HB := n4_; clear n0_ n1_ n2_ n3_ n4_; (try clear hb); (try clear hb2); (try clear hk); (try clear hi); (try clear ho0); obtain ⟨Ao103, co103, eo103⟩ := Kd.R_slice HO281.out; subst eo103) | ((with_reducible refine gate_callee (f := 35) rfl ?_); refine goesL_ (some 50) rfl rfl Try.func35 (by kernel_rfl) rfl #[.slice Ao103 t278.length co103] rfl (by (try simp only [List.map_toArray, List.map_cons, List.map_nil]); first | done | rfl | (simp only [List.length_drop, List.length_take]; rfl)) ?_; (with_reducible refine (regletref23_number.calls k1 _ _ t278 t284 _ ?side1 ?side2 A79.out).mono ?_); (case side1 => repeat (first | exact (Kd.R_reads' HO281.out).2.2 | (with_reducible refine Kd.C_alloc ?_ _) | (with_reducible refine Kd.C_drewN ?_ _) | (with_reducible refine Kd.C_drew ?_))); (case side2 => exact (Kd.R_reads' HO281.out).2.1); rintro e w' ⟨rfl, ⟨nd, rfl⟩⟩; refine ⟨_, rfl, ?_⟩; (try (rw [drewN_self w102]; generalize hq_ : World.drewN w102 _ = w102; have n0_ : Aside0 (Kd.R (Kd.int .i64) 3 w102 w.heap.size (fun _ => True) (.slice Ao103 t278.length co103) t278) := ⟨by rw [← hq_]; exact (by (with_reducible repeat (first | apply Kd.R_alloc | apply Kd.R_drewN | apply Kd.R_drew)); exact HO281.out)⟩; have n1_ : Aside0 (w102.heap[gb272]? = some (.cells #[.int .i64 x273000_1, .int .i64 x273001_1, .int .i64 x273002_1, .int .i64 x273003_1, .string x273004_1] 30 (0, 0))) := ⟨by rw [← hq_]; exact (by (with_reducible repeat (first | refine blk_drewN ?_ _ | refine blk_drew ?_ | refine blk_alloc ?_ _)); exact BK272.out)⟩; have n2_ : Aside0 (w102.heap[gb273]? = some (.cells #[.int .i64 (wrap64 (rd l0 0)), .int .i64 0, .int .i64 0, .int .i64 0, .string (⟨#[]⟩ : ByteArray)] 30 (0, 0))) := ⟨by rw [← hq_]; exact (by (with_reducible repeat (first | refine blk_drewN ?_ _ | refine blk_drew ?_ | refine blk_alloc ?_ _)); exact BK273.out)⟩; have n3_ : Aside0 (w102.heap[gb275]? = some (.cells #[.int .i64 x276000_1, .int .i64 x276001_1, .int .i64 x276002_1] 68 (0, 0))) := ⟨by rw [← hq_]; exact (by (with_reducible repeat (first | refine blk_drewN ?_ _ | refine blk_drew ?_ | refine blk_alloc ?_ _)); exact BK275.out)⟩; have n4_ : Aside0 (Below w.heap.size w w102) := ⟨by rw [← hq_]; exact (by repeat (first | (with_reducible first | exact HB.out | apply below_alloc | apply pw_below_drewN | apply below_drew1 | refine below_set ?_ GE272.out | refine below_set ?_ GE273.out | refine below_set ?_ GE275.out) | exact HB.out))⟩; clear HO281 BK272 BK273 BK275 HB hq_; have HO281 := n0_; have BK272 := n1_; have BK273 := n2_; have BK275 := n3_; have HB := n4_; clear n0_ n1_ n2_ n3_ n4_)); have hnb104 := NB275_272.out; have hnc104 := NB272_275.out; have hcz105_0 : w102.cell? ⟨gb275, 0, none⟩ = some (.int .i64 x276000_1) := (blk_cell BK275.out 0).trans rfl; have hcz105_1 : w102.cell? ⟨gb275, 1, none⟩ = some (.int .i64 x276001_1) := (blk_cell BK275.out 1).trans rfl; have hcz105_2 : w102.cell? ⟨gb275, 2, none⟩ = some (.int .i64 x276002_1) := (blk_cell BK275.out 2).trans rfl; have hfz105_0 := blk_frozen BK275.out 0; have hfz105_1 := blk_frozen BK275.out 1; have hfz105_2 := blk_frozen BK275.out 2))
            go_roundg k1
            case measure => have := HK1.out; omega
            case rel => exact ⟨(wrap64 (x6_1 + t279)), (wrap64 (x7_1 + 1)), (x273000_1), (x273001_1), (x273002_1), (x273003_1), (x273004_1), (x276000_1), (t284), (x276002_1), (by first | rfl | (simp; done) | (simp [*]; done) | (congr 1; simp only [decide_eq_true_eq, beq_iff_eq, eq_iff_iff, iff_true] at *; unfold wrap64; omega)), (by first | rfl | (simp; done) | (simp [*]; done) | (congr 1; simp only [decide_eq_true_eq, beq_iff_eq, eq_iff_iff, iff_true] at *; unfold wrap64; omega)), H', ⟨by have := HK1.out; omega⟩, ⟨by (with_reducible repeat (first | refine blk_drewN ?_ _ | refine blk_drew ?_ | refine blk_alloc ?_ _)); refine blk_far ?_ NB272_275.out _; (with_reducible repeat (first | refine blk_drewN ?_ _ | refine blk_drew ?_ | refine blk_alloc ?_ _)); exact BK272.out⟩, ⟨by (with_reducible repeat (first | refine blk_drewN ?_ _ | refine blk_drew ?_ | refine blk_alloc ?_ _)); refine blk_far ?_ NB273_275.out _; (with_reducible repeat (first | refine blk_drewN ?_ _ | refine blk_drew ?_ | refine blk_alloc ?_ _)); exact BK273.out⟩, ⟨by (with_reducible repeat (first | refine blk_drewN ?_ _ | refine blk_drew ?_ | refine blk_alloc ?_ _)); refine blk_put (cs := #[.int .i64 x276000_1, .int .i64 x276001_1, .int .i64 x276002_1]) ?_ 1 _ rfl; (with_reducible repeat (first | refine blk_drewN ?_ _ | refine blk_drew ?_ | refine blk_alloc ?_ _)); exact BK275.out⟩, ⟨by repeat (first | (with_reducible first | exact HB.out | apply below_alloc | apply pw_below_drewN | apply below_drew1 | refine below_set ?_ GE272.out | refine below_set ?_ GE273.out | refine below_set ?_ GE275.out) | exact HB.out)⟩⟩
          rw [if_neg c94] at H
          have c94b0 : (x7_1 == 1) = false := beq_eq_false_iff_ne.mpr c94
          have c94b1 : (x7_1 != 1) = true := bne_iff_ne.mpr c94
          by_cases c106 : x7_1 = 2
          rotate_left
          · rw [if_neg c106] at H
            exact absurd H (by simp)
          rw [if_pos c106] at H
          have c106b0 : (x7_1 == 2) = true := beq_iff_eq.mpr c106
          have c106b1 : (x7_1 != 2) = false := bne_eq_false_iff_eq.mpr c106
          clear c106
          have c107b0 := eq_true (of_decide_eq_true (by first | (with_reducible assumption) | assumption) : 0 ≤ x7_1)
          have c108b0 := eq_true (of_decide_eq_true (by first | (with_reducible assumption) | assumption) : x7_1 < 3)
          have c109t : (x7_1 : Int).toNat = 2 := by have h_ : (x7_1 == 2) = true := (by first | (with_reducible assumption) | assumption); rw [beq_iff_eq.1 h_]; rfl
          have H' := Aside0.mk H
          clear H
          have hnb110 := NB273_272.out
          have hnc110 := NB272_273.out
          have hnb111 := NB273_275.out
          have hnc111 := NB275_273.out
          have hcz112_0 : wr.cell? ⟨gb273, 0, none⟩ = some (.int .i64 (wrap64 (rd l0 0))) := (blk_cell BK273.out 0).trans rfl
          have hcz112_1 : wr.cell? ⟨gb273, 1, none⟩ = some (.int .i64 0) := (blk_cell BK273.out 1).trans rfl
          have hcz112_2 : wr.cell? ⟨gb273, 2, none⟩ = some (.int .i64 0) := (blk_cell BK273.out 2).trans rfl
          have hcz112_3 : wr.cell? ⟨gb273, 3, none⟩ = some (.int .i64 0) := (blk_cell BK273.out 3).trans rfl
          have hcz112_4 : wr.cell? ⟨gb273, 4, none⟩ = some (.string (⟨#[]⟩ : ByteArray)) := (blk_cell BK273.out 4).trans rfl
          have hfz112_0 := blk_frozen BK273.out 0
          have hfz112_1 := blk_frozen BK273.out 1
          have hfz112_2 := blk_frozen BK273.out 2
          have hfz112_3 := blk_frozen BK273.out 3
          have hfz112_4 := blk_frozen BK273.out 4
          go_wp2_with (first | ((with_reducible refine gate_callee (f := 21) rfl ?_); refine goesL_ (some 24) rfl rfl Try.func21 (by kernel_rfl) rfl #[.int .i64 (wrap64 (rd l0 0))] rfl (by (try simp only [List.map_toArray, List.map_cons, List.map_nil]); first | done | rfl | (simp only [List.length_drop, List.length_take]; rfl)) ?_; (with_reducible refine (regletref23_Many.calls (wrap64 (rd l0 0)) t276 _ A14.out).mono ?_); rintro e w' ⟨rfl, ⟨nd, rfl⟩⟩; refine ⟨_, rfl, ?_⟩; (try (rw [drewN_self wr]; generalize hq_ : World.drewN wr _ = wr; have n0_ : Aside0 (wr.heap[gb272]? = some (.cells #[.int .i64 x273000_1, .int .i64 x273001_1, .int .i64 x273002_1, .int .i64 x273003_1, .string x273004_1] 30 (0, 0))) := ⟨by rw [← hq_]; exact (by (with_reducible repeat (first | refine blk_drewN ?_ _ | refine blk_drew ?_ | refine blk_alloc ?_ _)); exact BK272.out)⟩; have n1_ : Aside0 (wr.heap[gb273]? = some (.cells #[.int .i64 (wrap64 (rd l0 0)), .int .i64 0, .int .i64 0, .int .i64 0, .string (⟨#[]⟩ : ByteArray)] 30 (0, 0))) := ⟨by rw [← hq_]; exact (by (with_reducible repeat (first | refine blk_drewN ?_ _ | refine blk_drew ?_ | refine blk_alloc ?_ _)); exact BK273.out)⟩; have n2_ : Aside0 (wr.heap[gb275]? = some (.cells #[.int .i64 x276000_1, .int .i64 x276001_1, .int .i64 x276002_1] 68 (0, 0))) := ⟨by rw [← hq_]; exact (by (with_reducible repeat (first | refine blk_drewN ?_ _ | refine blk_drew ?_ | refine blk_alloc ?_ _)); exact BK275.out)⟩; have n3_ : Aside0 (Below w.heap.size w wr) := ⟨by rw [← hq_]; exact (by repeat (first | (with_reducible first | exact HB.out | apply below_alloc | apply pw_below_drewN | apply below_drew1 | refine below_set ?_ GE272.out | refine below_set ?_ GE273.out | refine below_set ?_ GE275.out) | exact HB.out))⟩; clear BK272 BK273 BK275 HB hq_; have BK272 := n0_; have BK273 := n1_; have BK275 := n2_; have HB := n3_; clear n0_ n1_ n2_ n3_)); obtain ⟨i0113, hi0113, _, hsz113, _⟩ := info_parts info5; obtain ⟨A113, hcut113, hA113, hC113⟩ := print_drop_of (P := Try.prog) (Value.int .u8) 0 22 5 .i64 Try.underlying22 hi0113 hsz113 (some ad274) c0 l0 x6_1 (of_decide_eq_true (by first | (with_reducible assumption) | assumption)) (of_decide_eq_true (by first | (with_reducible assumption) | assumption)) HC0.out; have HR277 := Aside0.mk (Kd.C_of_reads (h1 := fun _ => rfl) (hA113 _ (Kd.reads_of_C HR0.out))); have HC277 := Aside0.mk hC113; clear hA113 hC113 hi0113 hsz113) | ((with_reducible refine gate_callee (f := 34) rfl ?_); refine goesL_ (some 32) rfl rfl Try.func34 (by kernel_rfl) rfl #[.slice A113 (l0.drop (x6_1 : Int).toNat).length (c0 - x6_1.toNat)] rfl (by (try simp only [List.map_toArray, List.map_cons, List.map_nil]); first | done | (rw [show (l0.drop (x6_1 : Int).toNat).length = (l0.length - x6_1.toNat) from List.length_drop] <;> rfl) | rfl | (simp only [List.length_drop, List.length_take]; rfl)) ?_; (with_reducible refine (regletref23_value.calls k1 _ _ (l0.drop (x6_1 : Int).toNat) t278 t279 _ ?side1 ?side2 A18.out).mono ?_); (case side1 => repeat (first | exact (Kd.C_below HR277.out HB.out) | (with_reducible refine Kd.C_alloc ?_ _) | (with_reducible refine Kd.C_drewN ?_ _) | (with_reducible refine Kd.C_drew ?_))); (case side2 => exact HC277.out); rintro e w114 ⟨v280, rfl, ho0, hb⟩; refine ⟨_, rfl, ?_⟩; have n0_ := Aside0.mk (Kd.R_lower ho0 (below_size (by repeat (first | (with_reducible first | exact HB.out | apply below_alloc | apply pw_below_drewN | apply below_drew1 | refine below_set ?_ GE272.out | refine below_set ?_ GE273.out | refine below_set ?_ GE275.out) | exact HB.out)))); have n1_ := Aside0.mk (blk_below (g := gb272) (o := .cells #[.int .i64 x273000_1, .int .i64 x273001_1, .int .i64 x273002_1, .int .i64 x273003_1, .string x273004_1] 30 (0, 0)) (by (with_reducible repeat (first | refine blk_drewN ?_ _ | refine blk_drew ?_ | refine blk_alloc ?_ _)); exact BK272.out) hb); have n2_ := Aside0.mk (blk_below (g := gb273) (o := .cells #[.int .i64 (wrap64 (rd l0 0)), .int .i64 0, .int .i64 0, .int .i64 0, .string (⟨#[]⟩ : ByteArray)] 30 (0, 0)) (by (with_reducible repeat (first | refine blk_drewN ?_ _ | refine blk_drew ?_ | refine blk_alloc ?_ _)); exact BK273.out) hb); have n3_ := Aside0.mk (blk_below (g := gb275) (o := .cells #[.int .i64 x276000_1, .int .i64 x276001_1, .int .i64 x276002_1] 68 (0, 0)) (by (with_reducible repeat (first | refine blk_drewN ?_ _ | refine blk_drew ?_ | refine blk_alloc ?_ _)); exact BK275.out) hb); have n4_ := Aside0.mk (below_step (by repeat (first | (with_reducible first | exact HB.out | apply below_alloc | apply pw_below_drewN | apply below_drew1 | refine below_set ?_ GE272.out | refine below_set ?_ GE273.out | refine below_set ?_ GE275.out) | exact HB.out)) hb); clear BK272; clear BK273; clear BK275; clear HB; have HO281 := n0_; have BK272 := n1_; have BK273 := n2_; have BK275 := n3_; have HB := n4_; clear n0_ n1_ n2_ n3_ n4_; (try clear hb); (try clear hb2); (try clear hk); (try clear hi); (try clear ho0); obtain ⟨Ao115, co115, eo115⟩ := Kd.R_slice HO281.out; subst eo115) | ((with_reducible refine gate_callee (f := 35) rfl ?_); refine goesL_ (some 50) rfl rfl Try.func35 (by kernel_rfl) rfl #[.slice Ao115 t278.length co115] rfl (by (try simp only [List.map_toArray, List.map_cons, List.map_nil]); first | done | rfl | (simp only [List.length_drop, List.length_take]; rfl)) ?_; (with_reducible refine (regletref23_number.calls k1 _ _ t278 t284 _ ?side1 ?side2 A79.out).mono ?_); (case side1 => repeat (first | exact (Kd.R_reads' HO281.out).2.2 | (with_reducible refine Kd.C_alloc ?_ _) | (with_reducible refine Kd.C_drewN ?_ _) | (with_reducible refine Kd.C_drew ?_))); (case side2 => exact (Kd.R_reads' HO281.out).2.1); rintro e w' ⟨rfl, ⟨nd, rfl⟩⟩; refine ⟨_, rfl, ?_⟩; (try (rw [drewN_self w114]; generalize hq_ : World.drewN w114 _ = w114; have n0_ : Aside0 (Kd.R (Kd.int .i64) 3 w114 w.heap.size (fun _ => True) (.slice Ao115 t278.length co115) t278) := ⟨by rw [← hq_]; exact (by (with_reducible repeat (first | apply Kd.R_alloc | apply Kd.R_drewN | apply Kd.R_drew)); exact HO281.out)⟩; have n1_ : Aside0 (w114.heap[gb272]? = some (.cells #[.int .i64 x273000_1, .int .i64 x273001_1, .int .i64 x273002_1, .int .i64 x273003_1, .string x273004_1] 30 (0, 0))) := ⟨by rw [← hq_]; exact (by (with_reducible repeat (first | refine blk_drewN ?_ _ | refine blk_drew ?_ | refine blk_alloc ?_ _)); exact BK272.out)⟩; have n2_ : Aside0 (w114.heap[gb273]? = some (.cells #[.int .i64 (wrap64 (rd l0 0)), .int .i64 0, .int .i64 0, .int .i64 0, .string (⟨#[]⟩ : ByteArray)] 30 (0, 0))) := ⟨by rw [← hq_]; exact (by (with_reducible repeat (first | refine blk_drewN ?_ _ | refine blk_drew ?_ | refine blk_alloc ?_ _)); exact BK273.out)⟩; have n3_ : Aside0 (w114.heap[gb275]? = some (.cells #[.int .i64 x276000_1, .int .i64 x276001_1, .int .i64 x276002_1] 68 (0, 0))) := ⟨by rw [← hq_]; exact (by (with_reducible repeat (first | refine blk_drewN ?_ _ | refine blk_drew ?_ | refine blk_alloc ?_ _)); exact BK275.out)⟩; have n4_ : Aside0 (Below w.heap.size w w114) := ⟨by rw [← hq_]; exact (by repeat (first | (with_reducible first | exact HB.out | apply below_alloc | apply pw_below_drewN | apply below_drew1 | refine below_set ?_ GE272.out | refine below_set ?_ GE273.out | refine below_set ?_ GE275.out) | exact HB.out))⟩; clear HO281 BK272 BK273 BK275 HB hq_; have HO281 := n0_; have BK272 := n1_; have BK273 := n2_; have BK275 := n3_; have HB := n4_; clear n0_ n1_ n2_ n3_ n4_)); have hnb116 := NB275_272.out; have hnc116 := NB272_275.out; have hcz117_0 : w114.cell? ⟨gb275, 0, none⟩ = some (.int .i64 x276000_1) := (blk_cell BK275.out 0).trans rfl; have hcz117_1 : w114.cell? ⟨gb275, 1, none⟩ = some (.int .i64 x276001_1) := (blk_cell BK275.out 1).trans rfl; have hcz117_2 : w114.cell? ⟨gb275, 2, none⟩ = some (.int .i64 x276002_1) := (blk_cell BK275.out 2).trans rfl; have hfz117_0 := blk_frozen BK275.out 0; have hfz117_1 := blk_frozen BK275.out 1; have hfz117_2 := blk_frozen BK275.out 2))
          go_roundg k1
          case measure => have := HK1.out; omega
          case rel => exact ⟨(wrap64 (x6_1 + t279)), (wrap64 (x7_1 + 1)), (x273000_1), (x273001_1), (x273002_1), (x273003_1), (x273004_1), (x276000_1), (x276001_1), (t284), (by first | rfl | (simp; done) | (simp [*]; done) | (congr 1; simp only [decide_eq_true_eq, beq_iff_eq, eq_iff_iff, iff_true] at *; unfold wrap64; omega)), (by first | rfl | (simp; done) | (simp [*]; done) | (congr 1; simp only [decide_eq_true_eq, beq_iff_eq, eq_iff_iff, iff_true] at *; unfold wrap64; omega)), H', ⟨by have := HK1.out; omega⟩, ⟨by (with_reducible repeat (first | refine blk_drewN ?_ _ | refine blk_drew ?_ | refine blk_alloc ?_ _)); refine blk_far ?_ NB272_275.out _; (with_reducible repeat (first | refine blk_drewN ?_ _ | refine blk_drew ?_ | refine blk_alloc ?_ _)); exact BK272.out⟩, ⟨by (with_reducible repeat (first | refine blk_drewN ?_ _ | refine blk_drew ?_ | refine blk_alloc ?_ _)); refine blk_far ?_ NB273_275.out _; (with_reducible repeat (first | refine blk_drewN ?_ _ | refine blk_drew ?_ | refine blk_alloc ?_ _)); exact BK273.out⟩, ⟨by (with_reducible repeat (first | refine blk_drewN ?_ _ | refine blk_drew ?_ | refine blk_alloc ?_ _)); refine blk_put (cs := #[.int .i64 x276000_1, .int .i64 x276001_1, .int .i64 x276002_1]) ?_ 2 _ rfl; (with_reducible repeat (first | refine blk_drewN ?_ _ | refine blk_drew ?_ | refine blk_alloc ?_ _)); exact BK275.out⟩, ⟨by repeat (first | (with_reducible first | exact HB.out | apply below_alloc | apply pw_below_drewN | apply below_drew1 | refine below_set ?_ GE272.out | refine below_set ?_ GE273.out | refine below_set ?_ GE275.out) | exact HB.out)⟩⟩
        rw [if_pos c28] at H
        have c28b0 : (t279 == 10) = true := beq_iff_eq.mpr c28
        have c28b1 : (t279 != 10) = false := bne_eq_false_iff_eq.mpr c28
        clear c28
        by_cases c29 : 9 < (t278.length : Int)
        rotate_left
        · rw [if_neg c29] at H
          exact absurd H (by simp)
        rw [if_pos c29] at H
        have c29b0 : decide (9 < (t278.length : Int)) = true := decide_eq_true c29
        have c29b1 : decide (9 < t278.length) = true := decide_eq_true (by omega)
        clear c29
        by_cases c30 : (rd t278 9) > 1
        · rw [if_pos c30] at H
          have c30b0 : decide (1 < (rd t278 9)) = true := decide_eq_true c30
          clear c30
          simp only [Option.some.injEq, Prod.mk.injEq] at H
          obtain ⟨rfl, rfl, rfl, rfl, rfl, rfl⟩ := H
          have hnb31 := NB273_272.out
          have hnc31 := NB272_273.out
          have hnb32 := NB273_275.out
          have hnc32 := NB275_273.out
          have hcz33_0 : wr.cell? ⟨gb273, 0, none⟩ = some (.int .i64 (wrap64 (rd l0 0))) := (blk_cell BK273.out 0).trans rfl
          have hcz33_1 : wr.cell? ⟨gb273, 1, none⟩ = some (.int .i64 0) := (blk_cell BK273.out 1).trans rfl
          have hcz33_2 : wr.cell? ⟨gb273, 2, none⟩ = some (.int .i64 0) := (blk_cell BK273.out 2).trans rfl
          have hcz33_3 : wr.cell? ⟨gb273, 3, none⟩ = some (.int .i64 0) := (blk_cell BK273.out 3).trans rfl
          have hcz33_4 : wr.cell? ⟨gb273, 4, none⟩ = some (.string (⟨#[]⟩ : ByteArray)) := (blk_cell BK273.out 4).trans rfl
          have hfz33_0 := blk_frozen BK273.out 0
          have hfz33_1 := blk_frozen BK273.out 1
          have hfz33_2 := blk_frozen BK273.out 2
          have hfz33_3 := blk_frozen BK273.out 3
          have hfz33_4 := blk_frozen BK273.out 4
          go_wp2_with (first | ((with_reducible refine gate_callee (f := 21) rfl ?_); refine goesL_ (some 24) rfl rfl Try.func21 (by kernel_rfl) rfl #[.int .i64 (wrap64 (rd l0 0))] rfl (by (try simp only [List.map_toArray, List.map_cons, List.map_nil]); first | done | rfl | (simp only [List.length_drop, List.length_take]; rfl)) ?_; (with_reducible refine (regletref23_Many.calls (wrap64 (rd l0 0)) t276 _ A14.out).mono ?_); rintro e w' ⟨rfl, ⟨nd, rfl⟩⟩; refine ⟨_, rfl, ?_⟩; (try (rw [drewN_self wr]; generalize hq_ : World.drewN wr _ = wr; have n0_ : Aside0 (wr.heap[gb272]? = some (.cells #[.int .i64 x273000_1, .int .i64 x273001_1, .int .i64 x273002_1, .int .i64 x273003_1, .string x273004_1] 30 (0, 0))) := ⟨by rw [← hq_]; exact (by (with_reducible repeat (first | refine blk_drewN ?_ _ | refine blk_drew ?_ | refine blk_alloc ?_ _)); exact BK272.out)⟩; have n1_ : Aside0 (wr.heap[gb273]? = some (.cells #[.int .i64 (wrap64 (rd l0 0)), .int .i64 0, .int .i64 0, .int .i64 0, .string (⟨#[]⟩ : ByteArray)] 30 (0, 0))) := ⟨by rw [← hq_]; exact (by (with_reducible repeat (first | refine blk_drewN ?_ _ | refine blk_drew ?_ | refine blk_alloc ?_ _)); exact BK273.out)⟩; have n2_ : Aside0 (wr.heap[gb275]? = some (.cells #[.int .i64 x276000_1, .int .i64 x276001_1, .int .i64 x276002_1] 68 (0, 0))) := ⟨by rw [← hq_]; exact (by (with_reducible repeat (first | refine blk_drewN ?_ _ | refine blk_drew ?_ | refine blk_alloc ?_ _)); exact BK275.out)⟩; have n3_ : Aside0 (Below w.heap.size w wr) := ⟨by rw [← hq_]; exact (by repeat (first | (with_reducible first | exact HB.out | apply below_alloc | apply pw_below_drewN | apply below_drew1 | refine below_set ?_ GE272.out | refine below_set ?_ GE273.out | refine below_set ?_ GE275.out) | exact HB.out))⟩; clear BK272 BK273 BK275 HB hq_; have BK272 := n0_; have BK273 := n1_; have BK275 := n2_; have HB := n3_; clear n0_ n1_ n2_ n3_)); obtain ⟨i034, hi034, _, hsz34, _⟩ := info_parts info5; obtain ⟨A34, hcut34, hA34, hC34⟩ := print_drop_of (P := Try.prog) (Value.int .u8) 0 22 5 .i64 Try.underlying22 hi034 hsz34 (some ad274) c0 l0 x6_1 (of_decide_eq_true (by first | (with_reducible assumption) | assumption)) (of_decide_eq_true (by first | (with_reducible assumption) | assumption)) HC0.out; have HR277 := Aside0.mk (Kd.C_of_reads (h1 := fun _ => rfl) (hA34 _ (Kd.reads_of_C HR0.out))); have HC277 := Aside0.mk hC34; clear hA34 hC34 hi034 hsz34) | ((with_reducible refine gate_callee (f := 34) rfl ?_); refine goesL_ (some 32) rfl rfl Try.func34 (by kernel_rfl) rfl #[.slice A34 (l0.drop (x6_1 : Int).toNat).length (c0 - x6_1.toNat)] rfl (by (try simp only [List.map_toArray, List.map_cons, List.map_nil]); first | done | (rw [show (l0.drop (x6_1 : Int).toNat).length = (l0.length - x6_1.toNat) from List.length_drop] <;> rfl) | rfl | (simp only [List.length_drop, List.length_take]; rfl)) ?_; (with_reducible refine (regletref23_value.calls k1 _ _ (l0.drop (x6_1 : Int).toNat) t278 t279 _ ?side1 ?side2 A18.out).mono ?_); (case side1 => repeat (first | exact (Kd.C_below HR277.out HB.out) | (with_reducible refine Kd.C_alloc ?_ _) | (with_reducible refine Kd.C_drewN ?_ _) | (with_reducible refine Kd.C_drew ?_))); (case side2 => exact HC277.out); rintro e w35 ⟨v280, rfl, ho0, hb⟩; refine ⟨_, rfl, ?_⟩; have n0_ := Aside0.mk (Kd.R_lower ho0 (below_size (by repeat (first | (with_reducible first | exact HB.out | apply below_alloc | apply pw_below_drewN | apply below_drew1 | refine below_set ?_ GE272.out | refine below_set ?_ GE273.out | refine below_set ?_ GE275.out) | exact HB.out)))); have n1_ := Aside0.mk (blk_below (g := gb272) (o := .cells #[.int .i64 x273000_1, .int .i64 x273001_1, .int .i64 x273002_1, .int .i64 x273003_1, .string x273004_1] 30 (0, 0)) (by (with_reducible repeat (first | refine blk_drewN ?_ _ | refine blk_drew ?_ | refine blk_alloc ?_ _)); exact BK272.out) hb); have n2_ := Aside0.mk (blk_below (g := gb273) (o := .cells #[.int .i64 (wrap64 (rd l0 0)), .int .i64 0, .int .i64 0, .int .i64 0, .string (⟨#[]⟩ : ByteArray)] 30 (0, 0)) (by (with_reducible repeat (first | refine blk_drewN ?_ _ | refine blk_drew ?_ | refine blk_alloc ?_ _)); exact BK273.out) hb); have n3_ := Aside0.mk (blk_below (g := gb275) (o := .cells #[.int .i64 x276000_1, .int .i64 x276001_1, .int .i64 x276002_1] 68 (0, 0)) (by (with_reducible repeat (first | refine blk_drewN ?_ _ | refine blk_drew ?_ | refine blk_alloc ?_ _)); exact BK275.out) hb); have n4_ := Aside0.mk (below_step (by repeat (first | (with_reducible first | exact HB.out | apply below_alloc | apply pw_below_drewN | apply below_drew1 | refine below_set ?_ GE272.out | refine below_set ?_ GE273.out | refine below_set ?_ GE275.out) | exact HB.out)) hb); clear BK272; clear BK273; clear BK275; clear HB; have HO281 := n0_; have BK272 := n1_; have BK273 := n2_; have BK275 := n3_; have HB := n4_; clear n0_ n1_ n2_ n3_ n4_; (try clear hb); (try clear hb2); (try clear hk); (try clear hi); (try clear ho0); obtain ⟨Ao36, co36, eo36⟩ := Kd.R_slice HO281.out; subst eo36; have p282 : 0 ≤ (9 : Int) := (by omega); have q282 : 9 < (t278.length : Int) := of_decide_eq_true (by first | (with_reducible assumption) | assumption); obtain ⟨ad282, e282, hx282_0⟩ := Kd.at_int (Kd.R_reads' HO281.out).2.2 9 p282 q282; cases e282; (try simp only [show (9 : Int).toNat = 9 from rfl, Nat.reduceMul, Nat.reduceEqDiff, Go.Addr.add, ↓reduceIte] at hx282_0); have qi282 : (9 < t278.length) = True := eq_true (by omega); (try rw [show ((9 : Int)).toNat = 9 from rfl] at hx282_0); replace p282 := eq_true p282; replace q282 := eq_true q282; have hcz37_0 : w35.cell? ⟨gb273, 0, none⟩ = some (.int .i64 (wrap64 (rd l0 0))) := (blk_cell BK273.out 0).trans rfl; have hcz37_1 : w35.cell? ⟨gb273, 1, none⟩ = some (.int .i64 0) := (blk_cell BK273.out 1).trans rfl; have hcz37_2 : w35.cell? ⟨gb273, 2, none⟩ = some (.int .i64 0) := (blk_cell BK273.out 2).trans rfl; have hcz37_3 : w35.cell? ⟨gb273, 3, none⟩ = some (.int .i64 0) := (blk_cell BK273.out 3).trans rfl; have hcz37_4 : w35.cell? ⟨gb273, 4, none⟩ = some (.string (⟨#[]⟩ : ByteArray)) := (blk_cell BK273.out 4).trans rfl; have hfz37_0 := blk_frozen BK273.out 0; have hfz37_1 := blk_frozen BK273.out 1; have hfz37_2 := blk_frozen BK273.out 2; have hfz37_3 := blk_frozen BK273.out 3; have hfz37_4 := blk_frozen BK273.out 4; have hnb38 := NB272_275.out; have hnc38 := NB275_272.out; have hcz39_0 : w35.cell? ⟨gb272, 0, none⟩ = some (.int .i64 x273000_1) := (blk_cell BK272.out 0).trans rfl; have hcz39_1 : w35.cell? ⟨gb272, 1, none⟩ = some (.int .i64 x273001_1) := (blk_cell BK272.out 1).trans rfl; have hcz39_2 : w35.cell? ⟨gb272, 2, none⟩ = some (.int .i64 x273002_1) := (blk_cell BK272.out 2).trans rfl; have hcz39_3 : w35.cell? ⟨gb272, 3, none⟩ = some (.int .i64 x273003_1) := (blk_cell BK272.out 3).trans rfl; have hcz39_4 : w35.cell? ⟨gb272, 4, none⟩ = some (.string x273004_1) := (blk_cell BK272.out 4).trans rfl; have hfz39_0 := blk_frozen BK272.out 0; have hfz39_1 := blk_frozen BK272.out 1; have hfz39_2 := blk_frozen BK272.out 2; have hfz39_3 := blk_frozen BK272.out 3; have hfz39_4 := blk_frozen BK272.out 4))
          refine bodyPost_ret (results_ct rfl _ _ gb272 30 #[.int .i64 (wrap64 (rd l0 0)), .int .i64 0, .int .i64 0, .int .i64 0, .string (⟨#[]⟩ : ByteArray)] (0, 0) _ rfl (by (with_reducible repeat (first | refine blk_drewN ?_ _ | refine blk_drew ?_ | refine blk_alloc ?_ _)); refine blk_put (cs := #[.int .i64 (wrap64 (rd l0 0)), .int .i64 0, .int .i64 0, .int .i64 0, .string x273004_1]) ?_ 4 _ rfl; (with_reducible repeat (first | refine blk_drewN ?_ _ | refine blk_drew ?_ | refine blk_alloc ?_ _)); refine blk_put (cs := #[.int .i64 (wrap64 (rd l0 0)), .int .i64 0, .int .i64 0, .int .i64 x273003_1, .string x273004_1]) ?_ 3 _ rfl; (with_reducible repeat (first | refine blk_drewN ?_ _ | refine blk_drew ?_ | refine blk_alloc ?_ _)); refine blk_put (cs := #[.int .i64 (wrap64 (rd l0 0)), .int .i64 0, .int .i64 x273002_1, .int .i64 x273003_1, .string x273004_1]) ?_ 2 _ rfl; (with_reducible repeat (first | refine blk_drewN ?_ _ | refine blk_drew ?_ | refine blk_alloc ?_ _)); refine blk_put (cs := #[.int .i64 (wrap64 (rd l0 0)), .int .i64 x273001_1, .int .i64 x273002_1, .int .i64 x273003_1, .string x273004_1]) ?_ 1 _ rfl; (with_reducible repeat (first | refine blk_drewN ?_ _ | refine blk_drew ?_ | refine blk_alloc ?_ _)); refine blk_put (cs := #[.int .i64 x273000_1, .int .i64 x273001_1, .int .i64 x273002_1, .int .i64 x273003_1, .string x273004_1]) ?_ 0 _ rfl; (with_reducible repeat (first | refine blk_drewN ?_ _ | refine blk_drew ?_ | refine blk_alloc ?_ _)); exact BK272.out) Try.underlying30 rfl (by kernel_rfl)) rfl ?_
          exact ⟨by first | rfl | (simp [errW_none, errW_some] <;> rfl) | (simp [*, errW_none, errW_some] <;> rfl), by repeat (first | (with_reducible first | exact HB.out | apply below_alloc | apply pw_below_drewN | apply below_drew1 | refine below_set ?_ GE272.out | refine below_set ?_ GE273.out | refine below_set ?_ GE275.out) | exact HB.out)⟩
        rw [if_neg c30] at H
        have c30b0 : decide (1 < (rd t278 9)) = false := decide_eq_false c30
        clear c30
        replace H := Option.bind_eq_some_iff.mp H
        obtain ⟨t283, A400, H⟩ := H
        replace H : (if 0 ≤ x7_1 then (if x7_1 < 3 then (if x7_1 = 0 then (regletref23_One.l0 k1 l0 (wrap64 (x6_1 + t279)) (wrap64 (x7_1 + 1)) (wrap64 (rd l0 0)) 0 0 0 (⟨#[]⟩ : ByteArray) t283 x276001_1 x276002_1) else (if x7_1 = 1 then (regletref23_One.l0 k1 l0 (wrap64 (x6_1 + t279)) (wrap64 (x7_1 + 1)) (wrap64 (rd l0 0)) 0 0 0 (⟨#[]⟩ : ByteArray) x276000_1 t283 x276002_1) else (if x7_1 = 2 then (regletref23_One.l0 k1 l0 (wrap64 (x6_1 + t279)) (wrap64 (x7_1 + 1)) (wrap64 (rd l0 0)) 0 0 0 (⟨#[]⟩ : ByteArray) x276000_1 x276001_1 t283) else (none)))) else (none)) else (none)) = some (r1, r2, r3, r4, r5, r6) := H
        have A40 := Aside0.mk A400
        clear A400
        by_cases c41 : 0 ≤ x7_1
        rotate_left
        · rw [if_neg c41] at H
          exact absurd H (by simp)
        rw [if_pos c41] at H
        have c41b0 : decide (0 ≤ x7_1) = true := decide_eq_true c41
        clear c41
        by_cases c42 : x7_1 < 3
        rotate_left
        · rw [if_neg c42] at H
          exact absurd H (by simp)
        rw [if_pos c42] at H
        have c42b0 : decide (x7_1 < 3) = true := decide_eq_true c42
        clear c42
        by_cases c43 : x7_1 = 0
        · rw [if_pos c43] at H
          have c43b0 : (x7_1 == 0) = true := beq_iff_eq.mpr c43
          have c43b1 : (x7_1 != 0) = false := bne_eq_false_iff_eq.mpr c43
          clear c43
          have c44b0 := eq_true (of_decide_eq_true (by first | (with_reducible assumption) | assumption) : 0 ≤ x7_1)
          have c45b0 := eq_true (of_decide_eq_true (by first | (with_reducible assumption) | assumption) : x7_1 < 3)
          have c46t : (x7_1 : Int).toNat = 0 := by have h_ : (x7_1 == 0) = true := (by first | (with_reducible assumption) | assumption); rw [beq_iff_eq.1 h_]; rfl
          have H' := Aside0.mk H
          clear H
          have hnb47 := NB273_272.out
          have hnc47 := NB272_273.out
          have hnb48 := NB273_275.out
          have hnc48 := NB275_273.out
          have hcz49_0 : wr.cell? ⟨gb273, 0, none⟩ = some (.int .i64 (wrap64 (rd l0 0))) := (blk_cell BK273.out 0).trans rfl
          have hcz49_1 : wr.cell? ⟨gb273, 1, none⟩ = some (.int .i64 0) := (blk_cell BK273.out 1).trans rfl
          have hcz49_2 : wr.cell? ⟨gb273, 2, none⟩ = some (.int .i64 0) := (blk_cell BK273.out 2).trans rfl
          have hcz49_3 : wr.cell? ⟨gb273, 3, none⟩ = some (.int .i64 0) := (blk_cell BK273.out 3).trans rfl
          have hcz49_4 : wr.cell? ⟨gb273, 4, none⟩ = some (.string (⟨#[]⟩ : ByteArray)) := (blk_cell BK273.out 4).trans rfl
          have hfz49_0 := blk_frozen BK273.out 0
          have hfz49_1 := blk_frozen BK273.out 1
          have hfz49_2 := blk_frozen BK273.out 2
          have hfz49_3 := blk_frozen BK273.out 3
          have hfz49_4 := blk_frozen BK273.out 4
          go_wp2_with (first | ((with_reducible refine gate_callee (f := 21) rfl ?_); refine goesL_ (some 24) rfl rfl Try.func21 (by kernel_rfl) rfl #[.int .i64 (wrap64 (rd l0 0))] rfl (by (try simp only [List.map_toArray, List.map_cons, List.map_nil]); first | done | rfl | (simp only [List.length_drop, List.length_take]; rfl)) ?_; (with_reducible refine (regletref23_Many.calls (wrap64 (rd l0 0)) t276 _ A14.out).mono ?_); rintro e w' ⟨rfl, ⟨nd, rfl⟩⟩; refine ⟨_, rfl, ?_⟩; (try (rw [drewN_self wr]; generalize hq_ : World.drewN wr _ = wr; have n0_ : Aside0 (wr.heap[gb272]? = some (.cells #[.int .i64 x273000_1, .int .i64 x273001_1, .int .i64 x273002_1, .int .i64 x273003_1, .string x273004_1] 30 (0, 0))) := ⟨by rw [← hq_]; exact (by (with_reducible repeat (first | refine blk_drewN ?_ _ | refine blk_drew ?_ | refine blk_alloc ?_ _)); exact BK272.out)⟩; have n1_ : Aside0 (wr.heap[gb273]? = some (.cells #[.int .i64 (wrap64 (rd l0 0)), .int .i64 0, .int .i64 0, .int .i64 0, .string (⟨#[]⟩ : ByteArray)] 30 (0, 0))) := ⟨by rw [← hq_]; exact (by (with_reducible repeat (first | refine blk_drewN ?_ _ | refine blk_drew ?_ | refine blk_alloc ?_ _)); exact BK273.out)⟩; have n2_ : Aside0 (wr.heap[gb275]? = some (.cells #[.int .i64 x276000_1, .int .i64 x276001_1, .int .i64 x276002_1] 68 (0, 0))) := ⟨by rw [← hq_]; exact (by (with_reducible repeat (first | refine blk_drewN ?_ _ | refine blk_drew ?_ | refine blk_alloc ?_ _)); exact BK275.out)⟩; have n3_ : Aside0 (Below w.heap.size w wr) := ⟨by rw [← hq_]; exact (by repeat (first | (with_reducible first | exact HB.out | apply below_alloc | apply pw_below_drewN | apply below_drew1 | refine below_set ?_ GE272.out | refine below_set ?_ GE273.out | refine below_set ?_ GE275.out) | exact HB.out))⟩; clear BK272 BK273 BK275 HB hq_; have BK272 := n0_; have BK273 := n1_; have BK275 := n2_; have HB := n3_; clear n0_ n1_ n2_ n3_)); obtain ⟨i050, hi050, _, hsz50, _⟩ := info_parts info5; obtain ⟨A50, hcut50, hA50, hC50⟩ := print_drop_of (P := Try.prog) (Value.int .u8) 0 22 5 .i64 Try.underlying22 hi050 hsz50 (some ad274) c0 l0 x6_1 (of_decide_eq_true (by first | (with_reducible assumption) | assumption)) (of_decide_eq_true (by first | (with_reducible assumption) | assumption)) HC0.out; have HR277 := Aside0.mk (Kd.C_of_reads (h1 := fun _ => rfl) (hA50 _ (Kd.reads_of_C HR0.out))); have HC277 := Aside0.mk hC50; clear hA50 hC50 hi050 hsz50) | ((with_reducible refine gate_callee (f := 34) rfl ?_); refine goesL_ (some 32) rfl rfl Try.func34 (by kernel_rfl) rfl #[.slice A50 (l0.drop (x6_1 : Int).toNat).length (c0 - x6_1.toNat)] rfl (by (try simp only [List.map_toArray, List.map_cons, List.map_nil]); first | done | (rw [show (l0.drop (x6_1 : Int).toNat).length = (l0.length - x6_1.toNat) from List.length_drop] <;> rfl) | rfl | (simp only [List.length_drop, List.length_take]; rfl)) ?_; (with_reducible refine (regletref23_value.calls k1 _ _ (l0.drop (x6_1 : Int).toNat) t278 t279 _ ?side1 ?side2 A18.out).mono ?_); (case side1 => repeat (first | exact (Kd.C_below HR277.out HB.out) | (with_reducible refine Kd.C_alloc ?_ _) | (with_reducible refine Kd.C_drewN ?_ _) | (with_reducible refine Kd.C_drew ?_))); (case side2 => exact HC277.out); rintro e w51 ⟨v280, rfl, ho0, hb⟩; refine ⟨_, rfl, ?_⟩; have n0_ := Aside0.mk (Kd.R_lower ho0 (below_size (by repeat (first | (with_reducible first | exact HB.out | apply below_alloc | apply pw_below_drewN | apply below_drew1 | refine below_set ?_ GE272.out | refine below_set ?_ GE273.out | refine below_set ?_ GE275.out) | exact HB.out)))); have n1_ := Aside0.mk (blk_below (g := gb272) (o := .cells #[.int .i64 x273000_1, .int .i64 x273001_1, .int .i64 x273002_1, .int .i64 x273003_1, .string x273004_1] 30 (0, 0)) (by (with_reducible repeat (first | refine blk_drewN ?_ _ | refine blk_drew ?_ | refine blk_alloc ?_ _)); exact BK272.out) hb); have n2_ := Aside0.mk (blk_below (g := gb273) (o := .cells #[.int .i64 (wrap64 (rd l0 0)), .int .i64 0, .int .i64 0, .int .i64 0, .string (⟨#[]⟩ : ByteArray)] 30 (0, 0)) (by (with_reducible repeat (first | refine blk_drewN ?_ _ | refine blk_drew ?_ | refine blk_alloc ?_ _)); exact BK273.out) hb); have n3_ := Aside0.mk (blk_below (g := gb275) (o := .cells #[.int .i64 x276000_1, .int .i64 x276001_1, .int .i64 x276002_1] 68 (0, 0)) (by (with_reducible repeat (first | refine blk_drewN ?_ _ | refine blk_drew ?_ | refine blk_alloc ?_ _)); exact BK275.out) hb); have n4_ := Aside0.mk (below_step (by repeat (first | (with_reducible first | exact HB.out | apply below_alloc | apply pw_below_drewN | apply below_drew1 | refine below_set ?_ GE272.out | refine below_set ?_ GE273.out | refine below_set ?_ GE275.out) | exact HB.out)) hb); clear BK272; clear BK273; clear BK275; clear HB; have HO281 := n0_; have BK272 := n1_; have BK273 := n2_; have BK275 := n3_; have HB := n4_; clear n0_ n1_ n2_ n3_ n4_; (try clear hb); (try clear hb2); (try clear hk); (try clear hi); (try clear ho0); obtain ⟨Ao52, co52, eo52⟩ := Kd.R_slice HO281.out; subst eo52; have p282 : 0 ≤ (9 : Int) := (by omega); have q282 : 9 < (t278.length : Int) := of_decide_eq_true (by first | (with_reducible assumption) | assumption); obtain ⟨ad282, e282, hx282_0⟩ := Kd.at_int (Kd.R_reads' HO281.out).2.2 9 p282 q282; cases e282; (try simp only [show (9 : Int).toNat = 9 from rfl, Nat.reduceMul, Nat.reduceEqDiff, Go.Addr.add, ↓reduceIte] at hx282_0); have qi282 : (9 < t278.length) = True := eq_true (by omega); (try rw [show ((9 : Int)).toNat = 9 from rfl] at hx282_0); replace p282 := eq_true p282; replace q282 := eq_true q282) | ((with_reducible refine gate_callee (f := 35) rfl ?_); refine goesL_ (some 50) rfl rfl Try.func35 (by kernel_rfl) rfl #[.slice (some ad282) t278.length co52] rfl (by (try simp only [List.map_toArray, List.map_cons, List.map_nil]); first | done | rfl | (simp only [List.length_drop, List.length_take]; rfl)) ?_; (with_reducible refine (regletref23_number.calls k1 _ _ t278 t283 _ ?side1 ?side2 A40.out).mono ?_); (case side1 => repeat (first | exact (Kd.R_reads' HO281.out).2.2 | (with_reducible refine Kd.C_alloc ?_ _) | (with_reducible refine Kd.C_drewN ?_ _) | (with_reducible refine Kd.C_drew ?_))); (case side2 => exact (Kd.R_reads' HO281.out).2.1); rintro e w' ⟨rfl, ⟨nd, rfl⟩⟩; refine ⟨_, rfl, ?_⟩; (try (rw [drewN_self w51]; generalize hq_ : World.drewN w51 _ = w51; have n0_ : Aside0 (Kd.R (Kd.int .i64) 3 w51 w.heap.size (fun _ => True) (.slice (some ad282) t278.length co52) t278) := ⟨by rw [← hq_]; exact (by (with_reducible repeat (first | apply Kd.R_alloc | apply Kd.R_drewN | apply Kd.R_drew)); exact HO281.out)⟩; have n1_ : Aside0 (w51.heap[gb272]? = some (.cells #[.int .i64 x273000_1, .int .i64 x273001_1, .int .i64 x273002_1, .int .i64 x273003_1, .string x273004_1] 30 (0, 0))) := ⟨by rw [← hq_]; exact (by (with_reducible repeat (first | refine blk_drewN ?_ _ | refine blk_drew ?_ | refine blk_alloc ?_ _)); exact BK272.out)⟩; have n2_ : Aside0 (w51.heap[gb273]? = some (.cells #[.int .i64 (wrap64 (rd l0 0)), .int .i64 0, .int .i64 0, .int .i64 0, .string (⟨#[]⟩ : ByteArray)] 30 (0, 0))) := ⟨by rw [← hq_]; exact (by (with_reducible repeat (first | refine blk_drewN ?_ _ | refine blk_drew ?_ | refine blk_alloc ?_ _)); exact BK273.out)⟩; have n3_ : Aside0 (w51.heap[gb275]? = some (.cells #[.int .i64 x276000_1, .int .i64 x276001_1, .int .i64 x276002_1] 68 (0, 0))) := ⟨by rw [← hq_]; exact (by (with_reducible repeat (first | refine blk_drewN ?_ _ | refine blk_drew ?_ | refine blk_alloc ?_ _)); exact BK275.out)⟩; have n4_ : Aside0 (Below w.heap.size w w51) := ⟨by rw [← hq_]; exact (by repeat (first | (with_reducible first | exact HB.out | apply below_alloc | apply pw_below_drewN | apply below_drew1 | refine below_set ?_ GE272.out | refine below_set ?_ GE273.out | refine below_set ?_ GE275.out) | exact HB.out))⟩; clear HO281 BK272 BK273 BK275 HB hq_; have HO281 := n0_; have BK272 := n1_; have BK273 := n2_; have BK275 := n3_; have HB := n4_; clear n0_ n1_ n2_ n3_ n4_)); have hnb53 := NB275_272.out; have hnc53 := NB272_275.out; have hcz54_0 : w51.cell? ⟨gb275, 0, none⟩ = some (.int .i64 x276000_1) := (blk_cell BK275.out 0).trans rfl; have hcz54_1 : w51.cell? ⟨gb275, 1, none⟩ = some (.int .i64 x276001_1) := (blk_cell BK275.out 1).trans rfl; have hcz54_2 : w51.cell? ⟨gb275, 2, none⟩ = some (.int .i64 x276002_1) := (blk_cell BK275.out 2).trans rfl; have hfz54_0 := blk_frozen BK275.out 0; have hfz54_1 := blk_frozen BK275.out 1; have hfz54_2 := blk_frozen BK275.out 2))
          go_roundg k1
          case measure => have := HK1.out; omega
          case rel => exact ⟨(wrap64 (x6_1 + t279)), (wrap64 (x7_1 + 1)), (x273000_1), (x273001_1), (x273002_1), (x273003_1), (x273004_1), (t283), (x276001_1), (x276002_1), (by first | rfl | (simp; done) | (simp [*]; done) | (congr 1; simp only [decide_eq_true_eq, beq_iff_eq, eq_iff_iff, iff_true] at *; unfold wrap64; omega)), (by first | rfl | (simp; done) | (simp [*]; done) | (congr 1; simp only [decide_eq_true_eq, beq_iff_eq, eq_iff_iff, iff_true] at *; unfold wrap64; omega)), H', ⟨by have := HK1.out; omega⟩, ⟨by (with_reducible repeat (first | refine blk_drewN ?_ _ | refine blk_drew ?_ | refine blk_alloc ?_ _)); refine blk_far ?_ NB272_275.out _; (with_reducible repeat (first | refine blk_drewN ?_ _ | refine blk_drew ?_ | refine blk_alloc ?_ _)); exact BK272.out⟩, ⟨by (with_reducible repeat (first | refine blk_drewN ?_ _ | refine blk_drew ?_ | refine blk_alloc ?_ _)); refine blk_far ?_ NB273_275.out _; (with_reducible repeat (first | refine blk_drewN ?_ _ | refine blk_drew ?_ | refine blk_alloc ?_ _)); exact BK273.out⟩, ⟨by (with_reducible repeat (first | refine blk_drewN ?_ _ | refine blk_drew ?_ | refine blk_alloc ?_ _)); refine blk_put (cs := #[.int .i64 x276000_1, .int .i64 x276001_1, .int .i64 x276002_1]) ?_ 0 _ rfl; (with_reducible repeat (first | refine blk_drewN ?_ _ | refine blk_drew ?_ | refine blk_alloc ?_ _)); exact BK275.out⟩, ⟨by repeat (first | (with_reducible first | exact HB.out | apply below_alloc | apply pw_below_drewN | apply below_drew1 | refine below_set ?_ GE272.out | refine below_set ?_ GE273.out | refine below_set ?_ GE275.out) | exact HB.out)⟩⟩
        rw [if_neg c43] at H
        have c43b0 : (x7_1 == 0) = false := beq_eq_false_iff_ne.mpr c43
        have c43b1 : (x7_1 != 0) = true := bne_iff_ne.mpr c43
        by_cases c55 : x7_1 = 1
        · rw [if_pos c55] at H
          have c55b0 : (x7_1 == 1) = true := beq_iff_eq.mpr c55
          have c55b1 : (x7_1 != 1) = false := bne_eq_false_iff_eq.mpr c55
          clear c55
          have c56b0 := eq_true (of_decide_eq_true (by first | (with_reducible assumption) | assumption) : 0 ≤ x7_1)
          have c57b0 := eq_true (of_decide_eq_true (by first | (with_reducible assumption) | assumption) : x7_1 < 3)
          have c58t : (x7_1 : Int).toNat = 1 := by have h_ : (x7_1 == 1) = true := (by first | (with_reducible assumption) | assumption); rw [beq_iff_eq.1 h_]; rfl
          have H' := Aside0.mk H
          clear H
          have hnb59 := NB273_272.out
          have hnc59 := NB272_273.out
          have hnb60 := NB273_275.out
          have hnc60 := NB275_273.out
          have hcz61_0 : wr.cell? ⟨gb273, 0, none⟩ = some (.int .i64 (wrap64 (rd l0 0))) := (blk_cell BK273.out 0).trans rfl
          have hcz61_1 : wr.cell? ⟨gb273, 1, none⟩ = some (.int .i64 0) := (blk_cell BK273.out 1).trans rfl
          have hcz61_2 : wr.cell? ⟨gb273, 2, none⟩ = some (.int .i64 0) := (blk_cell BK273.out 2).trans rfl
          have hcz61_3 : wr.cell? ⟨gb273, 3, none⟩ = some (.int .i64 0) := (blk_cell BK273.out 3).trans rfl
          have hcz61_4 : wr.cell? ⟨gb273, 4, none⟩ = some (.string (⟨#[]⟩ : ByteArray)) := (blk_cell BK273.out 4).trans rfl
          have hfz61_0 := blk_frozen BK273.out 0
          have hfz61_1 := blk_frozen BK273.out 1
          have hfz61_2 := blk_frozen BK273.out 2
          have hfz61_3 := blk_frozen BK273.out 3
          have hfz61_4 := blk_frozen BK273.out 4
          go_wp2_with (first | ((with_reducible refine gate_callee (f := 21) rfl ?_); refine goesL_ (some 24) rfl rfl Try.func21 (by kernel_rfl) rfl #[.int .i64 (wrap64 (rd l0 0))] rfl (by (try simp only [List.map_toArray, List.map_cons, List.map_nil]); first | done | rfl | (simp only [List.length_drop, List.length_take]; rfl)) ?_; (with_reducible refine (regletref23_Many.calls (wrap64 (rd l0 0)) t276 _ A14.out).mono ?_); rintro e w' ⟨rfl, ⟨nd, rfl⟩⟩; refine ⟨_, rfl, ?_⟩; (try (rw [drewN_self wr]; generalize hq_ : World.drewN wr _ = wr; have n0_ : Aside0 (wr.heap[gb272]? = some (.cells #[.int .i64 x273000_1, .int .i64 x273001_1, .int .i64 x273002_1, .int .i64 x273003_1, .string x273004_1] 30 (0, 0))) := ⟨by rw [← hq_]; exact (by (with_reducible repeat (first | refine blk_drewN ?_ _ | refine blk_drew ?_ | refine blk_alloc ?_ _)); exact BK272.out)⟩; have n1_ : Aside0 (wr.heap[gb273]? = some (.cells #[.int .i64 (wrap64 (rd l0 0)), .int .i64 0, .int .i64 0, .int .i64 0, .string (⟨#[]⟩ : ByteArray)] 30 (0, 0))) := ⟨by rw [← hq_]; exact (by (with_reducible repeat (first | refine blk_drewN ?_ _ | refine blk_drew ?_ | refine blk_alloc ?_ _)); exact BK273.out)⟩; have n2_ : Aside0 (wr.heap[gb275]? = some (.cells #[.int .i64 x276000_1, .int .i64 x276001_1, .int .i64 x276002_1] 68 (0, 0))) := ⟨by rw [← hq_]; exact (by (with_reducible repeat (first | refine blk_drewN ?_ _ | refine blk_drew ?_ | refine blk_alloc ?_ _)); exact BK275.out)⟩; have n3_ : Aside0 (Below w.heap.size w wr) := ⟨by rw [← hq_]; exact (by repeat (first | (with_reducible first | exact HB.out | apply below_alloc | apply pw_below_drewN | apply below_drew1 | refine below_set ?_ GE272.out | refine below_set ?_ GE273.out | refine below_set ?_ GE275.out) | exact HB.out))⟩; clear BK272 BK273 BK275 HB hq_; have BK272 := n0_; have BK273 := n1_; have BK275 := n2_; have HB := n3_; clear n0_ n1_ n2_ n3_)); obtain ⟨i062, hi062, _, hsz62, _⟩ := info_parts info5; obtain ⟨A62, hcut62, hA62, hC62⟩ := print_drop_of (P := Try.prog) (Value.int .u8) 0 22 5 .i64 Try.underlying22 hi062 hsz62 (some ad274) c0 l0 x6_1 (of_decide_eq_true (by first | (with_reducible assumption) | assumption)) (of_decide_eq_true (by first | (with_reducible assumption) | assumption)) HC0.out; have HR277 := Aside0.mk (Kd.C_of_reads (h1 := fun _ => rfl) (hA62 _ (Kd.reads_of_C HR0.out))); have HC277 := Aside0.mk hC62; clear hA62 hC62 hi062 hsz62) | ((with_reducible refine gate_callee (f := 34) rfl ?_); refine goesL_ (some 32) rfl rfl Try.func34 (by kernel_rfl) rfl #[.slice A62 (l0.drop (x6_1 : Int).toNat).length (c0 - x6_1.toNat)] rfl (by (try simp only [List.map_toArray, List.map_cons, List.map_nil]); first | done | (rw [show (l0.drop (x6_1 : Int).toNat).length = (l0.length - x6_1.toNat) from List.length_drop] <;> rfl) | rfl | (simp only [List.length_drop, List.length_take]; rfl)) ?_; (with_reducible refine (regletref23_value.calls k1 _ _ (l0.drop (x6_1 : Int).toNat) t278 t279 _ ?side1 ?side2 A18.out).mono ?_); (case side1 => repeat (first | exact (Kd.C_below HR277.out HB.out) | (with_reducible refine Kd.C_alloc ?_ _) | (with_reducible refine Kd.C_drewN ?_ _) | (with_reducible refine Kd.C_drew ?_))); (case side2 => exact HC277.out); rintro e w63 ⟨v280, rfl, ho0, hb⟩; refine ⟨_, rfl, ?_⟩; have n0_ := Aside0.mk (Kd.R_lower ho0 (below_size (by repeat (first | (with_reducible first | exact HB.out | apply below_alloc | apply pw_below_drewN | apply below_drew1 | refine below_set ?_ GE272.out | refine below_set ?_ GE273.out | refine below_set ?_ GE275.out) | exact HB.out)))); have n1_ := Aside0.mk (blk_below (g := gb272) (o := .cells #[.int .i64 x273000_1, .int .i64 x273001_1, .int .i64 x273002_1, .int .i64 x273003_1, .string x273004_1] 30 (0, 0)) (by (with_reducible repeat (first | refine blk_drewN ?_ _ | refine blk_drew ?_ | refine blk_alloc ?_ _)); exact BK272.out) hb); have n2_ := Aside0.mk (blk_below (g := gb273) (o := .cells #[.int .i64 (wrap64 (rd l0 0)), .int .i64 0, .int .i64 0, .int .i64 0, .string (⟨#[]⟩ : ByteArray)] 30 (0, 0)) (by (with_reducible repeat (first | refine blk_drewN ?_ _ | refine blk_drew ?_ | refine blk_alloc ?_ _)); exact BK273.out) hb); have n3_ := Aside0.mk (blk_below (g := gb275) (o := .cells #[.int .i64 x276000_1, .int .i64 x276001_1, .int .i64 x276002_1] 68 (0, 0)) (by (with_reducible repeat (first | refine blk_drewN ?_ _ | refine blk_drew ?_ | refine blk_alloc ?_ _)); exact BK275.out) hb); have n4_ := Aside0.mk (below_step (by repeat (first | (with_reducible first | exact HB.out | apply below_alloc | apply pw_below_drewN | apply below_drew1 | refine below_set ?_ GE272.out | refine below_set ?_ GE273.out | refine below_set ?_ GE275.out) | exact HB.out)) hb); clear BK272; clear BK273; clear BK275; clear HB; have HO281 := n0_; have BK272 := n1_; have BK273 := n2_; have BK275 := n3_; have HB := n4_; clear n0_ n1_ n2_ n3_ n4_; (try clear hb); (try clear hb2); (try clear hk); (try clear hi); (try clear ho0); obtain ⟨Ao64, co64, eo64⟩ := Kd.R_slice HO281.out; subst eo64; have p282 : 0 ≤ (9 : Int) := (by omega); have q282 : 9 < (t278.length : Int) := of_decide_eq_true (by first | (with_reducible assumption) | assumption); obtain ⟨ad282, e282, hx282_0⟩ := Kd.at_int (Kd.R_reads' HO281.out).2.2 9 p282 q282; cases e282; (try simp only [show (9 : Int).toNat = 9 from rfl, Nat.reduceMul, Nat.reduceEqDiff, Go.Addr.add, ↓reduceIte] at hx282_0); have qi282 : (9 < t278.length) = True := eq_true (by omega); (try rw [show ((9 : Int)).toNat = 9 from rfl] at hx282_0); replace p282 := eq_true p282; replace q282 := eq_true q282) | ((with_reducible refine gate_callee (f := 35) rfl ?_); refine goesL_ (some 50) rfl rfl Try.func35 (by kernel_rfl) rfl #[.slice (some ad282) t278.length co64] rfl (by (try simp only [List.map_toArray, List.map_cons, List.map_nil]); first | done | rfl | (simp only [List.length_drop, List.length_take]; rfl)) ?_; (with_reducible refine (regletref23_number.calls k1 _ _ t278 t283 _ ?side1 ?side2 A40.out).mono ?_); (case side1 => repeat (first | exact (Kd.R_reads' HO281.out).2.2 | (with_reducible refine Kd.C_alloc ?_ _) | (with_reducible refine Kd.C_drewN ?_ _) | (with_reducible refine Kd.C_drew ?_))); (case side2 => exact (Kd.R_reads' HO281.out).2.1); rintro e w' ⟨rfl, ⟨nd, rfl⟩⟩; refine ⟨_, rfl, ?_⟩; (try (rw [drewN_self w63]; generalize hq_ : World.drewN w63 _ = w63; have n0_ : Aside0 (Kd.R (Kd.int .i64) 3 w63 w.heap.size (fun _ => True) (.slice (some ad282) t278.length co64) t278) := ⟨by rw [← hq_]; exact (by (with_reducible repeat (first | apply Kd.R_alloc | apply Kd.R_drewN | apply Kd.R_drew)); exact HO281.out)⟩; have n1_ : Aside0 (w63.heap[gb272]? = some (.cells #[.int .i64 x273000_1, .int .i64 x273001_1, .int .i64 x273002_1, .int .i64 x273003_1, .string x273004_1] 30 (0, 0))) := ⟨by rw [← hq_]; exact (by (with_reducible repeat (first | refine blk_drewN ?_ _ | refine blk_drew ?_ | refine blk_alloc ?_ _)); exact BK272.out)⟩; have n2_ : Aside0 (w63.heap[gb273]? = some (.cells #[.int .i64 (wrap64 (rd l0 0)), .int .i64 0, .int .i64 0, .int .i64 0, .string (⟨#[]⟩ : ByteArray)] 30 (0, 0))) := ⟨by rw [← hq_]; exact (by (with_reducible repeat (first | refine blk_drewN ?_ _ | refine blk_drew ?_ | refine blk_alloc ?_ _)); exact BK273.out)⟩; have n3_ : Aside0 (w63.heap[gb275]? = some (.cells #[.int .i64 x276000_1, .int .i64 x276001_1, .int .i64 x276002_1] 68 (0, 0))) := ⟨by rw [← hq_]; exact (by (with_reducible repeat (first | refine blk_drewN ?_ _ | refine blk_drew ?_ | refine blk_alloc ?_ _)); exact BK275.out)⟩; have n4_ : Aside0 (Below w.heap.size w w63) := ⟨by rw [← hq_]; exact (by repeat (first | (with_reducible first | exact HB.out | apply below_alloc | apply pw_below_drewN | apply below_drew1 | refine below_set ?_ GE272.out | refine below_set ?_ GE273.out | refine below_set ?_ GE275.out) | exact HB.out))⟩; clear HO281 BK272 BK273 BK275 HB hq_; have HO281 := n0_; have BK272 := n1_; have BK273 := n2_; have BK275 := n3_; have HB := n4_; clear n0_ n1_ n2_ n3_ n4_)); have hnb65 := NB275_272.out; have hnc65 := NB272_275.out; have hcz66_0 : w63.cell? ⟨gb275, 0, none⟩ = some (.int .i64 x276000_1) := (blk_cell BK275.out 0).trans rfl; have hcz66_1 : w63.cell? ⟨gb275, 1, none⟩ = some (.int .i64 x276001_1) := (blk_cell BK275.out 1).trans rfl; have hcz66_2 : w63.cell? ⟨gb275, 2, none⟩ = some (.int .i64 x276002_1) := (blk_cell BK275.out 2).trans rfl; have hfz66_0 := blk_frozen BK275.out 0; have hfz66_1 := blk_frozen BK275.out 1; have hfz66_2 := blk_frozen BK275.out 2))
          go_roundg k1
          case measure => have := HK1.out; omega
          case rel => exact ⟨(wrap64 (x6_1 + t279)), (wrap64 (x7_1 + 1)), (x273000_1), (x273001_1), (x273002_1), (x273003_1), (x273004_1), (x276000_1), (t283), (x276002_1), (by first | rfl | (simp; done) | (simp [*]; done) | (congr 1; simp only [decide_eq_true_eq, beq_iff_eq, eq_iff_iff, iff_true] at *; unfold wrap64; omega)), (by first | rfl | (simp; done) | (simp [*]; done) | (congr 1; simp only [decide_eq_true_eq, beq_iff_eq, eq_iff_iff, iff_true] at *; unfold wrap64; omega)), H', ⟨by have := HK1.out; omega⟩, ⟨by (with_reducible repeat (first | refine blk_drewN ?_ _ | refine blk_drew ?_ | refine blk_alloc ?_ _)); refine blk_far ?_ NB272_275.out _; (with_reducible repeat (first | refine blk_drewN ?_ _ | refine blk_drew ?_ | refine blk_alloc ?_ _)); exact BK272.out⟩, ⟨by (with_reducible repeat (first | refine blk_drewN ?_ _ | refine blk_drew ?_ | refine blk_alloc ?_ _)); refine blk_far ?_ NB273_275.out _; (with_reducible repeat (first | refine blk_drewN ?_ _ | refine blk_drew ?_ | refine blk_alloc ?_ _)); exact BK273.out⟩, ⟨by (with_reducible repeat (first | refine blk_drewN ?_ _ | refine blk_drew ?_ | refine blk_alloc ?_ _)); refine blk_put (cs := #[.int .i64 x276000_1, .int .i64 x276001_1, .int .i64 x276002_1]) ?_ 1 _ rfl; (with_reducible repeat (first | refine blk_drewN ?_ _ | refine blk_drew ?_ | refine blk_alloc ?_ _)); exact BK275.out⟩, ⟨by repeat (first | (with_reducible first | exact HB.out | apply below_alloc | apply pw_below_drewN | apply below_drew1 | refine below_set ?_ GE272.out | refine below_set ?_ GE273.out | refine below_set ?_ GE275.out) | exact HB.out)⟩⟩
        rw [if_neg c55] at H
        have c55b0 : (x7_1 == 1) = false := beq_eq_false_iff_ne.mpr c55
        have c55b1 : (x7_1 != 1) = true := bne_iff_ne.mpr c55
        by_cases c67 : x7_1 = 2
        rotate_left
        · rw [if_neg c67] at H
          exact absurd H (by simp)
        rw [if_pos c67] at H
        have c67b0 : (x7_1 == 2) = true := beq_iff_eq.mpr c67
        have c67b1 : (x7_1 != 2) = false := bne_eq_false_iff_eq.mpr c67
        clear c67
        have c68b0 := eq_true (of_decide_eq_true (by first | (with_reducible assumption) | assumption) : 0 ≤ x7_1)
        have c69b0 := eq_true (of_decide_eq_true (by first | (with_reducible assumption) | assumption) : x7_1 < 3)
        have c70t : (x7_1 : Int).toNat = 2 := by have h_ : (x7_1 == 2) = true := (by first | (with_reducible assumption) | assumption); rw [beq_iff_eq.1 h_]; rfl
        have H' := Aside0.mk H
        clear H
        have hnb71 := NB273_272.out
        have hnc71 := NB272_273.out
        have hnb72 := NB273_275.out
        have hnc72 := NB275_273.out
        have hcz73_0 : wr.cell? ⟨gb273, 0, none⟩ = some (.int .i64 (wrap64 (rd l0 0))) := (blk_cell BK273.out 0).trans rfl
        have hcz73_1 : wr.cell? ⟨gb273, 1, none⟩ = some (.int .i64 0) := (blk_cell BK273.out 1).trans rfl
        have hcz73_2 : wr.cell? ⟨gb273, 2, none⟩ = some (.int .i64 0) := (blk_cell BK273.out 2).trans rfl
        have hcz73_3 : wr.cell? ⟨gb273, 3, none⟩ = some (.int .i64 0) := (blk_cell BK273.out 3).trans rfl
        have hcz73_4 : wr.cell? ⟨gb273, 4, none⟩ = some (.string (⟨#[]⟩ : ByteArray)) := (blk_cell BK273.out 4).trans rfl
        have hfz73_0 := blk_frozen BK273.out 0
        have hfz73_1 := blk_frozen BK273.out 1
        have hfz73_2 := blk_frozen BK273.out 2
        have hfz73_3 := blk_frozen BK273.out 3
        have hfz73_4 := blk_frozen BK273.out 4
        go_wp2_with (first | ((with_reducible refine gate_callee (f := 21) rfl ?_); refine goesL_ (some 24) rfl rfl Try.func21 (by kernel_rfl) rfl #[.int .i64 (wrap64 (rd l0 0))] rfl (by (try simp only [List.map_toArray, List.map_cons, List.map_nil]); first | done | rfl | (simp only [List.length_drop, List.length_take]; rfl)) ?_; (with_reducible refine (regletref23_Many.calls (wrap64 (rd l0 0)) t276 _ A14.out).mono ?_); rintro e w' ⟨rfl, ⟨nd, rfl⟩⟩; refine ⟨_, rfl, ?_⟩; (try (rw [drewN_self wr]; generalize hq_ : World.drewN wr _ = wr; have n0_ : Aside0 (wr.heap[gb272]? = some (.cells #[.int .i64 x273000_1, .int .i64 x273001_1, .int .i64 x273002_1, .int .i64 x273003_1, .string x273004_1] 30 (0, 0))) := ⟨by rw [← hq_]; exact (by (with_reducible repeat (first | refine blk_drewN ?_ _ | refine blk_drew ?_ | refine blk_alloc ?_ _)); exact BK272.out)⟩; have n1_ : Aside0 (wr.heap[gb273]? = some (.cells #[.int .i64 (wrap64 (rd l0 0)), .int .i64 0, .int .i64 0, .int .i64 0, .string (⟨#[]⟩ : ByteArray)] 30 (0, 0))) := ⟨by rw [← hq_]; exact (by (with_reducible repeat (first | refine blk_drewN ?_ _ | refine blk_drew ?_ | refine blk_alloc ?_ _)); exact BK273.out)⟩; have n2_ : Aside0 (wr.heap[gb275]? = some (.cells #[.int .i64 x276000_1, .int .i64 x276001_1, .int .i64 x276002_1] 68 (0, 0))) := ⟨by rw [← hq_]; exact (by (with_reducible repeat (first | refine blk_drewN ?_ _ | refine blk_drew ?_ | refine blk_alloc ?_ _)); exact BK275.out)⟩; have n3_ : Aside0 (Below w.heap.size w wr) := ⟨by rw [← hq_]; exact (by repeat (first | (with_reducible first | exact HB.out | apply below_alloc | apply pw_below_drewN | apply below_drew1 | refine below_set ?_ GE272.out | refine below_set ?_ GE273.out | refine below_set ?_ GE275.out) | exact HB.out))⟩; clear BK272 BK273 BK275 HB hq_; have BK272 := n0_; have BK273 := n1_; have BK275 := n2_; have HB := n3_; clear n0_ n1_ n2_ n3_)); obtain ⟨i074, hi074, _, hsz74, _⟩ := info_parts info5; obtain ⟨A74, hcut74, hA74, hC74⟩ := print_drop_of (P := Try.prog) (Value.int .u8) 0 22 5 .i64 Try.underlying22 hi074 hsz74 (some ad274) c0 l0 x6_1 (of_decide_eq_true (by first | (with_reducible assumption) | assumption)) (of_decide_eq_true (by first | (with_reducible assumption) | assumption)) HC0.out; have HR277 := Aside0.mk (Kd.C_of_reads (h1 := fun _ => rfl) (hA74 _ (Kd.reads_of_C HR0.out))); have HC277 := Aside0.mk hC74; clear hA74 hC74 hi074 hsz74) | ((with_reducible refine gate_callee (f := 34) rfl ?_); refine goesL_ (some 32) rfl rfl Try.func34 (by kernel_rfl) rfl #[.slice A74 (l0.drop (x6_1 : Int).toNat).length (c0 - x6_1.toNat)] rfl (by (try simp only [List.map_toArray, List.map_cons, List.map_nil]); first | done | (rw [show (l0.drop (x6_1 : Int).toNat).length = (l0.length - x6_1.toNat) from List.length_drop] <;> rfl) | rfl | (simp only [List.length_drop, List.length_take]; rfl)) ?_; (with_reducible refine (regletref23_value.calls k1 _ _ (l0.drop (x6_1 : Int).toNat) t278 t279 _ ?side1 ?side2 A18.out).mono ?_); (case side1 => repeat (first | exact (Kd.C_below HR277.out HB.out) | (with_reducible refine Kd.C_alloc ?_ _) | (with_reducible refine Kd.C_drewN ?_ _) | (with_reducible refine Kd.C_drew ?_))); (case side2 => exact HC277.out); rintro e w75 ⟨v280, rfl, ho0, hb⟩; refine ⟨_, rfl, ?_⟩; have n0_ := Aside0.mk (Kd.R_lower ho0 (below_size (by repeat (first | (with_reducible first | exact HB.out | apply below_alloc | apply pw_below_drewN | apply below_drew1 | refine below_set ?_ GE272.out | refine below_set ?_ GE273.out | refine below_set ?_ GE275.out) | exact HB.out)))); have n1_ := Aside0.mk (blk_below (g := gb272) (o := .cells #[.int .i64 x273000_1, .int .i64 x273001_1, .int .i64 x273002_1, .int .i64 x273003_1, .string x273004_1] 30 (0, 0)) (by (with_reducible repeat (first | refine blk_drewN ?_ _ | refine blk_drew ?_ | refine blk_alloc ?_ _)); exact BK272.out) hb); have n2_ := Aside0.mk (blk_below (g := gb273) (o := .cells #[.int .i64 (wrap64 (rd l0 0)), .int .i64 0, .int .i64 0, .int .i64 0, .string (⟨#[]⟩ : ByteArray)] 30 (0, 0)) (by (with_reducible repeat (first | refine blk_drewN ?_ _ | refine blk_drew ?_ | refine blk_alloc ?_ _)); exact BK273.out) hb); have n3_ := Aside0.mk (blk_below (g := gb275) (o := .cells #[.int .i64 x276000_1, .int .i64 x276001_1, .int .i64 x276002_1] 68 (0, 0)) (by (with_reducible repeat (first | refine blk_drewN ?_ _ | refine blk_drew ?_ | refine blk_alloc ?_ _)); exact BK275.out) hb); have n4_ := Aside0.mk (below_step (by repeat (first | (with_reducible first | exact HB.out | apply below_alloc | apply pw_below_drewN | apply below_drew1 | refine below_set ?_ GE272.out | refine below_set ?_ GE273.out | refine below_set ?_ GE275.out) | exact HB.out)) hb); clear BK272; clear BK273; clear BK275; clear HB; have HO281 := n0_; have BK272 := n1_; have BK273 := n2_; have BK275 := n3_; have HB := n4_; clear n0_ n1_ n2_ n3_ n4_; (try clear hb); (try clear hb2); (try clear hk); (try clear hi); (try clear ho0); obtain ⟨Ao76, co76, eo76⟩ := Kd.R_slice HO281.out; subst eo76; have p282 : 0 ≤ (9 : Int) := (by omega); have q282 : 9 < (t278.length : Int) := of_decide_eq_true (by first | (with_reducible assumption) | assumption); obtain ⟨ad282, e282, hx282_0⟩ := Kd.at_int (Kd.R_reads' HO281.out).2.2 9 p282 q282; cases e282; (try simp only [show (9 : Int).toNat = 9 from rfl, Nat.reduceMul, Nat.reduceEqDiff, Go.Addr.add, ↓reduceIte] at hx282_0); have qi282 : (9 < t278.length) = True := eq_true (by omega); (try rw [show ((9 : Int)).toNat = 9 from rfl] at hx282_0); replace p282 := eq_true p282; replace q282 := eq_true q282) | ((with_reducible refine gate_callee (f := 35) rfl ?_); refine goesL_ (some 50) rfl rfl Try.func35 (by kernel_rfl) rfl #[.slice (some ad282) t278.length co76] rfl (by (try simp only [List.map_toArray, List.map_cons, List.map_nil]); first | done | rfl | (simp only [List.length_drop, List.length_take]; rfl)) ?_; (with_reducible refine (regletref23_number.calls k1 _ _ t278 t283 _ ?side1 ?side2 A40.out).mono ?_); (case side1 => repeat (first | exact (Kd.R_reads' HO281.out).2.2 | (with_reducible refine Kd.C_alloc ?_ _) | (with_reducible refine Kd.C_drewN ?_ _) | (with_reducible refine Kd.C_drew ?_))); (case side2 => exact (Kd.R_reads' HO281.out).2.1); rintro e w' ⟨rfl, ⟨nd, rfl⟩⟩; refine ⟨_, rfl, ?_⟩; (try (rw [drewN_self w75]; generalize hq_ : World.drewN w75 _ = w75; have n0_ : Aside0 (Kd.R (Kd.int .i64) 3 w75 w.heap.size (fun _ => True) (.slice (some ad282) t278.length co76) t278) := ⟨by rw [← hq_]; exact (by (with_reducible repeat (first | apply Kd.R_alloc | apply Kd.R_drewN | apply Kd.R_drew)); exact HO281.out)⟩; have n1_ : Aside0 (w75.heap[gb272]? = some (.cells #[.int .i64 x273000_1, .int .i64 x273001_1, .int .i64 x273002_1, .int .i64 x273003_1, .string x273004_1] 30 (0, 0))) := ⟨by rw [← hq_]; exact (by (with_reducible repeat (first | refine blk_drewN ?_ _ | refine blk_drew ?_ | refine blk_alloc ?_ _)); exact BK272.out)⟩; have n2_ : Aside0 (w75.heap[gb273]? = some (.cells #[.int .i64 (wrap64 (rd l0 0)), .int .i64 0, .int .i64 0, .int .i64 0, .string (⟨#[]⟩ : ByteArray)] 30 (0, 0))) := ⟨by rw [← hq_]; exact (by (with_reducible repeat (first | refine blk_drewN ?_ _ | refine blk_drew ?_ | refine blk_alloc ?_ _)); exact BK273.out)⟩; have n3_ : Aside0 (w75.heap[gb275]? = some (.cells #[.int .i64 x276000_1, .int .i64 x276001_1, .int .i64 x276002_1] 68 (0, 0))) := ⟨by rw [← hq_]; exact (by (with_reducible repeat (first | refine blk_drewN ?_ _ | refine blk_drew ?_ | refine blk_alloc ?_ _)); exact BK275.out)⟩; have n4_ : Aside0 (Below w.heap.size w w75) := ⟨by rw [← hq_]; exact (by repeat (first | (with_reducible first | exact HB.out | apply below_alloc | apply pw_below_drewN | apply below_drew1 | refine below_set ?_ GE272.out | refine below_set ?_ GE273.out | refine below_set ?_ GE275.out) | exact HB.out))⟩; clear HO281 BK272 BK273 BK275 HB hq_; have HO281 := n0_; have BK272 := n1_; have BK273 := n2_; have BK275 := n3_; have HB := n4_; clear n0_ n1_ n2_ n3_ n4_)); have hnb77 := NB275_272.out; have hnc77 := NB272_275.out; have hcz78_0 : w75.cell? ⟨gb275, 0, none⟩ = some (.int .i64 x276000_1) := (blk_cell BK275.out 0).trans rfl; have hcz78_1 : w75.cell? ⟨gb275, 1, none⟩ = some (.int .i64 x276001_1) := (blk_cell BK275.out 1).trans rfl; have hcz78_2 : w75.cell? ⟨gb275, 2, none⟩ = some (.int .i64 x276002_1) := (blk_cell BK275.out 2).trans rfl; have hfz78_0 := blk_frozen BK275.out 0; have hfz78_1 := blk_frozen BK275.out 1; have hfz78_2 := blk_frozen BK275.out 2))
        go_roundg k1
        case measure => have := HK1.out; omega
        case rel => exact ⟨(wrap64 (x6_1 + t279)), (wrap64 (x7_1 + 1)), (x273000_1), (x273001_1), (x273002_1), (x273003_1), (x273004_1), (x276000_1), (x276001_1), (t283), (by first | rfl | (simp; done) | (simp [*]; done) | (congr 1; simp only [decide_eq_true_eq, beq_iff_eq, eq_iff_iff, iff_true] at *; unfold wrap64; omega)), (by first | rfl | (simp; done) | (simp [*]; done) | (congr 1; simp only [decide_eq_true_eq, beq_iff_eq, eq_iff_iff, iff_true] at *; unfold wrap64; omega)), H', ⟨by have := HK1.out; omega⟩, ⟨by (with_reducible repeat (first | refine blk_drewN ?_ _ | refine blk_drew ?_ | refine blk_alloc ?_ _)); refine blk_far ?_ NB272_275.out _; (with_reducible repeat (first | refine blk_drewN ?_ _ | refine blk_drew ?_ | refine blk_alloc ?_ _)); exact BK272.out⟩, ⟨by (with_reducible repeat (first | refine blk_drewN ?_ _ | refine blk_drew ?_ | refine blk_alloc ?_ _)); refine blk_far ?_ NB273_275.out _; (with_reducible repeat (first | refine blk_drewN ?_ _ | refine blk_drew ?_ | refine blk_alloc ?_ _)); exact BK273.out⟩, ⟨by (with_reducible repeat (first | refine blk_drewN ?_ _ | refine blk_drew ?_ | refine blk_alloc ?_ _)); refine blk_put (cs := #[.int .i64 x276000_1, .int .i64 x276001_1, .int .i64 x276002_1]) ?_ 2 _ rfl; (with_reducible repeat (first | refine blk_drewN ?_ _ | refine blk_drew ?_ | refine blk_alloc ?_ _)); exact BK275.out⟩, ⟨by repeat (first | (with_reducible first | exact HB.out | apply below_alloc | apply pw_below_drewN | apply below_drew1 | refine below_set ?_ GE272.out | refine below_set ?_ GE273.out | refine below_set ?_ GE275.out) | exact HB.out)⟩⟩
      rw [if_neg c15] at H
      have c15b0 : decide (x7_1 < t276) = false := decide_eq_false c15
      clear c15
      have HC118 := Aside0.mk H
      clear H
      have hnb119 := NB273_272.out
      have hnc119 := NB272_273.out
      have hnb120 := NB273_275.out
      have hnc120 := NB275_273.out
      have hcz121_0 : wr.cell? ⟨gb273, 0, none⟩ = some (.int .i64 (wrap64 (rd l0 0))) := (blk_cell BK273.out 0).trans rfl
      have hcz121_1 : wr.cell? ⟨gb273, 1, none⟩ = some (.int .i64 0) := (blk_cell BK273.out 1).trans rfl
      have hcz121_2 : wr.cell? ⟨gb273, 2, none⟩ = some (.int .i64 0) := (blk_cell BK273.out 2).trans rfl
      have hcz121_3 : wr.cell? ⟨gb273, 3, none⟩ = some (.int .i64 0) := (blk_cell BK273.out 3).trans rfl
      have hcz121_4 : wr.cell? ⟨gb273, 4, none⟩ = some (.string (⟨#[]⟩ : ByteArray)) := (blk_cell BK273.out 4).trans rfl
      have hfz121_0 := blk_frozen BK273.out 0
      have hfz121_1 := blk_frozen BK273.out 1
      have hfz121_2 := blk_frozen BK273.out 2
      have hfz121_3 := blk_frozen BK273.out 3
      have hfz121_4 := blk_frozen BK273.out 4
      try go_wp2_with (first | ((with_reducible refine gate_callee (f := 21) rfl ?_); refine goesL_ (some 24) rfl rfl Try.func21 (by kernel_rfl) rfl #[.int .i64 (wrap64 (rd l0 0))] rfl (by (try simp only [List.map_toArray, List.map_cons, List.map_nil]); first | done | rfl | (simp only [List.length_drop, List.length_take]; rfl)) ?_; (with_reducible refine (regletref23_Many.calls (wrap64 (rd l0 0)) t276 _ A14.out).mono ?_); rintro e w' ⟨rfl, ⟨nd, rfl⟩⟩; refine ⟨_, rfl, ?_⟩; (try (rw [drewN_self wr]; generalize hq_ : World.drewN wr _ = wr; have n0_ : Aside0 (wr.heap[gb272]? = some (.cells #[.int .i64 x273000_1, .int .i64 x273001_1, .int .i64 x273002_1, .int .i64 x273003_1, .string x273004_1] 30 (0, 0))) := ⟨by rw [← hq_]; exact (by (with_reducible repeat (first | refine blk_drewN ?_ _ | refine blk_drew ?_ | refine blk_alloc ?_ _)); exact BK272.out)⟩; have n1_ : Aside0 (wr.heap[gb273]? = some (.cells #[.int .i64 (wrap64 (rd l0 0)), .int .i64 0, .int .i64 0, .int .i64 0, .string (⟨#[]⟩ : ByteArray)] 30 (0, 0))) := ⟨by rw [← hq_]; exact (by (with_reducible repeat (first | refine blk_drewN ?_ _ | refine blk_drew ?_ | refine blk_alloc ?_ _)); exact BK273.out)⟩; have n2_ : Aside0 (wr.heap[gb275]? = some (.cells #[.int .i64 x276000_1, .int .i64 x276001_1, .int .i64 x276002_1] 68 (0, 0))) := ⟨by rw [← hq_]; exact (by (with_reducible repeat (first | refine blk_drewN ?_ _ | refine blk_drew ?_ | refine blk_alloc ?_ _)); exact BK275.out)⟩; have n3_ : Aside0 (Below w.heap.size w wr) := ⟨by rw [← hq_]; exact (by repeat (first | (with_reducible first | exact HB.out | apply below_alloc | apply pw_below_drewN | apply below_drew1 | refine below_set ?_ GE272.out | refine below_set ?_ GE273.out | refine below_set ?_ GE275.out) | exact HB.out))⟩; clear BK272 BK273 BK275 HB hq_; have BK272 := n0_; have BK273 := n1_; have BK275 := n2_; have HB := n3_; clear n0_ n1_ n2_ n3_))))
      have n0_ := Aside0.mk (blk_drew BK272.out)
      have n1_ := Aside0.mk (blk_drew BK273.out)
      have n2_ := Aside0.mk (blk_drew BK275.out)
      have n3_ := Aside0.mk (below_drew1 HB.out)
      clear BK272
      clear BK273
      clear BK275
      clear HB
      have BK272 := n0_
      have BK273 := n1_
      have BK275 := n2_
      have HB := n3_
      clear n0_ n1_ n2_ n3_
      refine start_ (n := 12) (S := fun w' => w'.cell? ⟨gb275, 0, none⟩ = some (.int .i64 x276000_1) ∧ w'.cell? ⟨gb275, 1, none⟩ = some (.int .i64 x276001_1) ∧ w'.cell? ⟨gb275, 2, none⟩ = some (.int .i64 x276002_1)) (ds := []) #[false, false, false, false, false, false, false, false, false, false, false, false] (by kernel_rfl) rfl rfl ⟨(blk_cell BK275.out 0).trans rfl, (blk_cell BK275.out 1).trans rfl, (blk_cell BK275.out 2).trans rfl⟩ (fun hHeld => ?_); refine with_tabW regletref23_One.tab15 regletref23_One.bits15 (fun HT_ HW_ => ?_)
      generalize wr.drew = w122 at BK272 BK273 BK275 HB hHeld ⊢
      refine pure_ (i := 0) (N := some 55) (v := ?_) (a' := ?_) #[true, false, false, false, false, false, false, false, false, false, false, false] rfl rfl (any_of HT_.out (by kernel_rfl)) (fun _ _ _ h => h) (Or.inl ⟨by rfl, ?_⟩) ?_ ?_
      rotate_left
      · intro w'
        go_simp
        with_reducible rfl
      rotate_left
      · simp only [Act.put, List.setIfInBounds_toArray, List.set_cons_zero, List.set_cons_succ, i64_w, i32_w]
        rfl
      refine pure_ (i := 2) (N := some 57) (v := ?_) (a' := ?_) #[true, false, true, false, false, false, false, false, false, false, false, false] rfl rfl (any_of HT_.out (by kernel_rfl)) (fun _ _ _ h => h) (Or.inl ⟨by rfl, ?_⟩) ?_ ?_
      rotate_left
      · intro w'
        go_simp
        with_reducible rfl
      rotate_left
      · simp only [Act.put, List.setIfInBounds_toArray, List.set_cons_zero, List.set_cons_succ, i64_w, i32_w]
        rfl
      refine pure_ (i := 4) (N := some 59) (v := ?_) (a' := ?_) #[true, false, true, false, true, false, false, false, false, false, false, false] rfl rfl (any_of HT_.out (by kernel_rfl)) (fun _ _ _ h => h) (Or.inl ⟨by rfl, ?_⟩) ?_ ?_
      rotate_left
      · intro w'
        go_simp
        with_reducible rfl
      rotate_left
      · simp only [Act.put, List.setIfInBounds_toArray, List.set_cons_zero, List.set_cons_succ, i64_w, i32_w]
        rfl
      refine take_ (i := 1) (N := some 56) (v := ?_) (a' := ?_) #[true, true, true, false, true, false, false, false, false, false, false, false] rfl rfl (take_ofW HT_.out HW_.out (by kernel_rfl)) (fun _ _ _ h => h) (Or.inl ⟨by rfl, ?_⟩) hHeld ?_ ?_
      rotate_left
      · rintro w' ⟨s0, s1, s2⟩
        go_simp
        with_reducible rfl
      rotate_left
      · simp only [Act.put, List.setIfInBounds_toArray, List.set_cons_zero, List.set_cons_succ, i64_w, i32_w]
        rfl
      refine pure_ (i := 6) (N := some 61) (v := ?_) (a' := ?_) #[true, true, true, false, true, false, true, false, false, false, false, false] rfl rfl (any_of HT_.out (by kernel_rfl)) (fun _ _ _ h => h) (Or.inl ⟨by rfl, ?_⟩) ?_ ?_
      rotate_left
      · intro w'
        go_simp
        with_reducible rfl
      rotate_left
      · simp only [Act.put, List.setIfInBounds_toArray, List.set_cons_zero, List.set_cons_succ, i64_w, i32_w]
        rfl
      refine take_ (i := 3) (N := some 58) (v := ?_) (a' := ?_) #[true, true, true, true, true, false, true, false, false, false, false, false] rfl rfl (take_ofW HT_.out HW_.out (by kernel_rfl)) (fun _ _ _ h => h) (Or.inl ⟨by rfl, ?_⟩) hHeld ?_ ?_
      rotate_left
      · rintro w' ⟨s0, s1, s2⟩
        go_simp
        with_reducible rfl
      rotate_left
      · simp only [Act.put, List.setIfInBounds_toArray, List.set_cons_zero, List.set_cons_succ, i64_w, i32_w]
        rfl
      refine take_ (i := 5) (N := some 60) (v := ?_) (a' := ?_) #[true, true, true, true, true, true, true, false, false, false, false, false] rfl rfl (take_ofW HT_.out HW_.out (by kernel_rfl)) (fun _ _ _ h => h) (Or.inl ⟨by rfl, ?_⟩) hHeld ?_ ?_
      rotate_left
      · rintro w' ⟨s0, s1, s2⟩
        go_simp
        with_reducible rfl
      rotate_left
      · simp only [Act.put, List.setIfInBounds_toArray, List.set_cons_zero, List.set_cons_succ, i64_w, i32_w]
        rfl
      refine one_ (i := 7) (N := none) #[true, true, true, true, true, true, true, true, false, false, false, false] rfl rfl (one_of HT_.out (by kernel_rfl)) (by decide) (fun K hK => ?_)
      have hs123 : w122.cell? ⟨gb273, 1, none⟩ = some (.int .i64 0) := (blk_cell BK273.out 1).trans rfl
      have hfs123 := blk_frozen BK273.out 1
      have hns123_0 := NB272_273.out
      have hns123_2 := NB275_273.out
      have hms123_0 := NB273_272.out
      have hms123_2 := NB273_275.out
      refine skip_ (w1 := ?_) (by rfl) rfl ?_ ?_
      rotate_left
      · go_simp
        rfl
      refine hK.out _ _ ⟨((cell_far (p := ⟨gb273, _, none⟩) NB275_273.out _).trans (hHeld.1)), ((cell_far (p := ⟨gb273, _, none⟩) NB275_273.out _).trans (hHeld.2.1)), ((cell_far (p := ⟨gb273, _, none⟩) NB275_273.out _).trans (hHeld.2.2))⟩ (fun hHeld => ?_)
      clear hK K
      refine pure_ (i := 8) (N := some 62) (v := ?_) (a' := ?_) #[true, true, true, true, true, true, true, true, true, false, false, false] rfl rfl (any_of HT_.out (by kernel_rfl)) (fun _ _ _ h => h) (Or.inl ⟨by rfl, ?_⟩) ?_ ?_
      rotate_left
      · intro w'
        go_simp
        with_reducible rfl
      rotate_left
      · simp only [Act.put, List.setIfInBounds_toArray, List.set_cons_zero, List.set_cons_succ, i64_w, i32_w]
        rfl
      refine one_ (i := 9) (N := none) #[true, true, true, true, true, true, true, true, true, true, false, false] rfl rfl (one_of HT_.out (by kernel_rfl)) (by decide) (fun K hK => ?_)
      have hs124 : w122.cell? ⟨gb273, 2, none⟩ = some (.int .i64 0) := (blk_cell BK273.out 2).trans rfl
      have hfs124 := blk_frozen BK273.out 2
      have hns124_0 := NB272_273.out
      have hns124_2 := NB275_273.out
      have hms124_0 := NB273_272.out
      have hms124_2 := NB273_275.out
      refine skip_ (w1 := ?_) (by rfl) rfl ?_ ?_
      rotate_left
      · go_simp
        rfl
      refine hK.out _ _ ⟨((cell_far (p := ⟨gb273, _, none⟩) NB275_273.out _).trans (hHeld.1)), ((cell_far (p := ⟨gb273, _, none⟩) NB275_273.out _).trans (hHeld.2.1)), ((cell_far (p := ⟨gb273, _, none⟩) NB275_273.out _).trans (hHeld.2.2))⟩ (fun hHeld => ?_)
      clear hK K
      refine pure_ (i := 10) (N := some 63) (v := ?_) (a' := ?_) #[true, true, true, true, true, true, true, true, true, true, true, false] rfl rfl (any_of HT_.out (by kernel_rfl)) (fun _ _ _ h => h) (Or.inl ⟨by rfl, ?_⟩) ?_ ?_
      rotate_left
      · intro w'
        go_simp
        with_reducible rfl
      rotate_left
      · simp only [Act.put, List.setIfInBounds_toArray, List.set_cons_zero, List.set_cons_succ, i64_w, i32_w]
        rfl
      refine one_ (i := 11) (N := none) #[true, true, true, true, true, true, true, true, true, true, true, true] rfl rfl (one_of HT_.out (by kernel_rfl)) (by decide) (fun K hK => ?_)
      have hs125 : w122.cell? ⟨gb273, 3, none⟩ = some (.int .i64 0) := (blk_cell BK273.out 3).trans rfl
      have hfs125 := blk_frozen BK273.out 3
      have hns125_0 := NB272_273.out
      have hns125_2 := NB275_273.out
      have hms125_0 := NB273_272.out
      have hms125_2 := NB273_275.out
      refine skip_ (w1 := ?_) (by rfl) rfl ?_ ?_
      rotate_left
      · go_simp
        rfl
      refine hK.out _ _ ⟨((cell_far (p := ⟨gb273, _, none⟩) NB275_273.out _).trans (hHeld.1)), ((cell_far (p := ⟨gb273, _, none⟩) NB275_273.out _).trans (hHeld.2.1)), ((cell_far (p := ⟨gb273, _, none⟩) NB275_273.out _).trans (hHeld.2.2))⟩ (fun hHeld => ?_)
      clear hK K
      refine done_ (done_of HT_.out (by kernel_rfl)) ?_
      have hcz126_0 : w122.cell? ⟨gb273, 0, none⟩ = some (.int .i64 (wrap64 (rd l0 0))) := (blk_cell BK273.out 0).trans rfl
      have hcz126_1 : w122.cell? ⟨gb273, 1, none⟩ = some (.int .i64 0) := (blk_cell BK273.out 1).trans rfl
      have hcz126_2 : w122.cell? ⟨gb273, 2, none⟩ = some (.int .i64 0) := (blk_cell BK273.out 2).trans rfl
      have hcz126_3 : w122.cell? ⟨gb273, 3, none⟩ = some (.int .i64 0) := (blk_cell BK273.out 3).trans rfl
      have hcz126_4 : w122.cell? ⟨gb273, 4, none⟩ = some (.string (⟨#[]⟩ : ByteArray)) := (blk_cell BK273.out 4).trans rfl
      have hfz126_0 := blk_frozen BK273.out 0
      have hfz126_1 := blk_frozen BK273.out 1
      have hfz126_2 := blk_frozen BK273.out 2
      have hfz126_3 := blk_frozen BK273.out 3
      have hfz126_4 := blk_frozen BK273.out 4
      go_upto_if 66 with (fail)
      go_cut [6] (fun v6 wc => ∃ (kq : Nat) (x6_117 : Int) (x273000_117 : Int) (x273001_117 : Int) (x273002_117 : Int) (x273003_117 : Int) (x273004_117 : ByteArray) (x274004_117 : ByteArray), v6 = .int .i64 x6_117 ∧ Aside0 (regletref23_One.j2 kq l0 x6_117 (wrap64 (rd l0 0)) x276000_1 x276001_1 x276002_1 x274004_117 = some (r1, r2, r3, r4, r5, r6)) ∧ Aside0 (kq ≤ k1) ∧ Aside0 (wc.heap[gb272]? = some (.cells #[.int .i64 x273000_117, .int .i64 x273001_117, .int .i64 x273002_117, .int .i64 x273003_117, .string x273004_117] 30 (0, 0))) ∧ Aside0 (wc.heap[gb273]? = some (.cells #[.int .i64 (wrap64 (rd l0 0)), .int .i64 x276000_1, .int .i64 x276001_1, .int .i64 x276002_1, .string x274004_117] 30 (0, 0))) ∧ Aside0 (wc.heap[gb275]? = some (.cells #[.int .i64 x276000_1, .int .i64 x276001_1, .int .i64 x276002_1] 68 (0, 0))) ∧ Aside0 (Below w.heap.size w wc))
      case first =>
        have H := HC118.out
        clear HC118
        by_cases c127 : (wrap64 (rd l0 0)) = 1
        rotate_left
        · rw [if_neg c127] at H
          have c127b0 : ((wrap64 (rd l0 0)) == 1) = false := beq_eq_false_iff_ne.mpr c127
          have c127b1 : ((wrap64 (rd l0 0)) != 1) = true := bne_iff_ne.mpr c127
          (first | rw [c127b0] | (simp only [i64_w, i32_w]; rw [c127b0]) | skip)
          have H' := Aside0.mk H
          clear H
          go_wp2
          go_meet
          case rel => exact ⟨_, (x6_1), (x273000_1), (x273001_1), (x273002_1), (x273003_1), (x273004_1), ((⟨#[]⟩ : ByteArray)), (by first | rfl | (simp; done) | (simp [*]; done) | (congr 1; simp only [decide_eq_true_eq, beq_iff_eq, eq_iff_iff, iff_true] at *; unfold wrap64; omega)), H', ⟨by have := HK1.out; first | omega | exact Nat.le_refl _⟩, ⟨by (with_reducible repeat (first | refine blk_drewN ?_ _ | refine blk_drew ?_ | refine blk_alloc ?_ _)); refine blk_far ?_ NB272_273.out _; (with_reducible repeat (first | refine blk_drewN ?_ _ | refine blk_drew ?_ | refine blk_alloc ?_ _)); refine blk_far ?_ NB272_273.out _; (with_reducible repeat (first | refine blk_drewN ?_ _ | refine blk_drew ?_ | refine blk_alloc ?_ _)); refine blk_far ?_ NB272_273.out _; (with_reducible repeat (first | refine blk_drewN ?_ _ | refine blk_drew ?_ | refine blk_alloc ?_ _)); exact BK272.out⟩, ⟨by (with_reducible repeat (first | refine blk_drewN ?_ _ | refine blk_drew ?_ | refine blk_alloc ?_ _)); refine blk_put (cs := #[.int .i64 (wrap64 (rd l0 0)), .int .i64 x276000_1, .int .i64 x276001_1, .int .i64 0, .string (⟨#[]⟩ : ByteArray)]) ?_ 3 _ rfl; (with_reducible repeat (first | refine blk_drewN ?_ _ | refine blk_drew ?_ | refine blk_alloc ?_ _)); refine blk_put (cs := #[.int .i64 (wrap64 (rd l0 0)), .int .i64 x276000_1, .int .i64 0, .int .i64 0, .string (⟨#[]⟩ : ByteArray)]) ?_ 2 _ rfl; (with_reducible repeat (first | refine blk_drewN ?_ _ | refine blk_drew ?_ | refine blk_alloc ?_ _)); refine blk_put (cs := #[.int .i64 (wrap64 (rd l0 0)), .int .i64 0, .int .i64 0, .int .i64 0, .string (⟨#[]⟩ : ByteArray)]) ?_ 1 _ rfl; (with_reducible repeat (first | refine blk_drewN ?_ _ | refine blk_drew ?_ | refine blk_alloc ?_ _)); exact BK273.out⟩, ⟨by (with_reducible repeat (first | refine blk_drewN ?_ _ | refine blk_drew ?_ | refine blk_alloc ?_ _)); refine blk_far ?_ NB275_273.out _; (with_reducible repeat (first | refine blk_drewN ?_ _ | refine blk_drew ?_ | refine blk_alloc ?_ _)); refine blk_far ?_ NB275_273.out _; (with_reducible repeat (first | refine blk_drewN ?_ _ | refine blk_drew ?_ | refine blk_alloc ?_ _)); refine blk_far ?_ NB275_273.out _; (with_reducible repeat (first | refine blk_drewN ?_ _ | refine blk_drew ?_ | refine blk_alloc ?_ _)); exact BK275.out⟩, ⟨by repeat (first | (with_reducible first | exact HB.out | apply below_alloc | apply pw_below_drewN | apply below_drew1 | refine below_set ?_ GE272.out | refine below_set ?_ GE273.out | refine below_set ?_ GE275.out) | exact HB.out)⟩⟩
        rw [if_pos c127] at H
        have c127b0 : ((wrap64 (rd l0 0)) == 1) = true := beq_iff_eq.mpr c127
        have c127b1 : ((wrap64 (rd l0 0)) != 1) = false := bne_eq_false_iff_eq.mpr c127
        clear c127
        (first | rw [c127b0] | (simp only [i64_w, i32_w]; rw [c127b0]) | skip)
        by_cases c128 : 0 ≤ x6_1
        rotate_left
        · rw [if_neg c128] at H
          exact absurd H (by simp)
        rw [if_pos c128] at H
        have c128b0 := eq_true c128
        have c128b1 : decide (0 ≤ x6_1) = true := decide_eq_true c128
        clear c128
        by_cases c129 : x6_1 ≤ (l0.length : Int)
        rotate_left
        · rw [if_neg c129] at H
          exact absurd H (by simp)
        rw [if_pos c129] at H
        have c129b0 := eq_true c129
        have c129b1 : decide (x6_1 ≤ (l0.length : Int)) = true := decide_eq_true c129
        clear c129
        replace H := Option.bind_eq_some_iff.mp H
        obtain ⟨⟨t286, t287⟩, A1300, H⟩ := H
        replace H : (if t287 = 0 then (regletref23_One.j1 k1 l0 x6_1 t286 t287 true (wrap64 (rd l0 0)) x276000_1 x276001_1 x276002_1 (⟨#[]⟩ : ByteArray)) else ((regletref23_length.f k1 t286).bind fun t290 => (regletref23_One.j1 k1 l0 x6_1 t286 t287 (decide (t290 > (wrap64 ((wrap64 ((l0.length : Int) - x6_1)) - t287)))) (wrap64 (rd l0 0)) x276000_1 x276001_1 x276002_1 (⟨#[]⟩ : ByteArray)))) = some (r1, r2, r3, r4, r5, r6) := H
        have A130 := Aside0.mk A1300
        clear A1300
        have HC131 := Aside0.mk H
        clear H
        obtain ⟨i0132, hi0132, _, hsz132, _⟩ := info_parts info5
        obtain ⟨A132, hcut132, hA132, hC132⟩ := print_drop_of (P := Try.prog) (Value.int .u8) 0 22 5 .i64 Try.underlying22 hi0132 hsz132 (some ad274) c0 l0 x6_1 (of_decide_eq_true (by first | (with_reducible assumption) | assumption)) (of_decide_eq_true (by first | (with_reducible assumption) | assumption)) HC0.out
        have HR285 := Aside0.mk (Kd.C_of_reads (h1 := fun _ => rfl) (hA132 _ (Kd.reads_of_C HR0.out)))
        have HC285 := Aside0.mk hC132
        clear hA132 hC132 hi0132 hsz132
        go_upto_region 18 with (first | ((with_reducible refine gate_callee (f := 34) rfl ?_); refine goesL_ (some 71) rfl rfl Try.func34 (by kernel_rfl) rfl #[.slice A132 (l0.drop (x6_1 : Int).toNat).length (c0 - x6_1.toNat)] rfl (by (try simp only [List.map_toArray, List.map_cons, List.map_nil]); first | done | (rw [show (l0.drop (x6_1 : Int).toNat).length = (l0.length - x6_1.toNat) from List.length_drop] <;> rfl) | rfl | (simp only [List.length_drop, List.length_take]; rfl)) ?_; (with_reducible refine (regletref23_value.calls k1 _ _ (l0.drop (x6_1 : Int).toNat) t286 t287 _ ?side1 ?side2 A130.out).mono ?_); (case side1 => exact Kd.C_below HR285.out (by repeat (first | (with_reducible first | exact HB.out | apply below_alloc | apply pw_below_drewN | apply below_drew1 | refine below_set ?_ GE272.out | refine below_set ?_ GE273.out | refine below_set ?_ GE275.out) | exact HB.out))); (case side2 => exact HC285.out); rintro e w133 ⟨v288, rfl, ho0, hb⟩; refine ⟨_, rfl, ?_⟩; have n0_ := Aside0.mk (Kd.R_lower ho0 (below_size (by repeat (first | (with_reducible first | exact HB.out | apply below_alloc | apply pw_below_drewN | apply below_drew1 | refine below_set ?_ GE272.out | refine below_set ?_ GE273.out | refine below_set ?_ GE275.out) | exact HB.out)))); have n1_ := Aside0.mk (blk_below (g := gb272) (o := .cells #[.int .i64 x273000_1, .int .i64 x273001_1, .int .i64 x273002_1, .int .i64 x273003_1, .string x273004_1] 30 (0, 0)) (by (with_reducible repeat (first | refine blk_drewN ?_ _ | refine blk_drew ?_ | refine blk_alloc ?_ _)); refine blk_far ?_ NB272_273.out _; (with_reducible repeat (first | refine blk_drewN ?_ _ | refine blk_drew ?_ | refine blk_alloc ?_ _)); refine blk_far ?_ NB272_273.out _; (with_reducible repeat (first | refine blk_drewN ?_ _ | refine blk_drew ?_ | refine blk_alloc ?_ _)); refine blk_far ?_ NB272_273.out _; (with_reducible repeat (first | refine blk_drewN ?_ _ | refine blk_drew ?_ | refine blk_alloc ?_ _)); exact BK272.out) hb); have n2_ := Aside0.mk (blk_below (g := gb273) (o := .cells #[.int .i64 (wrap64 (rd l0 0)), .int .i64 x276000_1, .int .i64 x276001_1, .int .i64 x276002_1, .string (⟨#[]⟩ : ByteArray)] 30 (0, 0)) (by (with_reducible repeat (first | refine blk_drewN ?_ _ | refine blk_drew ?_ | refine blk_alloc ?_ _)); refine blk_put (cs := #[.int .i64 (wrap64 (rd l0 0)), .int .i64 x276000_1, .int .i64 x276001_1, .int .i64 0, .string (⟨#[]⟩ : ByteArray)]) ?_ 3 _ rfl; (with_reducible repeat (first | refine blk_drewN ?_ _ | refine blk_drew ?_ | refine blk_alloc ?_ _)); refine blk_put (cs := #[.int .i64 (wrap64 (rd l0 0)), .int .i64 x276000_1, .int .i64 0, .int .i64 0, .string (⟨#[]⟩ : ByteArray)]) ?_ 2 _ rfl; (with_reducible repeat (first | refine blk_drewN ?_ _ | refine blk_drew ?_ | refine blk_alloc ?_ _)); refine blk_put (cs := #[.int .i64 (wrap64 (rd l0 0)), .int .i64 0, .int .i64 0, .int .i64 0, .string (⟨#[]⟩ : ByteArray)]) ?_ 1 _ rfl; (with_reducible repeat (first | refine blk_drewN ?_ _ | refine blk_drew ?_ | refine blk_alloc ?_ _)); exact BK273.out) hb); have n3_ := Aside0.mk (blk_below (g := gb275) (o := .cells #[.int .i64 x276000_1, .int .i64 x276001_1, .int .i64 x276002_1] 68 (0, 0)) (by (with_reducible repeat (first | refine blk_drewN ?_ _ | refine blk_drew ?_ | refine blk_alloc ?_ _)); refine blk_far ?_ NB275_273.out _; (with_reducible repeat (first | refine blk_drewN ?_ _ | refine blk_drew ?_ | refine blk_alloc ?_ _)); refine blk_far ?_ NB275_273.out _; (with_reducible repeat (first | refine blk_drewN ?_ _ | refine blk_drew ?_ | refine blk_alloc ?_ _)); refine blk_far ?_ NB275_273.out _; (with_reducible repeat (first | refine blk_drewN ?_ _ | refine blk_drew ?_ | refine blk_alloc ?_ _)); exact BK275.out) hb); have n4_ := Aside0.mk (below_step (by repeat (first | (with_reducible first | exact HB.out | apply below_alloc | apply pw_below_drewN | apply below_drew1 | refine below_set ?_ GE272.out | refine below_set ?_ GE273.out | refine below_set ?_ GE275.out) | exact HB.out)) hb); clear BK272; clear BK273; clear BK275; clear HB; have HO289 := n0_; have BK272 := n1_; have BK273 := n2_; have BK275 := n3_; have HB := n4_; clear n0_ n1_ n2_ n3_ n4_; (try clear hb); (try clear hb2); (try clear hk); (try clear hi); (try clear ho0)))
        (try simp only [Act.put, List.setIfInBounds_toArray, List.set_cons_zero, List.set_cons_succ])
        go_cut [86] (fun v86 wc => ∃ (kq : Nat) (x86_130 : Bool), v86 = .bool x86_130 ∧ Aside0 (regletref23_One.j1 kq l0 x6_1 t286 t287 x86_130 (wrap64 (rd l0 0)) x276000_1 x276001_1 x276002_1 (⟨#[]⟩ : ByteArray) = some (r1, r2, r3, r4, r5, r6)) ∧ Aside0 (kq ≤ k1) ∧ Aside0 (Kd.R (Kd.int .i64) 3 wc w.heap.size (fun _ => True) v288 t286) ∧ Aside0 (wc.heap[gb272]? = some (.cells #[.int .i64 x273000_1, .int .i64 x273001_1, .int .i64 x273002_1, .int .i64 x273003_1, .string x273004_1] 30 (0, 0))) ∧ Aside0 (wc.heap[gb273]? = some (.cells #[.int .i64 (wrap64 (rd l0 0)), .int .i64 x276000_1, .int .i64 x276001_1, .int .i64 x276002_1, .string (⟨#[]⟩ : ByteArray)] 30 (0, 0))) ∧ Aside0 (wc.heap[gb275]? = some (.cells #[.int .i64 x276000_1, .int .i64 x276001_1, .int .i64 x276002_1] 68 (0, 0))) ∧ Aside0 (Below w.heap.size w wc))
        case first =>
          have H := HC131.out
          clear HC131
          by_cases c134 : t287 = 0
          · rw [if_pos c134] at H
            have c134b0 : (t287 == 0) = true := beq_iff_eq.mpr c134
            have c134b1 : (t287 != 0) = false := bne_eq_false_iff_eq.mpr c134
            clear c134
            (first | rw [c134b0] | (simp only [i64_w, i32_w]; rw [c134b0]) | skip)
            have H' := Aside0.mk H
            clear H
            go_wp2
            go_meet
            case rel => exact ⟨_, (true), (by first | rfl | (simp; done) | (simp [*]; done) | (congr 1; simp only [decide_eq_true_eq, beq_iff_eq, eq_iff_iff, iff_true] at *; unfold wrap64; omega)), H', ⟨by have := HK1.out; first | omega | exact Nat.le_refl _⟩, ⟨by (with_reducible repeat (first | apply Kd.R_alloc | apply Kd.R_drewN | apply Kd.R_drew)); exact HO289.out⟩, ⟨by (with_reducible repeat (first | refine blk_drewN ?_ _ | refine blk_drew ?_ | refine blk_alloc ?_ _)); exact BK272.out⟩, ⟨by (with_reducible repeat (first | refine blk_drewN ?_ _ | refine blk_drew ?_ | refine blk_alloc ?_ _)); exact BK273.out⟩, ⟨by (with_reducible repeat (first | refine blk_drewN ?_ _ | refine blk_drew ?_ | refine blk_alloc ?_ _)); exact BK275.out⟩, ⟨by repeat (first | (with_reducible first | exact HB.out | apply below_alloc | apply pw_below_drewN | apply below_drew1 | refine below_set ?_ GE272.out | refine below_set ?_ GE273.out | refine below_set ?_ GE275.out) | exact HB.out)⟩⟩
          rw [if_neg c134] at H
          have c134b0 : (t287 == 0) = false := beq_eq_false_iff_ne.mpr c134
          have c134b1 : (t287 != 0) = true := bne_iff_ne.mpr c134
          (first | rw [c134b0] | (simp only [i64_w, i32_w]; rw [c134b0]) | skip)
          replace H := Option.bind_eq_some_iff.mp H
          obtain ⟨t290, A1350, H⟩ := H
          replace H : (regletref23_One.j1 k1 l0 x6_1 t286 t287 (decide (t290 > (wrap64 ((wrap64 ((l0.length : Int) - x6_1)) - t287)))) (wrap64 (rd l0 0)) x276000_1 x276001_1 x276002_1 (⟨#[]⟩ : ByteArray)) = some (r1, r2, r3, r4, r5, r6) := H
          have A135 := Aside0.mk A1350
          clear A1350
          have H' := Aside0.mk H
          clear H
          obtain ⟨Ao136, co136, eo136⟩ := Kd.R_slice HO289.out
          subst eo136
          go_wp2_with (first | (go_at_call 36; (with_reducible refine (regletref23_length.calls k1 _ _ t286 t290 _ ?side1 ?side2 A135.out).mono ?_); (case side1 => repeat (first | exact (Kd.R_reads' HO289.out).2.2 | (with_reducible refine Kd.C_alloc ?_ _) | (with_reducible refine Kd.C_drewN ?_ _) | (with_reducible refine Kd.C_drew ?_))); (case side2 => exact (Kd.R_reads' HO289.out).2.1); rintro e w137 ⟨rfl, hb⟩; have n0_ := Aside0.mk (Kd.R_below (by (with_reducible repeat (first | apply Kd.R_alloc | apply Kd.R_drewN | apply Kd.R_drew)); exact HO289.out) hb); have n1_ := Aside0.mk (blk_below (g := gb272) (o := .cells #[.int .i64 x273000_1, .int .i64 x273001_1, .int .i64 x273002_1, .int .i64 x273003_1, .string x273004_1] 30 (0, 0)) (by (with_reducible repeat (first | refine blk_drewN ?_ _ | refine blk_drew ?_ | refine blk_alloc ?_ _)); exact BK272.out) hb); have n2_ := Aside0.mk (blk_below (g := gb273) (o := .cells #[.int .i64 (wrap64 (rd l0 0)), .int .i64 x276000_1, .int .i64 x276001_1, .int .i64 x276002_1, .string (⟨#[]⟩ : ByteArray)] 30 (0, 0)) (by (with_reducible repeat (first | refine blk_drewN ?_ _ | refine blk_drew ?_ | refine blk_alloc ?_ _)); exact BK273.out) hb); have n3_ := Aside0.mk (blk_below (g := gb275) (o := .cells #[.int .i64 x276000_1, .int .i64 x276001_1, .int .i64 x276002_1] 68 (0, 0)) (by (with_reducible repeat (first | refine blk_drewN ?_ _ | refine blk_drew ?_ | refine blk_alloc ?_ _)); exact BK275.out) hb); have n4_ := Aside0.mk (below_step (by repeat (first | (with_reducible first | exact HB.out | apply below_alloc | apply pw_below_drewN | apply below_drew1 | refine below_set ?_ GE272.out | refine below_set ?_ GE273.out | refine below_set ?_ GE275.out) | exact HB.out)) hb); clear HO289; clear BK272; clear BK273; clear BK275; clear HB; have HO289 := n0_; have BK272 := n1_; have BK273 := n2_; have BK275 := n3_; have HB := n4_; clear n0_ n1_ n2_ n3_ n4_; (try clear hb); (try clear hb2); (try clear hk); (try clear hi)))
          go_meet
          case rel => exact ⟨_, (decide (t290 > (wrap64 ((wrap64 ((l0.length : Int) - x6_1)) - t287)))), (by first | rfl | (simp; done) | (simp [*]; done) | (congr 1; simp only [decide_eq_true_eq, beq_iff_eq, eq_iff_iff, iff_true] at *; unfold wrap64; omega)), H', ⟨by have := HK1.out; first | omega | exact Nat.le_refl _⟩, ⟨by (with_reducible repeat (first | apply Kd.R_alloc | apply Kd.R_drewN | apply Kd.R_drew)); exact HO289.out⟩, ⟨by (with_reducible repeat (first | refine blk_drewN ?_ _ | refine blk_drew ?_ | refine blk_alloc ?_ _)); exact BK272.out⟩, ⟨by (with_reducible repeat (first | refine blk_drewN ?_ _ | refine blk_drew ?_ | refine blk_alloc ?_ _)); exact BK273.out⟩, ⟨by (with_reducible repeat (first | refine blk_drewN ?_ _ | refine blk_drew ?_ | refine blk_alloc ?_ _)); exact BK275.out⟩, ⟨by repeat (first | (with_reducible first | exact HB.out | apply below_alloc | apply pw_below_drewN | apply below_drew1 | refine below_set ?_ GE272.out | refine below_set ?_ GE273.out | refine below_set ?_ GE275.out) | exact HB.out)⟩⟩
        case rest =>
          clear HC131
          try clear c1
          try clear c2
          try clear c2b0
          try clear c2b1
          try clear c2b2
          try clear p2
          try clear q2
          try clear hx2
          try clear qi2
          try clear c3
          try clear c4
          try clear c5
          try clear c6
          try clear p6
          try clear c7
          try clear c8
          try clear c8b0
          try clear c8b1
          try clear c9
          try clear c10
          try clear c11
          try clear c12
          try clear c13
          try clear c15
          try clear c15b0
          try clear c16
          try clear c16b0
          try clear c16b1
          try clear c17
          try clear c17b0
          try clear c17b1
          try clear c19
          try clear c19b0
          try clear c19b1
          try clear c20
          try clear c21
          try clear c26
          try clear p27
          try clear q27
          try clear hx27
          try clear qi27
          try clear c28
          try clear c28b0
          try clear c28b1
          try clear p28
          try clear q28
          try clear hx28
          try clear qi28
          try clear c29
          try clear c29b0
          try clear c29b1
          try clear c30
          try clear c30b0
          try clear c31
          try clear c32
          try clear c34
          try clear c35
          try clear c38
          try clear c41
          try clear c41b0
          try clear c42
          try clear c42b0
          try clear c43
          try clear c43b0
          try clear c43b1
          try clear c44
          try clear c44b0
          try clear c45
          try clear c45b0
          try clear c46
          try clear c47
          try clear c48
          try clear c53
          try clear c55
          try clear c55b0
          try clear c55b1
          try clear c56
          try clear c56b0
          try clear c57
          try clear c57b0
          try clear c58
          try clear c59
          try clear c60
          try clear p64
          try clear c65
          try clear c67
          try clear c67b0
          try clear c67b1
          try clear c68
          try clear c68b0
          try clear c69
          try clear c69b0
          try clear c70
          try clear c71
          try clear c72
          try clear c77
          try clear c80
          try clear c80b0
          try clear c81
          try clear c81b0
          try clear c82
          try clear c82b0
          try clear c82b1
          try clear c83
          try clear c83b0
          try clear c84
          try clear c84b0
          try clear c85
          try clear c86
          try clear c87
          try clear c92
          try clear c94
          try clear c94b0
          try clear c94b1
          try clear c95
          try clear c95b0
          try clear c96
          try clear c96b0
          try clear c97
          try clear c98
          try clear c99
          try clear c104
          try clear c106
          try clear c106b0
          try clear c106b1
          try clear c107
          try clear c107b0
          try clear c108
          try clear c108b0
          try clear c109
          try clear c110
          try clear c111
          try clear c116
          try clear c119
          try clear c120
          try clear c127
          try clear c127b0
          try clear c127b1
          try clear c128
          try clear c128b0
          try clear c128b1
          try clear c129
          try clear c129b0
          try clear c129b1
          try clear c134
          try clear c134b0
          try clear c134b1
          try clear hcz100_0
          try clear hcz100_1
          try clear hcz100_2
          try clear hcz100_3
          try clear hcz100_4
          try clear hcz105_0
          try clear hcz105_1
          try clear hcz105_2
          try clear hcz112_0
          try clear hcz112_1
          try clear hcz112_2
          try clear hcz112_3
          try clear hcz112_4
          try clear hcz117_0
          try clear hcz117_1
          try clear hcz117_2
          try clear hcz121_0
          try clear hcz121_1
          try clear hcz121_2
          try clear hcz121_3
          try clear hcz121_4
          try clear hcz126_0
          try clear hcz126_1
          try clear hcz126_2
          try clear hcz126_3
          try clear hcz126_4
          try clear hcz12_0
          try clear hcz12_1
          try clear hcz12_2
          try clear hcz12_3
          try clear hcz12_4
          try clear hcz22_0
          try clear hcz22_1
          try clear hcz22_2
          try clear hcz22_3
          try clear hcz22_4
          try clear hcz25_0
          try clear hcz25_1
          try clear hcz25_2
          try clear hcz25_3
          try clear hcz25_4
          try clear hcz27_0
          try clear hcz27_1
          try clear hcz27_2
          try clear hcz27_3
          try clear hcz27_4
          try clear hcz33_0
          try clear hcz33_1
          try clear hcz33_2
          try clear hcz33_3
          try clear hcz33_4
          try clear hcz37_0
          try clear hcz37_1
          try clear hcz37_2
          try clear hcz37_3
          try clear hcz37_4
          try clear hcz39_0
          try clear hcz39_1
          try clear hcz39_2
          try clear hcz39_3
          try clear hcz39_4
          try clear hcz49_0
          try clear hcz49_1
          try clear hcz49_2
          try clear hcz49_3
          try clear hcz49_4
          try clear hcz54_0
          try clear hcz54_1
          try clear hcz54_2
          try clear hcz61_0
          try clear hcz61_1
          try clear hcz61_2
          try clear hcz61_3
          try clear hcz61_4
          try clear hcz66_0
          try clear hcz66_1
          try clear hcz66_2
          try clear hcz6_0
          try clear hcz6_1
          try clear hcz6_2
          try clear hcz6_3
          try clear hcz6_4
          try clear hcz73_0
          try clear hcz73_1
          try clear hcz73_2
          try clear hcz73_3
          try clear hcz73_4
          try clear hcz78_0
          try clear hcz78_1
          try clear hcz78_2
          try clear hcz7_0
          try clear hcz7_1
          try clear hcz7_2
          try clear hcz7_3
          try clear hcz7_4
          try clear hcz88_0
          try clear hcz88_1
          try clear hcz88_2
          try clear hcz88_3
          try clear hcz88_4
          try clear hcz93_0
          try clear hcz93_1
          try clear hcz93_2
          try clear hfz100_0
          try clear hfz100_1
          try clear hfz100_2
          try clear hfz100_3
          try clear hfz100_4
          try clear hfz105_0
          try clear hfz105_1
          try clear hfz105_2
          try clear hfz112_0
          try clear hfz112_1
          try clear hfz112_2
          try clear hfz112_3
          try clear hfz112_4
          try clear hfz117_0
          try clear hfz117_1
          try clear hfz117_2
          try clear hfz121_0
          try clear hfz121_1
          try clear hfz121_2
          try clear hfz121_3
          try clear hfz121_4
          try clear hfz126_0
          try clear hfz126_1
          try clear hfz126_2
          try clear hfz126_3
          try clear hfz126_4
          try clear hfz12_0
          try clear hfz12_1
          try clear hfz12_2
          try clear hfz12_3
          try clear hfz12_4
          try clear hfz22_0
          try clear hfz22_1
          try clear hfz22_2
          try clear hfz22_3
          try clear hfz22_4
          try clear hfz25_0
          try clear hfz25_1
          try clear hfz25_2
          try clear hfz25_3
          try clear hfz25_4
          try clear hfz27_0
          try clear hfz27_1
          try clear hfz27_2
          try clear hfz27_3
          try clear hfz27_4
          try clear hfz33_0
          try clear hfz33_1
          try clear hfz33_2
          try clear hfz33_3
          try clear hfz33_4
          try clear hfz37_0
          try clear hfz37_1
          try clear hfz37_2
          try clear hfz37_3
          try clear hfz37_4
          try clear hfz39_0
          try clear hfz39_1
          try clear hfz39_2
          try clear hfz39_3
          try clear hfz39_4
          try clear hfz49_0
          try clear hfz49_1
          try clear hfz49_2
          try clear hfz49_3
          try clear hfz49_4
          try clear hfz54_0
          try clear hfz54_1
          try clear hfz54_2
          try clear hfz61_0
          try clear hfz61_1
          try clear hfz61_2
          try clear hfz61_3
          try clear hfz61_4
          try clear hfz66_0
          try clear hfz66_1
          try clear hfz66_2
          try clear hfz6_0
          try clear hfz6_1
          try clear hfz6_2
          try clear hfz6_3
          try clear hfz6_4
          try clear hfz73_0
          try clear hfz73_1
          try clear hfz73_2
          try clear hfz73_3
          try clear hfz73_4
          try clear hfz78_0
          try clear hfz78_1
          try clear hfz78_2
          try clear hfz7_0
          try clear hfz7_1
          try clear hfz7_2
          try clear hfz7_3
          try clear hfz7_4
          try clear hfz88_0
          try clear hfz88_1
          try clear hfz88_2
          try clear hfz88_3
          try clear hfz88_4
          try clear hfz93_0
          try clear hfz93_1
          try clear hfz93_2
          try clear hx274_0
          try clear hx282_0
          try clear p2
          try clear p274
          try clear p282
          try clear p6
          try clear q2
          try clear q274
          try clear q282
          obtain ⟨kq, x86_130, rfl, HA, HJ130, HO_10, BK272, BK273, BK275, HB⟩ := hcut
          cases kq with
          | zero => exact absurd HA.out (by simp [regletref23_One.j1])
          | succ kj130 =>
            have H := HA.out
            clear HA
            simp only [regletref23_One.j1] at H
            by_cases c138 : x86_130 = true
            · subst c138
              have H1 : (some ((wrap64 (rd l0 0)), x276000_1, x276001_1, x276002_1, (⟨#[]⟩ : ByteArray), 0)) = some (r1, r2, r3, r4, r5, r6) := by rw [if_pos rfl] at H; exact H
              clear H
              have H := H1
              clear H1
              simp only [Option.some.injEq, Prod.mk.injEq] at H
              obtain ⟨rfl, rfl, rfl, rfl, rfl, rfl⟩ := H
              have hnb139 := NB273_272.out
              have hnc139 := NB272_273.out
              have hnb140 := NB273_275.out
              have hnc140 := NB275_273.out
              have hcz141_0 : wc.cell? ⟨gb273, 0, none⟩ = some (.int .i64 (wrap64 (rd l0 0))) := (blk_cell BK273.out 0).trans rfl
              have hcz141_1 : wc.cell? ⟨gb273, 1, none⟩ = some (.int .i64 x276000_1) := (blk_cell BK273.out 1).trans rfl
              have hcz141_2 : wc.cell? ⟨gb273, 2, none⟩ = some (.int .i64 x276001_1) := (blk_cell BK273.out 2).trans rfl
              have hcz141_3 : wc.cell? ⟨gb273, 3, none⟩ = some (.int .i64 x276002_1) := (blk_cell BK273.out 3).trans rfl
              have hcz141_4 : wc.cell? ⟨gb273, 4, none⟩ = some (.string (⟨#[]⟩ : ByteArray)) := (blk_cell BK273.out 4).trans rfl
              have hfz141_0 := blk_frozen BK273.out 0
              have hfz141_1 := blk_frozen BK273.out 1
              have hfz141_2 := blk_frozen BK273.out 2
              have hfz141_3 := blk_frozen BK273.out 3
              have hfz141_4 := blk_frozen BK273.out 4
              have hnb142 := NB272_275.out
              have hnc142 := NB275_272.out
              have hcz143_0 : wc.cell? ⟨gb272, 0, none⟩ = some (.int .i64 x273000_1) := (blk_cell BK272.out 0).trans rfl
              have hcz143_1 : wc.cell? ⟨gb272, 1, none⟩ = some (.int .i64 x273001_1) := (blk_cell BK272.out 1).trans rfl
              have hcz143_2 : wc.cell? ⟨gb272, 2, none⟩ = some (.int .i64 x273002_1) := (blk_cell BK272.out 2).trans rfl
              have hcz143_3 : wc.cell? ⟨gb272, 3, none⟩ = some (.int .i64 x273003_1) := (blk_cell BK272.out 3).trans rfl
              have hcz143_4 : wc.cell? ⟨gb272, 4, none⟩ = some (.string x273004_1) := (blk_cell BK272.out 4).trans rfl
              have hfz143_0 := blk_frozen BK272.out 0
              have hfz143_1 := blk_frozen BK272.out 1
              have hfz143_2 := blk_frozen BK272.out 2
              have hfz143_3 := blk_frozen BK272.out 3
              have hfz143_4 := blk_frozen BK272.out 4
              go_wp2
              refine bodyPost_ret (results_ct rfl _ _ gb272 30 #[.int .i64 (wrap64 (rd l0 0)), .int .i64 x276000_1, .int .i64 x276001_1, .int .i64 x276002_1, .string (⟨#[]⟩ : ByteArray)] (0, 0) _ rfl (by (with_reducible repeat (first | refine blk_drewN ?_ _ | refine blk_drew ?_ | refine blk_alloc ?_ _)); refine blk_put (cs := #[.int .i64 (wrap64 (rd l0 0)), .int .i64 x276000_1, .int .i64 x276001_1, .int .i64 x276002_1, .string x273004_1]) ?_ 4 _ rfl; (with_reducible repeat (first | refine blk_drewN ?_ _ | refine blk_drew ?_ | refine blk_alloc ?_ _)); refine blk_put (cs := #[.int .i64 (wrap64 (rd l0 0)), .int .i64 x276000_1, .int .i64 x276001_1, .int .i64 x273003_1, .string x273004_1]) ?_ 3 _ rfl; (with_reducible repeat (first | refine blk_drewN ?_ _ | refine blk_drew ?_ | refine blk_alloc ?_ _)); refine blk_put (cs := #[.int .i64 (wrap64 (rd l0 0)), .int .i64 x276000_1, .int .i64 x273002_1, .int .i64 x273003_1, .string x273004_1]) ?_ 2 _ rfl; (with_reducible repeat (first | refine blk_drewN ?_ _ | refine blk_drew ?_ | refine blk_alloc ?_ _)); refine blk_put (cs := #[.int .i64 (wrap64 (rd l0 0)), .int .i64 x273001_1, .int .i64 x273002_1, .int .i64 x273003_1, .string x273004_1]) ?_ 1 _ rfl; (with_reducible repeat (first | refine blk_drewN ?_ _ | refine blk_drew ?_ | refine blk_alloc ?_ _)); refine blk_put (cs := #[.int .i64 x273000_1, .int .i64 x273001_1, .int .i64 x273002_1, .int .i64 x273003_1, .string x273004_1]) ?_ 0 _ rfl; (with_reducible repeat (first | refine blk_drewN ?_ _ | refine blk_drew ?_ | refine blk_alloc ?_ _)); exact BK272.out) Try.underlying30 rfl (by kernel_rfl)) rfl ?_
              exact ⟨by first | rfl | (simp [errW_none, errW_some] <;> rfl) | (simp [*, errW_none, errW_some] <;> rfl), by repeat (first | (with_reducible first | exact HB.out | apply below_alloc | apply pw_below_drewN | apply below_drew1 | refine below_set ?_ GE272.out | refine below_set ?_ GE273.out | refine below_set ?_ GE275.out) | exact HB.out)⟩
            replace c138 := Bool.eq_false_iff.mpr c138
            subst c138
            have H1 : ((regletref23_length.f kj130 t286).bind fun t291 => ((regletref23_length.f kj130 t286).bind fun t292 => (if 0 ≤ (wrap64 ((wrap64 ((wrap64 (x6_1 + t287)) + t291)) - t292)) then (if (wrap64 ((wrap64 ((wrap64 (x6_1 + t287)) + t291)) - t292)) ≤ (wrap64 ((wrap64 (x6_1 + t287)) + t291)) then (if (wrap64 ((wrap64 (x6_1 + t287)) + t291)) ≤ (l0.length : Int) then (regletref23_One.j2 kj130 l0 (wrap64 ((wrap64 (x6_1 + t287)) + t291)) (wrap64 (rd l0 0)) x276000_1 x276001_1 x276002_1 (strOfNums ((l0.take ((wrap64 ((wrap64 (x6_1 + t287)) + t291)) : Int).toNat).drop ((wrap64 ((wrap64 ((wrap64 (x6_1 + t287)) + t291)) - t292)) : Int).toNat))) else (none)) else (none)) else (none)))) = some (r1, r2, r3, r4, r5, r6) := by rw [if_neg (show ¬ (false = true) by decide)] at H; exact H
            clear H
            have H := H1
            clear H1
            replace H := Option.bind_eq_some_iff.mp H
            obtain ⟨t291, A1440, H⟩ := H
            replace H : ((regletref23_length.f kj130 t286).bind fun t292 => (if 0 ≤ (wrap64 ((wrap64 ((wrap64 (x6_1 + t287)) + t291)) - t292)) then (if (wrap64 ((wrap64 ((wrap64 (x6_1 + t287)) + t291)) - t292)) ≤ (wrap64 ((wrap64 (x6_1 + t287)) + t291)) then (if (wrap64 ((wrap64 (x6_1 + t287)) + t291)) ≤ (l0.length : Int) then (regletref23_One.j2 kj130 l0 (wrap64 ((wrap64 (x6_1 + t287)) + t291)) (wrap64 (rd l0 0)) x276000_1 x276001_1 x276002_1 (strOfNums ((l0.take ((wrap64 ((wrap64 (x6_1 + t287)) + t291)) : Int).toNat).drop ((wrap64 ((wrap64 ((wrap64 (x6_1 + t287)) + t291)) - t292)) : Int).toNat))) else (none)) else (none)) else (none))) = some (r1, r2, r3, r4, r5, r6) := H
            have A144 := Aside0.mk A1440
            clear A1440
            replace H := Option.bind_eq_some_iff.mp H
            obtain ⟨t292, A1450, H⟩ := H
            replace H : (if 0 ≤ (wrap64 ((wrap64 ((wrap64 (x6_1 + t287)) + t291)) - t292)) then (if (wrap64 ((wrap64 ((wrap64 (x6_1 + t287)) + t291)) - t292)) ≤ (wrap64 ((wrap64 (x6_1 + t287)) + t291)) then (if (wrap64 ((wrap64 (x6_1 + t287)) + t291)) ≤ (l0.length : Int) then (regletref23_One.j2 kj130 l0 (wrap64 ((wrap64 (x6_1 + t287)) + t291)) (wrap64 (rd l0 0)) x276000_1 x276001_1 x276002_1 (strOfNums ((l0.take ((wrap64 ((wrap64 (x6_1 + t287)) + t291)) : Int).toNat).drop ((wrap64 ((wrap64 ((wrap64 (x6_1 + t287)) + t291)) - t292)) : Int).toNat))) else (none)) else (none)) else (none)) = some (r1, r2, r3, r4, r5, r6) := H
            have A145 := Aside0.mk A1450
            clear A1450
            obtain ⟨ji146, hji146⟩ : ∃ j_ : Int, (wrap64 ((wrap64 ((wrap64 (x6_1 + t287)) + t291)) - t292)) = j_ := ⟨_, rfl⟩
            replace H : (if 0 ≤ (ji146) then (if (ji146) ≤ (wrap64 ((wrap64 (x6_1 + t287)) + t291)) then (if (wrap64 ((wrap64 (x6_1 + t287)) + t291)) ≤ (l0.length : Int) then (regletref23_One.j2 kj130 l0 (wrap64 ((wrap64 (x6_1 + t287)) + t291)) (wrap64 (rd l0 0)) x276000_1 x276001_1 x276002_1 (strOfNums ((l0.take ((wrap64 ((wrap64 (x6_1 + t287)) + t291)) : Int).toNat).drop ((ji146) : Int).toNat))) else (none)) else (none)) else (none)) = some (r1, r2, r3, r4, r5, r6) := by first | (rw [hji146] at H; exact H) | (simp only [hji146] at H ⊢; exact H)
            (try rw [hji146] at A144)
            (try rw [hji146] at A145)
            have hji146w : (IntKind.i64.wrap ((wrap64 ((wrap64 (x6_1 + t287)) + t291)) - t292)) = ji146 := (i64_w _).trans hji146
            by_cases c147 : 0 ≤ (ji146)
            rotate_left
            · rw [if_neg c147] at H
              exact absurd H (by simp)
            rw [if_pos c147] at H
            have c147b0 := eq_true c147
            have c147b1 : decide (0 ≤ (ji146)) = true := decide_eq_true c147
            clear c147
            by_cases c148 : (ji146) ≤ (wrap64 ((wrap64 (x6_1 + t287)) + t291))
            rotate_left
            · rw [if_neg c148] at H
              exact absurd H (by simp)
            rw [if_pos c148] at H
            have c148b0 := eq_true c148
            have c148b1 : decide ((ji146) ≤ (wrap64 ((wrap64 (x6_1 + t287)) + t291))) = true := decide_eq_true c148
            by_cases c149 : (wrap64 ((wrap64 (x6_1 + t287)) + t291)) ≤ (l0.length : Int)
            rotate_left
            · rw [if_neg c149] at H
              exact absurd H (by simp)
            rw [if_pos c149] at H
            have c149b0 := eq_true c149
            have c149b1 : decide ((wrap64 ((wrap64 (x6_1 + t287)) + t291)) ≤ (l0.length : Int)) = true := decide_eq_true c149
            have H' := Aside0.mk H
            clear H
            obtain ⟨Ao150, co150, eo150⟩ := Kd.R_slice HO_10.out
            subst eo150
            go_wp2_with (first | ((with_reducible refine gate_callee (f := 36) rfl ?_); refine goesL_ (some 92) rfl rfl Try.func36 (by kernel_rfl) rfl #[.slice Ao150 t286.length co150] rfl (by (try simp only [List.map_toArray, List.map_cons, List.map_nil]); first | done | rfl | (simp only [List.length_drop, List.length_take]; rfl)) ?_; (with_reducible refine (regletref23_length.calls kj130 _ _ t286 t291 _ ?side1 ?side2 A144.out).mono ?_); (case side1 => repeat (first | exact (Kd.R_reads' HO_10.out).2.2 | (with_reducible refine Kd.C_alloc ?_ _) | (with_reducible refine Kd.C_drewN ?_ _) | (with_reducible refine Kd.C_drew ?_))); (case side2 => exact (Kd.R_reads' HO_10.out).2.1); rintro e w151 ⟨rfl, hb⟩; refine ⟨_, rfl, ?_⟩; have n0_ := Aside0.mk (Kd.R_below (by (with_reducible repeat (first | apply Kd.R_alloc | apply Kd.R_drewN | apply Kd.R_drew)); exact HO_10.out) hb); have n1_ := Aside0.mk (blk_below (g := gb272) (o := .cells #[.int .i64 x273000_1, .int .i64 x273001_1, .int .i64 x273002_1, .int .i64 x273003_1, .string x273004_1] 30 (0, 0)) (by (with_reducible repeat (first | refine blk_drewN ?_ _ | refine blk_drew ?_ | refine blk_alloc ?_ _)); exact BK272.out) hb); have n2_ := Aside0.mk (blk_below (g := gb273) (o := .cells #[.int .i64 (wrap64 (rd l0 0)), .int .i64 x276000_1, .int .i64 x276001_1, .int .i64 x276002_1, .string (⟨#[]⟩ : ByteArray)] 30 (0, 0)) (by (with_reducible repeat (first | refine blk_drewN ?_ _ | refine blk_drew ?_ | refine blk_alloc ?_ _)); exact BK273.out) hb); have n3_ := Aside0.mk (blk_below (g := gb275) (o := .cells #[.int .i64 x276000_1, .int .i64 x276001_1, .int .i64 x276002_1] 68 (0, 0)) (by (with_reducible repeat (first | refine blk_drewN ?_ _ | refine blk_drew ?_ | refine blk_alloc ?_ _)); exact BK275.out) hb); have n4_ := Aside0.mk (below_step (by repeat (first | (with_reducible first | exact HB.out | apply below_alloc | apply pw_below_drewN | apply below_drew1 | refine below_set ?_ GE272.out | refine below_set ?_ GE273.out | refine below_set ?_ GE275.out) | exact HB.out)) hb); clear HO_10; clear BK272; clear BK273; clear BK275; clear HB; have HO_10 := n0_; have BK272 := n1_; have BK273 := n2_; have BK275 := n3_; have HB := n4_; clear n0_ n1_ n2_ n3_ n4_; (try clear hb); (try clear hb2); (try clear hk); (try clear hi)) | ((with_reducible refine gate_callee (f := 36) rfl ?_); refine goesL_ (some 97) rfl rfl Try.func36 (by kernel_rfl) rfl #[.slice Ao150 t286.length co150] rfl (by (try simp only [List.map_toArray, List.map_cons, List.map_nil]); first | done | rfl | (simp only [List.length_drop, List.length_take]; rfl)) ?_; (with_reducible refine (regletref23_length.calls kj130 _ _ t286 t292 _ ?side1 ?side2 A145.out).mono ?_); (case side1 => repeat (first | exact (Kd.R_reads' HO_10.out).2.2 | (with_reducible refine Kd.C_alloc ?_ _) | (with_reducible refine Kd.C_drewN ?_ _) | (with_reducible refine Kd.C_drew ?_))); (case side2 => exact (Kd.R_reads' HO_10.out).2.1); rintro e w152 ⟨rfl, hb⟩; refine ⟨_, rfl, ?_⟩; have n0_ := Aside0.mk (Kd.R_below (by (with_reducible repeat (first | apply Kd.R_alloc | apply Kd.R_drewN | apply Kd.R_drew)); exact HO_10.out) hb); have n1_ := Aside0.mk (blk_below (g := gb272) (o := .cells #[.int .i64 x273000_1, .int .i64 x273001_1, .int .i64 x273002_1, .int .i64 x273003_1, .string x273004_1] 30 (0, 0)) (by (with_reducible repeat (first | refine blk_drewN ?_ _ | refine blk_drew ?_ | refine blk_alloc ?_ _)); exact BK272.out) hb); have n2_ := Aside0.mk (blk_below (g := gb273) (o := .cells #[.int .i64 (wrap64 (rd l0 0)), .int .i64 x276000_1, .int .i64 x276001_1, .int .i64 x276002_1, .string (⟨#[]⟩ : ByteArray)] 30 (0, 0)) (by (with_reducible repeat (first | refine blk_drewN ?_ _ | refine blk_drew ?_ | refine blk_alloc ?_ _)); exact BK273.out) hb); have n3_ := Aside0.mk (blk_below (g := gb275) (o := .cells #[.int .i64 x276000_1, .int .i64 x276001_1, .int .i64 x276002_1] 68 (0, 0)) (by (with_reducible repeat (first | refine blk_drewN ?_ _ | refine blk_drew ?_ | refine blk_alloc ?_ _)); exact BK275.out) hb); have n4_ := Aside0.mk (below_step (by repeat (first | (with_reducible first | exact HB.out | apply below_alloc | apply pw_below_drewN | apply below_drew1 | refine below_set ?_ GE272.out | refine below_set ?_ GE273.out | refine below_set ?_ GE275.out) | exact HB.out)) hb); clear HO_10; clear BK272; clear BK273; clear BK275; clear HB; have HO_10 := n0_; have BK272 := n1_; have BK273 := n2_; have BK275 := n3_; have HB := n4_; clear n0_ n1_ n2_ n3_ n4_; (try clear hb); (try clear hb2); (try clear hk); (try clear hi); obtain ⟨i0153, hi0153, _, hsz153, _⟩ := info_parts info5; obtain ⟨A153, hcut153, hA153, hC153⟩ := print_mid_of (P := Try.prog) (Value.int .u8) 0 22 5 .i64 .i64 Try.underlying22 hi0153 hsz153 (some ad274) c0 l0 (ji146) (wrap64 ((wrap64 (x6_1 + t287)) + t291)) (of_decide_eq_true (by first | (with_reducible assumption) | assumption)) (by first | omega | exact of_decide_eq_true (by first | (with_reducible assumption) | assumption)) (of_decide_eq_true (by first | (with_reducible assumption) | assumption)) HC0.out; have HR293 := Aside0.mk (Kd.C_of_reads (h1 := fun _ => rfl) (hA153 _ (Kd.reads_of_C HR0.out))); have HC293 := Aside0.mk hC153; clear hA153 hC153 hi0153 hsz153; have hcv154 := Kd.C_string (P := Try.prog) (A := A153) (c := (c0 - (ji146).toNat)) Try.underlying22 Try.underlying5 Try.underlying9 (Kd.C_below HR293.out HB.out); have hcw154 := hcv154; (try rw [show ((l0.take ((wrap64 ((wrap64 (x6_1 + t287)) + t291)) : Int).toNat).drop ((ji146) : Int).toNat).length = ((wrap64 ((wrap64 (x6_1 + t287)) + t291)).toNat - (ji146).toNat) from (by rw [List.length_drop, List.length_take]; have h_ : ((wrap64 ((wrap64 (x6_1 + t287)) + t291)) : Int) ≤ (l0.length : Int) := of_decide_eq_true (by first | (with_reducible assumption) | assumption); omega)] at hcw154); have hnb155 := NB273_272.out; have hnc155 := NB272_273.out; have hnb156 := NB273_275.out; have hnc156 := NB275_273.out; have hcz157_0 : w152.cell? ⟨gb273, 0, none⟩ = some (.int .i64 (wrap64 (rd l0 0))) := (blk_cell BK273.out 0).trans rfl; have hcz157_1 : w152.cell? ⟨gb273, 1, none⟩ = some (.int .i64 x276000_1) := (blk_cell BK273.out 1).trans rfl; have hcz157_2 : w152.cell? ⟨gb273, 2, none⟩ = some (.int .i64 x276001_1) := (blk_cell BK273.out 2).trans rfl; have hcz157_3 : w152.cell? ⟨gb273, 3, none⟩ = some (.int .i64 x276002_1) := (blk_cell BK273.out 3).trans rfl; have hcz157_4 : w152.cell? ⟨gb273, 4, none⟩ = some (.string (⟨#[]⟩ : ByteArray)) := (blk_cell BK273.out 4).trans rfl; have hfz157_0 := blk_frozen BK273.out 0; have hfz157_1 := blk_frozen BK273.out 1; have hfz157_2 := blk_frozen BK273.out 2; have hfz157_3 := blk_frozen BK273.out 3; have hfz157_4 := blk_frozen BK273.out 4))
            go_meet
            case rel => exact ⟨_, (wrap64 ((wrap64 (x6_1 + t287)) + t291)), (x273000_1), (x273001_1), (x273002_1), (x273003_1), (x273004_1), (strOfNums ((l0.take ((wrap64 ((wrap64 (x6_1 + t287)) + t291)) : Int).toNat).drop ((ji146) : Int).toNat)), (by first | rfl | (simp; done) | (simp [*]; done) | (congr 1; simp only [decide_eq_true_eq, beq_iff_eq, eq_iff_iff, iff_true] at *; unfold wrap64; omega)), H', ⟨by have := HK1.out; have := HJ130.out; first | omega | exact Nat.le_refl _⟩, ⟨by (with_reducible repeat (first | refine blk_drewN ?_ _ | refine blk_drew ?_ | refine blk_alloc ?_ _)); refine blk_far ?_ NB272_273.out _; (with_reducible repeat (first | refine blk_drewN ?_ _ | refine blk_drew ?_ | refine blk_alloc ?_ _)); exact BK272.out⟩, ⟨by (with_reducible repeat (first | refine blk_drewN ?_ _ | refine blk_drew ?_ | refine blk_alloc ?_ _)); refine blk_put (cs := #[.int .i64 (wrap64 (rd l0 0)), .int .i64 x276000_1, .int .i64 x276001_1, .int .i64 x276002_1, .string (⟨#[]⟩ : ByteArray)]) ?_ 4 _ rfl; (with_reducible repeat (first | refine blk_drewN ?_ _ | refine blk_drew ?_ | refine blk_alloc ?_ _)); exact BK273.out⟩, ⟨by (with_reducible repeat (first | refine blk_drewN ?_ _ | refine blk_drew ?_ | refine blk_alloc ?_ _)); refine blk_far ?_ NB275_273.out _; (with_reducible repeat (first | refine blk_drewN ?_ _ | refine blk_drew ?_ | refine blk_alloc ?_ _)); exact BK275.out⟩, ⟨by repeat (first | (with_reducible first | exact HB.out | apply below_alloc | apply pw_below_drewN | apply below_drew1 | refine below_set ?_ GE272.out | refine below_set ?_ GE273.out | refine below_set ?_ GE275.out) | exact HB.out)⟩⟩
      case rest =>
        clear HC118
        try clear c1
        try clear hcv1
        try clear c2
        try clear c2b0
        try clear c2b1
        try clear c2b2
        try clear p2
        try clear q2
        try clear hx2
        try clear qi2
        try clear c3
        try clear c4
        try clear c5
        try clear c6
        try clear p6
        try clear c7
        try clear c8
        try clear c8b0
        try clear c8b1
        try clear c9
        try clear c10
        try clear c11
        try clear c12
        try clear c13
        try clear c14
        try clear c15
        try clear c15b0
        try clear hcv15
        try clear c16
        try clear c16b0
        try clear c16b1
        try clear c17
        try clear c17b0
        try clear c17b1
        try clear c19
        try clear c19b0
        try clear c19b1
        try clear c20
        try clear c21
        try clear c26
        try clear p27
        try clear q27
        try clear hx27
        try clear qi27
        try clear c28
        try clear c28b0
        try clear c28b1
        try clear p28
        try clear q28
        try clear hx28
        try clear qi28
        try clear c29
        try clear c29b0
        try clear c29b1
        try clear c30
        try clear c30b0
        try clear c31
        try clear c32
        try clear c34
        try clear c35
        try clear c36
        try clear c38
        try clear c41
        try clear c41b0
        try clear c42
        try clear c42b0
        try clear c43
        try clear c43b0
        try clear c43b1
        try clear c44
        try clear c44b0
        try clear c45
        try clear c45b0
        try clear c46
        try clear c47
        try clear c48
        try clear c53
        try clear c55
        try clear c55b0
        try clear c55b1
        try clear c56
        try clear c56b0
        try clear c57
        try clear c57b0
        try clear c58
        try clear c59
        try clear c60
        try clear p64
        try clear c65
        try clear c67
        try clear c67b0
        try clear c67b1
        try clear c68
        try clear c68b0
        try clear c69
        try clear c69b0
        try clear c70
        try clear c71
        try clear c72
        try clear c77
        try clear c80
        try clear c80b0
        try clear c81
        try clear c81b0
        try clear c82
        try clear c82b0
        try clear c82b1
        try clear c83
        try clear c83b0
        try clear c84
        try clear c84b0
        try clear c85
        try clear c86
        try clear c87
        try clear c92
        try clear c94
        try clear c94b0
        try clear c94b1
        try clear c95
        try clear c95b0
        try clear c96
        try clear c96b0
        try clear c97
        try clear c98
        try clear c99
        try clear c104
        try clear c106
        try clear c106b0
        try clear c106b1
        try clear c107
        try clear c107b0
        try clear c108
        try clear c108b0
        try clear c109
        try clear c110
        try clear c111
        try clear c116
        try clear c119
        try clear c120
        try clear c127
        try clear c127b0
        try clear c127b1
        try clear c128
        try clear c128b0
        try clear c128b1
        try clear c129
        try clear c129b0
        try clear c129b1
        try clear c134
        try clear c134b0
        try clear c134b1
        try clear c138
        try clear c139
        try clear c140
        try clear c142
        try clear c147
        try clear c147b0
        try clear c147b1
        try clear c148
        try clear c148b0
        try clear c148b1
        try clear c149
        try clear c149b0
        try clear c149b1
        try clear hcv154
        try clear c155
        try clear c156
        try clear hcz100_0
        try clear hcz100_1
        try clear hcz100_2
        try clear hcz100_3
        try clear hcz100_4
        try clear hcz105_0
        try clear hcz105_1
        try clear hcz105_2
        try clear hcz112_0
        try clear hcz112_1
        try clear hcz112_2
        try clear hcz112_3
        try clear hcz112_4
        try clear hcz117_0
        try clear hcz117_1
        try clear hcz117_2
        try clear hcz121_0
        try clear hcz121_1
        try clear hcz121_2
        try clear hcz121_3
        try clear hcz121_4
        try clear hcz126_0
        try clear hcz126_1
        try clear hcz126_2
        try clear hcz126_3
        try clear hcz126_4
        try clear hcz12_0
        try clear hcz12_1
        try clear hcz12_2
        try clear hcz12_3
        try clear hcz12_4
        try clear hcz141_0
        try clear hcz141_1
        try clear hcz141_2
        try clear hcz141_3
        try clear hcz141_4
        try clear hcz143_0
        try clear hcz143_1
        try clear hcz143_2
        try clear hcz143_3
        try clear hcz143_4
        try clear hcz157_0
        try clear hcz157_1
        try clear hcz157_2
        try clear hcz157_3
        try clear hcz157_4
        try clear hcz22_0
        try clear hcz22_1
        try clear hcz22_2
        try clear hcz22_3
        try clear hcz22_4
        try clear hcz25_0
        try clear hcz25_1
        try clear hcz25_2
        try clear hcz25_3
        try clear hcz25_4
        try clear hcz27_0
        try clear hcz27_1
        try clear hcz27_2
        try clear hcz27_3
        try clear hcz27_4
        try clear hcz33_0
        try clear hcz33_1
        try clear hcz33_2
        try clear hcz33_3
        try clear hcz33_4
        try clear hcz37_0
        try clear hcz37_1
        try clear hcz37_2
        try clear hcz37_3
        try clear hcz37_4
        try clear hcz39_0
        try clear hcz39_1
        try clear hcz39_2
        try clear hcz39_3
        try clear hcz39_4
        try clear hcz49_0
        try clear hcz49_1
        try clear hcz49_2
        try clear hcz49_3
        try clear hcz49_4
        try clear hcz54_0
        try clear hcz54_1
        try clear hcz54_2
        try clear hcz61_0
        try clear hcz61_1
        try clear hcz61_2
        try clear hcz61_3
        try clear hcz61_4
        try clear hcz66_0
        try clear hcz66_1
        try clear hcz66_2
        try clear hcz6_0
        try clear hcz6_1
        try clear hcz6_2
        try clear hcz6_3
        try clear hcz6_4
        try clear hcz73_0
        try clear hcz73_1
        try clear hcz73_2
        try clear hcz73_3
        try clear hcz73_4
        try clear hcz78_0
        try clear hcz78_1
        try clear hcz78_2
        try clear hcz7_0
        try clear hcz7_1
        try clear hcz7_2
        try clear hcz7_3
        try clear hcz7_4
        try clear hcz88_0
        try clear hcz88_1
        try clear hcz88_2
        try clear hcz88_3
        try clear hcz88_4
        try clear hcz93_0
        try clear hcz93_1
        try clear hcz93_2
        try clear hfz100_0
        try clear hfz100_1
        try clear hfz100_2
        try clear hfz100_3
        try clear hfz100_4
        try clear hfz105_0
        try clear hfz105_1
        try clear hfz105_2
        try clear hfz112_0
        try clear hfz112_1
        try clear hfz112_2
        try clear hfz112_3
        try clear hfz112_4
        try clear hfz117_0
        try clear hfz117_1
        try clear hfz117_2
        try clear hfz121_0
        try clear hfz121_1
        try clear hfz121_2
        try clear hfz121_3
        try clear hfz121_4
        try clear hfz126_0
        try clear hfz126_1
        try clear hfz126_2
        try clear hfz126_3
        try clear hfz126_4
        try clear hfz12_0
        try clear hfz12_1
        try clear hfz12_2
        try clear hfz12_3
        try clear hfz12_4
        try clear hfz141_0
        try clear hfz141_1
        try clear hfz141_2
        try clear hfz141_3
        try clear hfz141_4
        try clear hfz143_0
        try clear hfz143_1
        try clear hfz143_2
        try clear hfz143_3
        try clear hfz143_4
        try clear hfz157_0
        try clear hfz157_1
        try clear hfz157_2
        try clear hfz157_3
        try clear hfz157_4
        try clear hfz22_0
        try clear hfz22_1
        try clear hfz22_2
        try clear hfz22_3
        try clear hfz22_4
        try clear hfz25_0
        try clear hfz25_1
        try clear hfz25_2
        try clear hfz25_3
        try clear hfz25_4
        try clear hfz27_0
        try clear hfz27_1
        try clear hfz27_2
        try clear hfz27_3
        try clear hfz27_4
        try clear hfz33_0
        try clear hfz33_1
        try clear hfz33_2
        try clear hfz33_3
        try clear hfz33_4
        try clear hfz37_0
        try clear hfz37_1
        try clear hfz37_2
        try clear hfz37_3
        try clear hfz37_4
        try clear hfz39_0
        try clear hfz39_1
        try clear hfz39_2
        try clear hfz39_3
        try clear hfz39_4
        try clear hfz49_0
        try clear hfz49_1
        try clear hfz49_2
        try clear hfz49_3
        try clear hfz49_4
        try clear hfz54_0
        try clear hfz54_1
        try clear hfz54_2
        try clear hfz61_0
        try clear hfz61_1
        try clear hfz61_2
        try clear hfz61_3
        try clear hfz61_4
        try clear hfz66_0
        try clear hfz66_1
        try clear hfz66_2
        try clear hfz6_0
        try clear hfz6_1
        try clear hfz6_2
        try clear hfz6_3
        try clear hfz6_4
        try clear hfz73_0
        try clear hfz73_1
        try clear hfz73_2
        try clear hfz73_3
        try clear hfz73_4
        try clear hfz78_0
        try clear hfz78_1
        try clear hfz78_2
        try clear hfz7_0
        try clear hfz7_1
        try clear hfz7_2
        try clear hfz7_3
        try clear hfz7_4
        try clear hfz88_0
        try clear hfz88_1
        try clear hfz88_2
        try clear hfz88_3
        try clear hfz88_4
        try clear hfz93_0
        try clear hfz93_1
        try clear hfz93_2
        try clear hx274_0
        try clear hx282_0
        try clear p2
        try clear p27
        try clear p274
        try clear p28
        try clear p282
        try clear p6
        try clear p64
        try clear q2
        try clear q27
        try clear q274
        try clear q28
        try clear q282
        obtain ⟨kq, x6_117, x273000_117, x273001_117, x273002_117, x273003_117, x273004_117, x274004_117, rfl, HA, HJ117, BK272, BK273, BK275, HB⟩ := hcut
        cases kq with
        | zero => exact absurd HA.out (by simp [regletref23_One.j2])
        | succ kj117 =>
          have H := HA.out
          clear HA
          simp only [regletref23_One.j2] at H
          replace H := Option.bind_eq_some_iff.mp H
          obtain ⟨t294, A1580, H⟩ := H
          replace H : (if t294 = 0 then ((regletref23_Bytes.f kj117 (wrap64 (rd l0 0)) x276000_1 x276001_1 x276002_1 x274004_117).bind fun t295 => (if 0 ≤ x6_117 then (if x6_117 ≤ (l0.length : Int) then ((regletref23_same.f t295 (l0.take (x6_117 : Int).toNat)).bind fun t299 => (if t299 = true then (some ((wrap64 (rd l0 0)), x276000_1, x276001_1, x276002_1, x274004_117, x6_117)) else (some ((wrap64 (rd l0 0)), x276000_1, x276001_1, x276002_1, x274004_117, 0)))) else (none)) else (none))) else (some ((wrap64 (rd l0 0)), x276000_1, x276001_1, x276002_1, x274004_117, 0))) = some (r1, r2, r3, r4, r5, r6) := H
          have A158 := Aside0.mk A1580
          clear A1580
          by_cases c159 : t294 = 0
          rotate_left
          · rw [if_neg c159] at H
            have c159b0 : (t294 == 0) = false := beq_eq_false_iff_ne.mpr c159
            have c159b1 : (t294 != 0) = true := bne_iff_ne.mpr c159
            simp only [Option.some.injEq, Prod.mk.injEq] at H
            obtain ⟨rfl, rfl, rfl, rfl, rfl, rfl⟩ := H
            try go_wp2
            have n0_ := Aside0.mk (blk_drew BK272.out)
            have n1_ := Aside0.mk (blk_drew BK273.out)
            have n2_ := Aside0.mk (blk_drew BK275.out)
            have n3_ := Aside0.mk (below_drew1 HB.out)
            clear BK272
            clear BK273
            clear BK275
            clear HB
            have BK272 := n0_
            have BK273 := n1_
            have BK275 := n2_
            have HB := n3_
            clear n0_ n1_ n2_ n3_
            refine start_ (n := 12) (S := fun w' => w'.cell? ⟨gb273, 0, none⟩ = some (.int .i64 (wrap64 (rd l0 0))) ∧ w'.cell? ⟨gb273, 1, none⟩ = some (.int .i64 x276000_1) ∧ w'.cell? ⟨gb273, 2, none⟩ = some (.int .i64 x276001_1) ∧ w'.cell? ⟨gb273, 3, none⟩ = some (.int .i64 x276002_1) ∧ w'.cell? ⟨gb273, 4, none⟩ = some (.string x274004_117)) (ds := []) #[false, false, false, false, false, false, false, false, false, false, false, false] (by kernel_rfl) rfl rfl ⟨(blk_cell BK273.out 0).trans rfl, (blk_cell BK273.out 1).trans rfl, (blk_cell BK273.out 2).trans rfl, (blk_cell BK273.out 3).trans rfl, (blk_cell BK273.out 4).trans rfl⟩ (fun hHeld => ?_); refine with_tabW regletref23_One.tab22 regletref23_One.bits22 (fun HT_ HW_ => ?_)
            generalize wc.drew = w185 at BK272 BK273 BK275 HB hHeld ⊢
            refine take_ (i := 0) (N := some 103) (v := ?_) (a' := ?_) #[true, false, false, false, false, false, false, false, false, false, false, false] rfl rfl (take_ofW HT_.out HW_.out (by kernel_rfl)) (fun _ _ _ h => h) (Or.inl ⟨by rfl, ?_⟩) hHeld ?_ ?_
            rotate_left
            · rintro w' ⟨s0, s1, s2, s3, s4⟩
              go_simp
              with_reducible rfl
            rotate_left
            · simp only [Act.put, List.setIfInBounds_toArray, List.set_cons_zero, List.set_cons_succ, i64_w, i32_w]
              rfl
            refine one_ (i := 1) (N := some 104) #[true, true, false, false, false, false, false, false, false, false, false, false] rfl rfl (one_of HT_.out (by kernel_rfl)) (by decide) (fun K hK => ?_)
            refine goes_ Try.func8 (by kernel_rfl) rfl #[.agg #[.int .i64 (wrap64 (rd l0 0)), .int .i64 x276000_1, .int .i64 x276001_1, .int .i64 x276002_1, .string x274004_117]] (by rfl) rfl rfl (by (try simp only [List.map_toArray, List.map_cons, List.map_nil]); first | done | rfl | (simp only [List.length_drop, List.length_take]; rfl)) ?_
            with_reducible refine (regletref23_Right.calls kj117 (wrap64 (rd l0 0)) x276000_1 x276001_1 x276002_1 x274004_117 t294 _ A158.out).mono ?_
            rintro e w186 ⟨rfl, hb⟩
            refine ⟨_, rfl, ?_⟩
            have n0_ := Aside0.mk (blk_below (g := gb272) (o := .cells #[.int .i64 x273000_117, .int .i64 x273001_117, .int .i64 x273002_117, .int .i64 x273003_117, .string x273004_117] 30 (0, 0)) (by (with_reducible repeat (first | refine blk_drewN ?_ _ | refine blk_drew ?_ | refine blk_alloc ?_ _)); exact BK272.out) hb)
            have n1_ := Aside0.mk (blk_below (g := gb273) (o := .cells #[.int .i64 (wrap64 (rd l0 0)), .int .i64 x276000_1, .int .i64 x276001_1, .int .i64 x276002_1, .string x274004_117] 30 (0, 0)) (by (with_reducible repeat (first | refine blk_drewN ?_ _ | refine blk_drew ?_ | refine blk_alloc ?_ _)); exact BK273.out) hb)
            have n2_ := Aside0.mk (blk_below (g := gb275) (o := .cells #[.int .i64 x276000_1, .int .i64 x276001_1, .int .i64 x276002_1] 68 (0, 0)) (by (with_reducible repeat (first | refine blk_drewN ?_ _ | refine blk_drew ?_ | refine blk_alloc ?_ _)); exact BK275.out) hb)
            have n3_ := Aside0.mk (below_step (by repeat (first | (with_reducible first | exact HB.out | apply below_alloc | apply pw_below_drewN | apply below_drew1 | refine below_set ?_ GE272.out | refine below_set ?_ GE273.out | refine below_set ?_ GE275.out) | exact HB.out)) hb)
            clear BK272
            clear BK273
            clear BK275
            clear HB
            have BK272 := n0_
            have BK273 := n1_
            have BK275 := n2_
            have HB := n3_
            clear n0_ n1_ n2_ n3_
            (try clear hb)
            (try clear hb2)
            (try clear hk)
            (try clear hi)
            refine hK.out _ _ ⟨(blk_cell BK273.out 0).trans rfl, (blk_cell BK273.out 1).trans rfl, (blk_cell BK273.out 2).trans rfl, (blk_cell BK273.out 3).trans rfl, (blk_cell BK273.out 4).trans rfl⟩ (fun hHeld => ?_)
            clear hK K
            refine norm_ (a' := ?_) ?_ ?_
            rotate_left
            · show Act.put _ (some 104) _ = _
              simp only [Act.put, List.setIfInBounds_toArray, List.set_cons_zero, List.set_cons_succ, i64_w, i32_w]
              rfl
            refine pure_ (i := 2) (N := some 105) (v := ?_) (a' := ?_) #[true, true, true, false, false, false, false, false, false, false, false, false] rfl rfl (any_of HT_.out (by kernel_rfl)) (fun _ _ _ h => h) (Or.inl ⟨by rfl, ?_⟩) ?_ ?_
            rotate_left
            · intro w'
              go_simp
              with_reducible rfl
            rotate_left
            · simp only [Act.put, List.setIfInBounds_toArray, List.set_cons_zero, List.set_cons_succ, i64_w, i32_w]
              rfl
            refine pure_ (i := 3) (N := some 106) (v := ?_) (a' := ?_) #[true, true, true, true, false, false, false, false, false, false, false, false] rfl rfl (any_of HT_.out (by kernel_rfl)) (fun _ _ _ h => h) (Or.inl ⟨by rfl, ?_⟩) ?_ ?_
            rotate_left
            · intro w'
              go_simp
              with_reducible rfl
            rotate_left
            · simp only [Act.put, List.setIfInBounds_toArray, List.set_cons_zero, List.set_cons_succ, i64_w, i32_w]
              rfl
            refine pure_ (i := 4) (N := some 107) (v := undef) (a' := ?_) #[true, true, true, true, true, false, false, false, false, false, false, false] rfl rfl (any_of HT_.out (by kernel_rfl)) (fun _ _ _ h => h) (Or.inr ⟨by rfl, rfl⟩) ?_ ?_
            rotate_left
            · simp only [Act.put, List.setIfInBounds_toArray, List.set_cons_zero, List.set_cons_succ, i64_w, i32_w]
              rfl
            refine pure_ (i := 5) (N := some 108) (v := undef) (a' := ?_) #[true, true, true, true, true, true, false, false, false, false, false, false] rfl rfl (any_of HT_.out (by kernel_rfl)) (fun _ _ _ h => h) (Or.inr ⟨by rfl, rfl⟩) ?_ ?_
            rotate_left
            · simp only [Act.put, List.setIfInBounds_toArray, List.set_cons_zero, List.set_cons_succ, i64_w, i32_w]
              rfl
            refine pure_ (i := 6) (N := some 109) (v := undef) (a' := ?_) #[true, true, true, true, true, true, true, false, false, false, false, false] rfl rfl (any_of HT_.out (by kernel_rfl)) (fun _ _ _ h => h) (Or.inr ⟨by rfl, rfl⟩) ?_ ?_
            rotate_left
            · simp only [Act.put, List.setIfInBounds_toArray, List.set_cons_zero, List.set_cons_succ, i64_w, i32_w]
              rfl
            refine pure_ (i := 7) (N := some 110) (v := undef) (a' := ?_) #[true, true, true, true, true, true, true, true, false, false, false, false] rfl rfl (any_of HT_.out (by kernel_rfl)) (fun _ _ _ h => h) (Or.inr ⟨by rfl, rfl⟩) ?_ ?_
            rotate_left
            · simp only [Act.put, List.setIfInBounds_toArray, List.set_cons_zero, List.set_cons_succ, i64_w, i32_w]
              rfl
            refine pure_ (i := 8) (N := some 111) (v := undef) (a' := ?_) #[true, true, true, true, true, true, true, true, true, false, false, false] rfl rfl (any_of HT_.out (by kernel_rfl)) (fun _ _ _ h => h) (Or.inr ⟨by rfl, rfl⟩) ?_ ?_
            rotate_left
            · simp only [Act.put, List.setIfInBounds_toArray, List.set_cons_zero, List.set_cons_succ, i64_w, i32_w]
              rfl
            refine pure_ (i := 9) (N := some 112) (v := undef) (a' := ?_) #[true, true, true, true, true, true, true, true, true, true, false, false] rfl rfl (any_of HT_.out (by kernel_rfl)) (fun _ _ _ h => h) (Or.inr ⟨by rfl, rfl⟩) ?_ ?_
            rotate_left
            · simp only [Act.put, List.setIfInBounds_toArray, List.set_cons_zero, List.set_cons_succ, i64_w, i32_w]
              rfl
            refine pure_ (i := 10) (N := some 113) (v := undef) (a' := ?_) #[true, true, true, true, true, true, true, true, true, true, true, false] rfl rfl (any_of HT_.out (by kernel_rfl)) (fun _ _ _ h => h) (Or.inr ⟨by rfl, rfl⟩) ?_ ?_
            rotate_left
            · simp only [Act.put, List.setIfInBounds_toArray, List.set_cons_zero, List.set_cons_succ, i64_w, i32_w]
              rfl
            refine pure_ (i := 11) (N := some 114) (v := ?_) (a' := ?_) #[true, true, true, true, true, true, true, true, true, true, true, true] rfl rfl (any_of HT_.out (by kernel_rfl)) (fun _ _ _ h => h) (Or.inl ⟨by rfl, ?_⟩) ?_ ?_
            rotate_left
            · intro w'
              go_simp
              with_reducible rfl
            rotate_left
            · simp only [Act.put, List.setIfInBounds_toArray, List.set_cons_zero, List.set_cons_succ, i64_w, i32_w]
              rfl
            refine done_ (done_of HT_.out (by kernel_rfl)) ?_
            have hnb187 := NB273_272.out
            have hnc187 := NB272_273.out
            have hnb188 := NB273_275.out
            have hnc188 := NB275_273.out
            have hcz189_0 : w186.cell? ⟨gb273, 0, none⟩ = some (.int .i64 (wrap64 (rd l0 0))) := (blk_cell BK273.out 0).trans rfl
            have hcz189_1 : w186.cell? ⟨gb273, 1, none⟩ = some (.int .i64 x276000_1) := (blk_cell BK273.out 1).trans rfl
            have hcz189_2 : w186.cell? ⟨gb273, 2, none⟩ = some (.int .i64 x276001_1) := (blk_cell BK273.out 2).trans rfl
            have hcz189_3 : w186.cell? ⟨gb273, 3, none⟩ = some (.int .i64 x276002_1) := (blk_cell BK273.out 3).trans rfl
            have hcz189_4 : w186.cell? ⟨gb273, 4, none⟩ = some (.string x274004_117) := (blk_cell BK273.out 4).trans rfl
            have hfz189_0 := blk_frozen BK273.out 0
            have hfz189_1 := blk_frozen BK273.out 1
            have hfz189_2 := blk_frozen BK273.out 2
            have hfz189_3 := blk_frozen BK273.out 3
            have hfz189_4 := blk_frozen BK273.out 4
            have hnb190 := NB272_275.out
            have hnc190 := NB275_272.out
            have hcz191_0 : w186.cell? ⟨gb272, 0, none⟩ = some (.int .i64 x273000_117) := (blk_cell BK272.out 0).trans rfl
            have hcz191_1 : w186.cell? ⟨gb272, 1, none⟩ = some (.int .i64 x273001_117) := (blk_cell BK272.out 1).trans rfl
            have hcz191_2 : w186.cell? ⟨gb272, 2, none⟩ = some (.int .i64 x273002_117) := (blk_cell BK272.out 2).trans rfl
            have hcz191_3 : w186.cell? ⟨gb272, 3, none⟩ = some (.int .i64 x273003_117) := (blk_cell BK272.out 3).trans rfl
            have hcz191_4 : w186.cell? ⟨gb272, 4, none⟩ = some (.string x273004_117) := (blk_cell BK272.out 4).trans rfl
            have hfz191_0 := blk_frozen BK272.out 0
            have hfz191_1 := blk_frozen BK272.out 1
            have hfz191_2 := blk_frozen BK272.out 2
            have hfz191_3 := blk_frozen BK272.out 3
            have hfz191_4 := blk_frozen BK272.out 4
            try go_wp2
            refine bodyPost_ret (results_ct rfl _ _ gb272 30 #[.int .i64 (wrap64 (rd l0 0)), .int .i64 x276000_1, .int .i64 x276001_1, .int .i64 x276002_1, .string x274004_117] (0, 0) _ rfl (by (with_reducible repeat (first | refine blk_drewN ?_ _ | refine blk_drew ?_ | refine blk_alloc ?_ _)); refine blk_put (cs := #[.int .i64 (wrap64 (rd l0 0)), .int .i64 x276000_1, .int .i64 x276001_1, .int .i64 x276002_1, .string x273004_117]) ?_ 4 _ rfl; (with_reducible repeat (first | refine blk_drewN ?_ _ | refine blk_drew ?_ | refine blk_alloc ?_ _)); refine blk_put (cs := #[.int .i64 (wrap64 (rd l0 0)), .int .i64 x276000_1, .int .i64 x276001_1, .int .i64 x273003_117, .string x273004_117]) ?_ 3 _ rfl; (with_reducible repeat (first | refine blk_drewN ?_ _ | refine blk_drew ?_ | refine blk_alloc ?_ _)); refine blk_put (cs := #[.int .i64 (wrap64 (rd l0 0)), .int .i64 x276000_1, .int .i64 x273002_117, .int .i64 x273003_117, .string x273004_117]) ?_ 2 _ rfl; (with_reducible repeat (first | refine blk_drewN ?_ _ | refine blk_drew ?_ | refine blk_alloc ?_ _)); refine blk_put (cs := #[.int .i64 (wrap64 (rd l0 0)), .int .i64 x273001_117, .int .i64 x273002_117, .int .i64 x273003_117, .string x273004_117]) ?_ 1 _ rfl; (with_reducible repeat (first | refine blk_drewN ?_ _ | refine blk_drew ?_ | refine blk_alloc ?_ _)); refine blk_put (cs := #[.int .i64 x273000_117, .int .i64 x273001_117, .int .i64 x273002_117, .int .i64 x273003_117, .string x273004_117]) ?_ 0 _ rfl; (with_reducible repeat (first | refine blk_drewN ?_ _ | refine blk_drew ?_ | refine blk_alloc ?_ _)); exact BK272.out) Try.underlying30 rfl (by kernel_rfl)) rfl ?_
            exact ⟨by first | rfl | (simp [errW_none, errW_some] <;> rfl) | (simp [*, errW_none, errW_some] <;> rfl), by repeat (first | (with_reducible first | exact HB.out | apply below_alloc | apply pw_below_drewN | apply below_drew1 | refine below_set ?_ GE272.out | refine below_set ?_ GE273.out | refine below_set ?_ GE275.out) | exact HB.out)⟩
          rw [if_pos c159] at H
          have c159b0 : (t294 == 0) = true := beq_iff_eq.mpr c159
          have c159b1 : (t294 != 0) = false := bne_eq_false_iff_eq.mpr c159
          clear c159
          replace H := Option.bind_eq_some_iff.mp H
          obtain ⟨t295, A1600, H⟩ := H
          replace H : (if 0 ≤ x6_117 then (if x6_117 ≤ (l0.length : Int) then ((regletref23_same.f t295 (l0.take (x6_117 : Int).toNat)).bind fun t299 => (if t299 = true then (some ((wrap64 (rd l0 0)), x276000_1, x276001_1, x276002_1, x274004_117, x6_117)) else (some ((wrap64 (rd l0 0)), x276000_1, x276001_1, x276002_1, x274004_117, 0)))) else (none)) else (none)) = some (r1, r2, r3, r4, r5, r6) := H
          have A160 := Aside0.mk A1600
          clear A1600
          by_cases c161 : 0 ≤ x6_117
          rotate_left
          · rw [if_neg c161] at H
            exact absurd H (by simp)
          rw [if_pos c161] at H
          have c161b0 := eq_true c161
          have c161b1 : decide (0 ≤ x6_117) = true := decide_eq_true c161
          clear c161
          by_cases c162 : x6_117 ≤ (l0.length : Int)
          rotate_left
          · rw [if_neg c162] at H
            exact absurd H (by simp)
          rw [if_pos c162] at H
          have c162b0 := eq_true c162
          have c162b1 : decide (x6_117 ≤ (l0.length : Int)) = true := decide_eq_true c162
          clear c162
          replace H := Option.bind_eq_some_iff.mp H
          obtain ⟨t299, A1630, H⟩ := H
          replace H : (if t299 = true then (some ((wrap64 (rd l0 0)), x276000_1, x276001_1, x276002_1, x274004_117, x6_117)) else (some ((wrap64 (rd l0 0)), x276000_1, x276001_1, x276002_1, x274004_117, 0))) = some (r1, r2, r3, r4, r5, r6) := H
          have A163 := Aside0.mk A1630
          clear A1630
          by_cases c164 : t299 = true
          · subst c164
            have H1 : (some ((wrap64 (rd l0 0)), x276000_1, x276001_1, x276002_1, x274004_117, x6_117)) = some (r1, r2, r3, r4, r5, r6) := by rw [if_pos rfl] at H; exact H
            clear H
            have H := H1
            clear H1
            simp only [Option.some.injEq, Prod.mk.injEq] at H
            obtain ⟨rfl, rfl, rfl, rfl, rfl, rfl⟩ := H
            try go_wp2
            have n0_ := Aside0.mk (blk_drew BK272.out)
            have n1_ := Aside0.mk (blk_drew BK273.out)
            have n2_ := Aside0.mk (blk_drew BK275.out)
            have n3_ := Aside0.mk (below_drew1 HB.out)
            clear BK272
            clear BK273
            clear BK275
            clear HB
            have BK272 := n0_
            have BK273 := n1_
            have BK275 := n2_
            have HB := n3_
            clear n0_ n1_ n2_ n3_
            obtain ⟨i0168, hi0168, _, hsz168, _⟩ := info_parts info5
            obtain ⟨hcut168, hA168, hC168⟩ := print_take_of (P := Try.prog) (Value.int .u8) 0 22 5 .i64 Try.underlying22 hi0168 hsz168 (some ad274) c0 l0 x6_117 (of_decide_eq_true (by first | (with_reducible assumption) | assumption)) (of_decide_eq_true (by first | (with_reducible assumption) | assumption)) HC0.out
            have HR298 := Aside0.mk (Kd.C_of_reads (h1 := fun _ => rfl) (hA168 _ (Kd.reads_of_C HR0.out)))
            have HC298 := Aside0.mk hC168
            clear hA168 hC168 hi0168 hsz168
            refine start_ (n := 12) (S := fun w' => w'.cell? ⟨gb273, 0, none⟩ = some (.int .i64 (wrap64 (rd l0 0))) ∧ w'.cell? ⟨gb273, 1, none⟩ = some (.int .i64 x276000_1) ∧ w'.cell? ⟨gb273, 2, none⟩ = some (.int .i64 x276001_1) ∧ w'.cell? ⟨gb273, 3, none⟩ = some (.int .i64 x276002_1) ∧ w'.cell? ⟨gb273, 4, none⟩ = some (.string x274004_117)) (ds := []) #[false, false, false, false, false, false, false, false, false, false, false, false] (by kernel_rfl) rfl rfl ⟨(blk_cell BK273.out 0).trans rfl, (blk_cell BK273.out 1).trans rfl, (blk_cell BK273.out 2).trans rfl, (blk_cell BK273.out 3).trans rfl, (blk_cell BK273.out 4).trans rfl⟩ (fun hHeld => ?_); refine with_tabW regletref23_One.tab22 regletref23_One.bits22 (fun HT_ HW_ => ?_)
            generalize wc.drew = w165 at BK272 BK273 BK275 HB HR298 hHeld ⊢
            refine take_ (i := 0) (N := some 103) (v := ?_) (a' := ?_) #[true, false, false, false, false, false, false, false, false, false, false, false] rfl rfl (take_ofW HT_.out HW_.out (by kernel_rfl)) (fun _ _ _ h => h) (Or.inl ⟨by rfl, ?_⟩) hHeld ?_ ?_
            rotate_left
            · rintro w' ⟨s0, s1, s2, s3, s4⟩
              go_simp
              with_reducible rfl
            rotate_left
            · simp only [Act.put, List.setIfInBounds_toArray, List.set_cons_zero, List.set_cons_succ, i64_w, i32_w]
              rfl
            refine one_ (i := 1) (N := some 104) #[true, true, false, false, false, false, false, false, false, false, false, false] rfl rfl (one_of HT_.out (by kernel_rfl)) (by decide) (fun K hK => ?_)
            refine goes_ Try.func8 (by kernel_rfl) rfl #[.agg #[.int .i64 (wrap64 (rd l0 0)), .int .i64 x276000_1, .int .i64 x276001_1, .int .i64 x276002_1, .string x274004_117]] (by rfl) rfl rfl (by (try simp only [List.map_toArray, List.map_cons, List.map_nil]); first | done | rfl | (simp only [List.length_drop, List.length_take]; rfl)) ?_
            with_reducible refine (regletref23_Right.calls kj117 (wrap64 (rd l0 0)) x276000_1 x276001_1 x276002_1 x274004_117 t294 _ A158.out).mono ?_
            rintro e w166 ⟨rfl, hb⟩
            refine ⟨_, rfl, ?_⟩
            have n0_ := Aside0.mk (blk_below (g := gb272) (o := .cells #[.int .i64 x273000_117, .int .i64 x273001_117, .int .i64 x273002_117, .int .i64 x273003_117, .string x273004_117] 30 (0, 0)) (by (with_reducible repeat (first | refine blk_drewN ?_ _ | refine blk_drew ?_ | refine blk_alloc ?_ _)); exact BK272.out) hb)
            have n1_ := Aside0.mk (blk_below (g := gb273) (o := .cells #[.int .i64 (wrap64 (rd l0 0)), .int .i64 x276000_1, .int .i64 x276001_1, .int .i64 x276002_1, .string x274004_117] 30 (0, 0)) (by (with_reducible repeat (first | refine blk_drewN ?_ _ | refine blk_drew ?_ | refine blk_alloc ?_ _)); exact BK273.out) hb)
            have n2_ := Aside0.mk (blk_below (g := gb275) (o := .cells #[.int .i64 x276000_1, .int .i64 x276001_1, .int .i64 x276002_1] 68 (0, 0)) (by (with_reducible repeat (first | refine blk_drewN ?_ _ | refine blk_drew ?_ | refine blk_alloc ?_ _)); exact BK275.out) hb)
            have n3_ := Aside0.mk (below_step (by repeat (first | (with_reducible first | exact HB.out | apply below_alloc | apply pw_below_drewN | apply below_drew1 | refine below_set ?_ GE272.out | refine below_set ?_ GE273.out | refine below_set ?_ GE275.out) | exact HB.out)) hb)
            clear BK272
            clear BK273
            clear BK275
            clear HB
            have BK272 := n0_
            have BK273 := n1_
            have BK275 := n2_
            have HB := n3_
            clear n0_ n1_ n2_ n3_
            (try clear hb)
            (try clear hb2)
            (try clear hk)
            (try clear hi)
            refine hK.out _ _ ⟨(blk_cell BK273.out 0).trans rfl, (blk_cell BK273.out 1).trans rfl, (blk_cell BK273.out 2).trans rfl, (blk_cell BK273.out 3).trans rfl, (blk_cell BK273.out 4).trans rfl⟩ (fun hHeld => ?_)
            clear hK K
            refine norm_ (a' := ?_) ?_ ?_
            rotate_left
            · show Act.put _ (some 104) _ = _
              simp only [Act.put, List.setIfInBounds_toArray, List.set_cons_zero, List.set_cons_succ, i64_w, i32_w]
              rfl
            refine pure_ (i := 2) (N := some 105) (v := ?_) (a' := ?_) #[true, true, true, false, false, false, false, false, false, false, false, false] rfl rfl (any_of HT_.out (by kernel_rfl)) (fun _ _ _ h => h) (Or.inl ⟨by rfl, ?_⟩) ?_ ?_
            rotate_left
            · intro w'
              go_simp
              with_reducible rfl
            rotate_left
            · simp only [Act.put, List.setIfInBounds_toArray, List.set_cons_zero, List.set_cons_succ, i64_w, i32_w]
              rfl
            refine pure_ (i := 3) (N := some 106) (v := ?_) (a' := ?_) #[true, true, true, true, false, false, false, false, false, false, false, false] rfl rfl (any_of HT_.out (by kernel_rfl)) (fun _ _ _ h => h) (Or.inl ⟨by rfl, ?_⟩) ?_ ?_
            rotate_left
            · intro w'
              go_simp
              with_reducible rfl
            rotate_left
            · simp only [Act.put, List.setIfInBounds_toArray, List.set_cons_zero, List.set_cons_succ, i64_w, i32_w]
              rfl
            refine pure_ (i := 6) (N := some 109) (v := ?_) (a' := ?_) #[true, true, true, true, false, false, true, false, false, false, false, false] rfl rfl (any_of HT_.out (by kernel_rfl)) (fun _ _ _ h => h) (Or.inl ⟨by rfl, ?_⟩) ?_ ?_
            rotate_left
            · intro w'
              go_simp
              with_reducible rfl
            rotate_left
            · simp only [Act.put, List.setIfInBounds_toArray, List.set_cons_zero, List.set_cons_succ, i64_w, i32_w]
              rfl
            refine pure_ (i := 7) (N := some 110) (v := ?_) (a' := ?_) #[true, true, true, true, false, false, true, true, false, false, false, false] rfl rfl (any_of HT_.out (by kernel_rfl)) (fun _ _ _ h => h) (Or.inl ⟨by rfl, ?_⟩) ?_ ?_
            rotate_left
            · intro w'
              go_simp
              with_reducible rfl
            rotate_left
            · simp only [Act.put, List.setIfInBounds_toArray, List.set_cons_zero, List.set_cons_succ, i64_w, i32_w]
              rfl
            refine pure_ (i := 8) (N := some 111) (v := ?_) (a' := ?_) #[true, true, true, true, false, false, true, true, true, false, false, false] rfl rfl (any_of HT_.out (by kernel_rfl)) (fun _ _ _ h => h) (Or.inl ⟨by rfl, ?_⟩) ?_ ?_
            rotate_left
            · intro w'
              go_simp
              with_reducible rfl
            rotate_left
            · simp only [Act.put, List.setIfInBounds_toArray, List.set_cons_zero, List.set_cons_succ, i64_w, i32_w]
              rfl
            refine take_ (i := 4) (N := some 107) (v := ?_) (a' := ?_) #[true, true, true, true, true, false, true, true, true, false, false, false] rfl rfl (take_ofW HT_.out HW_.out (by kernel_rfl)) (fun _ _ _ h => h) (Or.inl ⟨by rfl, ?_⟩) hHeld ?_ ?_
            rotate_left
            · rintro w' ⟨s0, s1, s2, s3, s4⟩
              go_simp
              with_reducible rfl
            rotate_left
            · simp only [Act.put, List.setIfInBounds_toArray, List.set_cons_zero, List.set_cons_succ, i64_w, i32_w]
              rfl
            refine one_ (i := 5) (N := some 108) #[true, true, true, true, true, true, true, true, true, false, false, false] rfl rfl (one_of HT_.out (by kernel_rfl)) (by decide) (fun K hK => ?_)
            refine goes_ Try.func11 (by kernel_rfl) rfl #[.agg #[.int .i64 (wrap64 (rd l0 0)), .int .i64 x276000_1, .int .i64 x276001_1, .int .i64 x276002_1, .string x274004_117]] (by rfl) rfl rfl (by (try simp only [List.map_toArray, List.map_cons, List.map_nil]); first | done | rfl | (simp only [List.length_drop, List.length_take]; rfl)) ?_
            with_reducible refine (regletref23_Bytes.calls kj117 (wrap64 (rd l0 0)) x276000_1 x276001_1 x276002_1 x274004_117 t295 _ A160.out).mono ?_
            rintro e w167 ⟨v296, rfl, ho0, hb⟩
            refine ⟨_, rfl, ?_⟩
            have n0_ := Aside0.mk (Kd.R_lower ho0 (below_size (by repeat (first | (with_reducible first | exact HB.out | apply below_alloc | apply pw_below_drewN | apply below_drew1 | refine below_set ?_ GE272.out | refine below_set ?_ GE273.out | refine below_set ?_ GE275.out) | exact HB.out))))
            have n1_ := Aside0.mk (blk_below (g := gb272) (o := .cells #[.int .i64 x273000_117, .int .i64 x273001_117, .int .i64 x273002_117, .int .i64 x273003_117, .string x273004_117] 30 (0, 0)) (by (with_reducible repeat (first | refine blk_drewN ?_ _ | refine blk_drew ?_ | refine blk_alloc ?_ _)); exact BK272.out) hb)
            have n2_ := Aside0.mk (blk_below (g := gb273) (o := .cells #[.int .i64 (wrap64 (rd l0 0)), .int .i64 x276000_1, .int .i64 x276001_1, .int .i64 x276002_1, .string x274004_117] 30 (0, 0)) (by (with_reducible repeat (first | refine blk_drewN ?_ _ | refine blk_drew ?_ | refine blk_alloc ?_ _)); exact BK273.out) hb)
            have n3_ := Aside0.mk (blk_below (g := gb275) (o := .cells #[.int .i64 x276000_1, .int .i64 x276001_1, .int .i64 x276002_1] 68 (0, 0)) (by (with_reducible repeat (first | refine blk_drewN ?_ _ | refine blk_drew ?_ | refine blk_alloc ?_ _)); exact BK275.out) hb)
            have n4_ := Aside0.mk (below_step (by repeat (first | (with_reducible first | exact HB.out | apply below_alloc | apply pw_below_drewN | apply below_drew1 | refine below_set ?_ GE272.out | refine below_set ?_ GE273.out | refine below_set ?_ GE275.out) | exact HB.out)) hb)
            clear BK272
            clear BK273
            clear BK275
            clear HB
            have HO297 := n0_
            have BK272 := n1_
            have BK273 := n2_
            have BK275 := n3_
            have HB := n4_
            clear n0_ n1_ n2_ n3_ n4_
            (try clear hb)
            (try clear hb2)
            (try clear hk)
            (try clear hi)
            (try clear ho0)
            obtain ⟨Ao169, co169, eo169⟩ := Kd.R_slice HO297.out
            (first | subst eo169 | (injection eo169 with f1_ f2_ f3_; have f4_ := f1_.symm; have f5_ := f3_.symm; clear f1_ f2_ f3_; subst f4_; subst f5_))
            refine hK.out _ _ ⟨(blk_cell BK273.out 0).trans rfl, (blk_cell BK273.out 1).trans rfl, (blk_cell BK273.out 2).trans rfl, (blk_cell BK273.out 3).trans rfl, (blk_cell BK273.out 4).trans rfl⟩ (fun hHeld => ?_)
            clear hK K
            refine norm_ (a' := ?_) ?_ ?_
            rotate_left
            · show Act.put _ (some 108) _ = _
              simp only [Act.put, List.setIfInBounds_toArray, List.set_cons_zero, List.set_cons_succ, i64_w, i32_w]
              rfl
            refine one_ (i := 9) (N := some 112) #[true, true, true, true, true, true, true, true, true, true, false, false] rfl rfl (one_of HT_.out (by kernel_rfl)) (by decide) (fun K hK => ?_)
            refine goes_ Try.func37 (by kernel_rfl) rfl #[.slice Ao169 t295.length co169, .slice (some ad274) (l0.take (x6_117 : Int).toNat).length c0] (by rfl) rfl rfl (by (try simp only [List.map_toArray, List.map_cons, List.map_nil]); first | done | (rw [show (l0.take (x6_117 : Int).toNat).length = x6_117.toNat from (by rw [List.length_take]; have h_ : (x6_117 : Int) ≤ (l0.length : Int) := of_decide_eq_true (by first | (with_reducible assumption) | assumption); omega)] <;> rfl) | rfl | (simp only [List.length_drop, List.length_take]; rfl)) ?_
            with_reducible refine (regletref23_same.calls _ _ t295 _ _ (l0.take (x6_117 : Int).toNat) true _ ?side1 ?side2 ?side3 ?side4 A163.out).mono ?_
            (case side1 => repeat (first | exact (Kd.R_reads' HO297.out).2.2 | (with_reducible refine Kd.C_alloc ?_ _) | (with_reducible refine Kd.C_drewN ?_ _) | (with_reducible refine Kd.C_drew ?_)))
            (case side2 => exact (Kd.R_reads' HO297.out).2.1)
            (case side3 => repeat (first | exact (Kd.C_below HR298.out HB.out) | (with_reducible refine Kd.C_alloc ?_ _) | (with_reducible refine Kd.C_drewN ?_ _) | (with_reducible refine Kd.C_drew ?_)))
            (case side4 => exact HC298.out)
            rintro e w' ⟨rfl, ⟨nd, rfl⟩⟩
            refine ⟨_, rfl, ?_⟩
            refine hK.out _ _ ⟨(blk_cell BK273.out 0).trans rfl, (blk_cell BK273.out 1).trans rfl, (blk_cell BK273.out 2).trans rfl, (blk_cell BK273.out 3).trans rfl, (blk_cell BK273.out 4).trans rfl⟩ (fun hHeld => ?_)
            clear hK K
            refine norm_ (a' := ?_) ?_ ?_
            rotate_left
            · show Act.put _ (some 112) _ = _
              simp only [Act.put, List.setIfInBounds_toArray, List.set_cons_zero, List.set_cons_succ, i64_w, i32_w]
              rfl
            refine pure_ (i := 10) (N := some 113) (v := ?_) (a' := ?_) #[true, true, true, true, true, true, true, true, true, true, true, false] rfl rfl (any_of HT_.out (by kernel_rfl)) (fun _ _ _ h => h) (Or.inl ⟨by rfl, ?_⟩) ?_ ?_
            rotate_left
            · intro w'
              go_simp
              with_reducible rfl
            rotate_left
            · simp only [Act.put, List.setIfInBounds_toArray, List.set_cons_zero, List.set_cons_succ, i64_w, i32_w]
              rfl
            refine pure_ (i := 11) (N := some 114) (v := ?_) (a' := ?_) #[true, true, true, true, true, true, true, true, true, true, true, true] rfl rfl (any_of HT_.out (by kernel_rfl)) (fun _ _ _ h => h) (Or.inl ⟨by rfl, ?_⟩) ?_ ?_
            rotate_left
            · intro w'
              go_simp
              with_reducible rfl
            rotate_left
            · simp only [Act.put, List.setIfInBounds_toArray, List.set_cons_zero, List.set_cons_succ, i64_w, i32_w]
              rfl
            refine done_ (done_of HT_.out (by kernel_rfl)) ?_
            have hnb170 := NB273_272.out
            have hnc170 := NB272_273.out
            have hnb171 := NB273_275.out
            have hnc171 := NB275_273.out
            have hcz172_0 : w167.cell? ⟨gb273, 0, none⟩ = some (.int .i64 (wrap64 (rd l0 0))) := (blk_cell BK273.out 0).trans rfl
            have hcz172_1 : w167.cell? ⟨gb273, 1, none⟩ = some (.int .i64 x276000_1) := (blk_cell BK273.out 1).trans rfl
            have hcz172_2 : w167.cell? ⟨gb273, 2, none⟩ = some (.int .i64 x276001_1) := (blk_cell BK273.out 2).trans rfl
            have hcz172_3 : w167.cell? ⟨gb273, 3, none⟩ = some (.int .i64 x276002_1) := (blk_cell BK273.out 3).trans rfl
            have hcz172_4 : w167.cell? ⟨gb273, 4, none⟩ = some (.string x274004_117) := (blk_cell BK273.out 4).trans rfl
            have hfz172_0 := blk_frozen BK273.out 0
            have hfz172_1 := blk_frozen BK273.out 1
            have hfz172_2 := blk_frozen BK273.out 2
            have hfz172_3 := blk_frozen BK273.out 3
            have hfz172_4 := blk_frozen BK273.out 4
            have hnb173 := NB272_275.out
            have hnc173 := NB275_272.out
            have hcz174_0 : w167.cell? ⟨gb272, 0, none⟩ = some (.int .i64 x273000_117) := (blk_cell BK272.out 0).trans rfl
            have hcz174_1 : w167.cell? ⟨gb272, 1, none⟩ = some (.int .i64 x273001_117) := (blk_cell BK272.out 1).trans rfl
            have hcz174_2 : w167.cell? ⟨gb272, 2, none⟩ = some (.int .i64 x273002_117) := (blk_cell BK272.out 2).trans rfl
            have hcz174_3 : w167.cell? ⟨gb272, 3, none⟩ = some (.int .i64 x273003_117) := (blk_cell BK272.out 3).trans rfl
            have hcz174_4 : w167.cell? ⟨gb272, 4, none⟩ = some (.string x273004_117) := (blk_cell BK272.out 4).trans rfl
            have hfz174_0 := blk_frozen BK272.out 0
            have hfz174_1 := blk_frozen BK272.out 1
            have hfz174_2 := blk_frozen BK272.out 2
            have hfz174_3 := blk_frozen BK272.out 3
            have hfz174_4 := blk_frozen BK272.out 4
            try go_wp2
            refine bodyPost_ret (results_ct rfl _ _ gb272 30 #[.int .i64 (wrap64 (rd l0 0)), .int .i64 x276000_1, .int .i64 x276001_1, .int .i64 x276002_1, .string x274004_117] (0, 0) _ rfl (by (with_reducible repeat (first | refine blk_drewN ?_ _ | refine blk_drew ?_ | refine blk_alloc ?_ _)); refine blk_put (cs := #[.int .i64 (wrap64 (rd l0 0)), .int .i64 x276000_1, .int .i64 x276001_1, .int .i64 x276002_1, .string x273004_117]) ?_ 4 _ rfl; (with_reducible repeat (first | refine blk_drewN ?_ _ | refine blk_drew ?_ | refine blk_alloc ?_ _)); refine blk_put (cs := #[.int .i64 (wrap64 (rd l0 0)), .int .i64 x276000_1, .int .i64 x276001_1, .int .i64 x273003_117, .string x273004_117]) ?_ 3 _ rfl; (with_reducible repeat (first | refine blk_drewN ?_ _ | refine blk_drew ?_ | refine blk_alloc ?_ _)); refine blk_put (cs := #[.int .i64 (wrap64 (rd l0 0)), .int .i64 x276000_1, .int .i64 x273002_117, .int .i64 x273003_117, .string x273004_117]) ?_ 2 _ rfl; (with_reducible repeat (first | refine blk_drewN ?_ _ | refine blk_drew ?_ | refine blk_alloc ?_ _)); refine blk_put (cs := #[.int .i64 (wrap64 (rd l0 0)), .int .i64 x273001_117, .int .i64 x273002_117, .int .i64 x273003_117, .string x273004_117]) ?_ 1 _ rfl; (with_reducible repeat (first | refine blk_drewN ?_ _ | refine blk_drew ?_ | refine blk_alloc ?_ _)); refine blk_put (cs := #[.int .i64 x273000_117, .int .i64 x273001_117, .int .i64 x273002_117, .int .i64 x273003_117, .string x273004_117]) ?_ 0 _ rfl; (with_reducible repeat (first | refine blk_drewN ?_ _ | refine blk_drew ?_ | refine blk_alloc ?_ _)); exact BK272.out) Try.underlying30 rfl (by kernel_rfl)) rfl ?_
            exact ⟨by first | rfl | (simp [errW_none, errW_some] <;> rfl) | (simp [*, errW_none, errW_some] <;> rfl), by repeat (first | (with_reducible first | exact HB.out | apply below_alloc | apply pw_below_drewN | apply below_drew1 | refine below_set ?_ GE272.out | refine below_set ?_ GE273.out | refine below_set ?_ GE275.out) | exact HB.out)⟩
          replace c164 := Bool.eq_false_iff.mpr c164
          subst c164
          have H1 : (some ((wrap64 (rd l0 0)), x276000_1, x276001_1, x276002_1, x274004_117, 0)) = some (r1, r2, r3, r4, r5, r6) := by rw [if_neg (show ¬ (false = true) by decide)] at H; exact H
          clear H
          have H := H1
          clear H1
          simp only [Option.some.injEq, Prod.mk.injEq] at H
          obtain ⟨rfl, rfl, rfl, rfl, rfl, rfl⟩ := H
          try go_wp2
          have n0_ := Aside0.mk (blk_drew BK272.out)
          have n1_ := Aside0.mk (blk_drew BK273.out)
          have n2_ := Aside0.mk (blk_drew BK275.out)
          have n3_ := Aside0.mk (below_drew1 HB.out)
          clear BK272
          clear BK273
          clear BK275
          clear HB
          have BK272 := n0_
          have BK273 := n1_
          have BK275 := n2_
          have HB := n3_
          clear n0_ n1_ n2_ n3_
          obtain ⟨i0178, hi0178, _, hsz178, _⟩ := info_parts info5
          obtain ⟨hcut178, hA178, hC178⟩ := print_take_of (P := Try.prog) (Value.int .u8) 0 22 5 .i64 Try.underlying22 hi0178 hsz178 (some ad274) c0 l0 x6_117 (of_decide_eq_true (by first | (with_reducible assumption) | assumption)) (of_decide_eq_true (by first | (with_reducible assumption) | assumption)) HC0.out
          have HR298 := Aside0.mk (Kd.C_of_reads (h1 := fun _ => rfl) (hA178 _ (Kd.reads_of_C HR0.out)))
          have HC298 := Aside0.mk hC178
          clear hA178 hC178 hi0178 hsz178
          refine start_ (n := 12) (S := fun w' => w'.cell? ⟨gb273, 0, none⟩ = some (.int .i64 (wrap64 (rd l0 0))) ∧ w'.cell? ⟨gb273, 1, none⟩ = some (.int .i64 x276000_1) ∧ w'.cell? ⟨gb273, 2, none⟩ = some (.int .i64 x276001_1) ∧ w'.cell? ⟨gb273, 3, none⟩ = some (.int .i64 x276002_1) ∧ w'.cell? ⟨gb273, 4, none⟩ = some (.string x274004_117)) (ds := []) #[false, false, false, false, false, false, false, false, false, false, false, false] (by kernel_rfl) rfl rfl ⟨(blk_cell BK273.out 0).trans rfl, (blk_cell BK273.out 1).trans rfl, (blk_cell BK273.out 2).trans rfl, (blk_cell BK273.out 3).trans rfl, (blk_cell BK273.out 4).trans rfl⟩ (fun hHeld => ?_); refine with_tabW regletref23_One.tab22 regletref23_One.bits22 (fun HT_ HW_ => ?_)
          generalize wc.drew = w175 at BK272 BK273 BK275 HB HR298 hHeld ⊢
          refine take_ (i := 0) (N := some 103) (v := ?_) (a' := ?_) #[true, false, false, false, false, false, false, false, false, false, false, false] rfl rfl (take_ofW HT_.out HW_.out (by kernel_rfl)) (fun _ _ _ h => h) (Or.inl ⟨by rfl, ?_⟩) hHeld ?_ ?_
          rotate_left
          · rintro w' ⟨s0, s1, s2, s3, s4⟩
            go_simp
            with_reducible rfl
          rotate_left
          · simp only [Act.put, List.setIfInBounds_toArray, List.set_cons_zero, List.set_cons_succ, i64_w, i32_w]
            rfl
          refine one_ (i := 1) (N := some 104) #[true, true, false, false, false, false, false, false, false, false, false, false] rfl rfl (one_of HT_.out (by kernel_rfl)) (by decide) (fun K hK => ?_)
          refine goes_ Try.func8 (by kernel_rfl) rfl #[.agg #[.int .i64 (wrap64 (rd l0 0)), .int .i64 x276000_1, .int .i64 x276001_1, .int .i64 x276002_1, .string x274004_117]] (by rfl) rfl rfl (by (try simp only [List.map_toArray, List.map_cons, List.map_nil]); first | done | rfl | (simp only [List.length_drop, List.length_take]; rfl)) ?_
          with_reducible refine (regletref23_Right.calls kj117 (wrap64 (rd l0 0)) x276000_1 x276001_1 x276002_1 x274004_117 t294 _ A158.out).mono ?_
          rintro e w176 ⟨rfl, hb⟩
          refine ⟨_, rfl, ?_⟩
          have n0_ := Aside0.mk (blk_below (g := gb272) (o := .cells #[.int .i64 x273000_117, .int .i64 x273001_117, .int .i64 x273002_117, .int .i64 x273003_117, .string x273004_117] 30 (0, 0)) (by (with_reducible repeat (first | refine blk_drewN ?_ _ | refine blk_drew ?_ | refine blk_alloc ?_ _)); exact BK272.out) hb)
          have n1_ := Aside0.mk (blk_below (g := gb273) (o := .cells #[.int .i64 (wrap64 (rd l0 0)), .int .i64 x276000_1, .int .i64 x276001_1, .int .i64 x276002_1, .string x274004_117] 30 (0, 0)) (by (with_reducible repeat (first | refine blk_drewN ?_ _ | refine blk_drew ?_ | refine blk_alloc ?_ _)); exact BK273.out) hb)
          have n2_ := Aside0.mk (blk_below (g := gb275) (o := .cells #[.int .i64 x276000_1, .int .i64 x276001_1, .int .i64 x276002_1] 68 (0, 0)) (by (with_reducible repeat (first | refine blk_drewN ?_ _ | refine blk_drew ?_ | refine blk_alloc ?_ _)); exact BK275.out) hb)
          have n3_ := Aside0.mk (below_step (by repeat (first | (with_reducible first | exact HB.out | apply below_alloc | apply pw_below_drewN | apply below_drew1 | refine below_set ?_ GE272.out | refine below_set ?_ GE273.out | refine below_set ?_ GE275.out) | exact HB.out)) hb)
          clear BK272
          clear BK273
          clear BK275
          clear HB
          have BK272 := n0_
          have BK273 := n1_
          have BK275 := n2_
          have HB := n3_
          clear n0_ n1_ n2_ n3_
          (try clear hb)
          (try clear hb2)
          (try clear hk)
          (try clear hi)
          refine hK.out _ _ ⟨(blk_cell BK273.out 0).trans rfl, (blk_cell BK273.out 1).trans rfl, (blk_cell BK273.out 2).trans rfl, (blk_cell BK273.out 3).trans rfl, (blk_cell BK273.out 4).trans rfl⟩ (fun hHeld => ?_)
          clear hK K
          refine norm_ (a' := ?_) ?_ ?_
          rotate_left
          · show Act.put _ (some 104) _ = _
            simp only [Act.put, List.setIfInBounds_toArray, List.set_cons_zero, List.set_cons_succ, i64_w, i32_w]
            rfl
          refine pure_ (i := 2) (N := some 105) (v := ?_) (a' := ?_) #[true, true, true, false, false, false, false, false, false, false, false, false] rfl rfl (any_of HT_.out (by kernel_rfl)) (fun _ _ _ h => h) (Or.inl ⟨by rfl, ?_⟩) ?_ ?_
          rotate_left
          · intro w'
            go_simp
            with_reducible rfl
          rotate_left
          · simp only [Act.put, List.setIfInBounds_toArray, List.set_cons_zero, List.set_cons_succ, i64_w, i32_w]
            rfl
          refine pure_ (i := 3) (N := some 106) (v := ?_) (a' := ?_) #[true, true, true, true, false, false, false, false, false, false, false, false] rfl rfl (any_of HT_.out (by kernel_rfl)) (fun _ _ _ h => h) (Or.inl ⟨by rfl, ?_⟩) ?_ ?_
          rotate_left
          · intro w'
            go_simp
            with_reducible rfl
          rotate_left
          · simp only [Act.put, List.setIfInBounds_toArray, List.set_cons_zero, List.set_cons_succ, i64_w, i32_w]
            rfl
          refine pure_ (i := 6) (N := some 109) (v := ?_) (a' := ?_) #[true, true, true, true, false, false, true, false, false, false, false, false] rfl rfl (any_of HT_.out (by kernel_rfl)) (fun _ _ _ h => h) (Or.inl ⟨by rfl, ?_⟩) ?_ ?_
          rotate_left
          · intro w'
            go_simp
            with_reducible rfl
          rotate_left
          · simp only [Act.put, List.setIfInBounds_toArray, List.set_cons_zero, List.set_cons_succ, i64_w, i32_w]
            rfl
          refine pure_ (i := 7) (N := some 110) (v := ?_) (a' := ?_) #[true, true, true, true, false, false, true, true, false, false, false, false] rfl rfl (any_of HT_.out (by kernel_rfl)) (fun _ _ _ h => h) (Or.inl ⟨by rfl, ?_⟩) ?_ ?_
          rotate_left
          · intro w'
            go_simp
            with_reducible rfl
          rotate_left
          · simp only [Act.put, List.setIfInBounds_toArray, List.set_cons_zero, List.set_cons_succ, i64_w, i32_w]
            rfl
          refine pure_ (i := 8) (N := some 111) (v := ?_) (a' := ?_) #[true, true, true, true, false, false, true, true, true, false, false, false] rfl rfl (any_of HT_.out (by kernel_rfl)) (fun _ _ _ h => h) (Or.inl ⟨by rfl, ?_⟩) ?_ ?_
          rotate_left
          · intro w'
            go_simp
            with_reducible rfl
          rotate_left
          · simp only [Act.put, List.setIfInBounds_toArray, List.set_cons_zero, List.set_cons_succ, i64_w, i32_w]
            rfl
          refine take_ (i := 4) (N := some 107) (v := ?_) (a' := ?_) #[true, true, true, true, true, false, true, true, true, false, false, false] rfl rfl (take_ofW HT_.out HW_.out (by kernel_rfl)) (fun _ _ _ h => h) (Or.inl ⟨by rfl, ?_⟩) hHeld ?_ ?_
          rotate_left
          · rintro w' ⟨s0, s1, s2, s3, s4⟩
            go_simp
            with_reducible rfl
          rotate_left
          · simp only [Act.put, List.setIfInBounds_toArray, List.set_cons_zero, List.set_cons_succ, i64_w, i32_w]
            rfl
          refine one_ (i := 5) (N := some 108) #[true, true, true, true, true, true, true, true, true, false, false, false] rfl rfl (one_of HT_.out (by kernel_rfl)) (by decide) (fun K hK => ?_)
          refine goes_ Try.func11 (by kernel_rfl) rfl #[.agg #[.int .i64 (wrap64 (rd l0 0)), .int .i64 x276000_1, .int .i64 x276001_1, .int .i64 x276002_1, .string x274004_117]] (by rfl) rfl rfl (by (try simp only [List.map_toArray, List.map_cons, List.map_nil]); first | done | rfl | (simp only [List.length_drop, List.length_take]; rfl)) ?_
          with_reducible refine (regletref23_Bytes.calls kj117 (wrap64 (rd l0 0)) x276000_1 x276001_1 x276002_1 x274004_117 t295 _ A160.out).mono ?_
          rintro e w177 ⟨v296, rfl, ho0, hb⟩
          refine ⟨_, rfl, ?_⟩
          have n0_ := Aside0.mk (Kd.R_lower ho0 (below_size (by repeat (first | (with_reducible first | exact HB.out | apply below_alloc | apply pw_below_drewN | apply below_drew1 | refine below_set ?_ GE272.out | refine below_set ?_ GE273.out | refine below_set ?_ GE275.out) | exact HB.out))))
          have n1_ := Aside0.mk (blk_below (g := gb272) (o := .cells #[.int .i64 x273000_117, .int .i64 x273001_117, .int .i64 x273002_117, .int .i64 x273003_117, .string x273004_117] 30 (0, 0)) (by (with_reducible repeat (first | refine blk_drewN ?_ _ | refine blk_drew ?_ | refine blk_alloc ?_ _)); exact BK272.out) hb)
          have n2_ := Aside0.mk (blk_below (g := gb273) (o := .cells #[.int .i64 (wrap64 (rd l0 0)), .int .i64 x276000_1, .int .i64 x276001_1, .int .i64 x276002_1, .string x274004_117] 30 (0, 0)) (by (with_reducible repeat (first | refine blk_drewN ?_ _ | refine blk_drew ?_ | refine blk_alloc ?_ _)); exact BK273.out) hb)
          have n3_ := Aside0.mk (blk_below (g := gb275) (o := .cells #[.int .i64 x276000_1, .int .i64 x276001_1, .int .i64 x276002_1] 68 (0, 0)) (by (with_reducible repeat (first | refine blk_drewN ?_ _ | refine blk_drew ?_ | refine blk_alloc ?_ _)); exact BK275.out) hb)
          have n4_ := Aside0.mk (below_step (by repeat (first | (with_reducible first | exact HB.out | apply below_alloc | apply pw_below_drewN | apply below_drew1 | refine below_set ?_ GE272.out | refine below_set ?_ GE273.out | refine below_set ?_ GE275.out) | exact HB.out)) hb)
          clear BK272
          clear BK273
          clear BK275
          clear HB
          have HO297 := n0_
          have BK272 := n1_
          have BK273 := n2_
          have BK275 := n3_
          have HB := n4_
          clear n0_ n1_ n2_ n3_ n4_
          (try clear hb)
          (try clear hb2)
          (try clear hk)
          (try clear hi)
          (try clear ho0)
          obtain ⟨Ao179, co179, eo179⟩ := Kd.R_slice HO297.out
          (first | subst eo179 | (injection eo179 with f1_ f2_ f3_; have f4_ := f1_.symm; have f5_ := f3_.symm; clear f1_ f2_ f3_; subst f4_; subst f5_))
          refine hK.out _ _ ⟨(blk_cell BK273.out 0).trans rfl, (blk_cell BK273.out 1).trans rfl, (blk_cell BK273.out 2).trans rfl, (blk_cell BK273.out 3).trans rfl, (blk_cell BK273.out 4).trans rfl⟩ (fun hHeld => ?_)
          clear hK K
          refine norm_ (a' := ?_) ?_ ?_
          rotate_left
          · show Act.put _ (some 108) _ = _
            simp only [Act.put, List.setIfInBounds_toArray, List.set_cons_zero, List.set_cons_succ, i64_w, i32_w]
            rfl
          refine one_ (i := 9) (N := some 112) #[true, true, true, true, true, true, true, true, true, true, false, false] rfl rfl (one_of HT_.out (by kernel_rfl)) (by decide) (fun K hK => ?_)
          refine goes_ Try.func37 (by kernel_rfl) rfl #[.slice Ao179 t295.length co179, .slice (some ad274) (l0.take (x6_117 : Int).toNat).length c0] (by rfl) rfl rfl (by (try simp only [List.map_toArray, List.map_cons, List.map_nil]); first | done | (rw [show (l0.take (x6_117 : Int).toNat).length = x6_117.toNat from (by rw [List.length_take]; have h_ : (x6_117 : Int) ≤ (l0.length : Int) := of_decide_eq_true (by first | (with_reducible assumption) | assumption); omega)] <;> rfl) | rfl | (simp only [List.length_drop, List.length_take]; rfl)) ?_
          with_reducible refine (regletref23_same.calls _ _ t295 _ _ (l0.take (x6_117 : Int).toNat) false _ ?side1 ?side2 ?side3 ?side4 A163.out).mono ?_
          (case side1 => repeat (first | exact (Kd.R_reads' HO297.out).2.2 | (with_reducible refine Kd.C_alloc ?_ _) | (with_reducible refine Kd.C_drewN ?_ _) | (with_reducible refine Kd.C_drew ?_)))
          (case side2 => exact (Kd.R_reads' HO297.out).2.1)
          (case side3 => repeat (first | exact (Kd.C_below HR298.out HB.out) | (with_reducible refine Kd.C_alloc ?_ _) | (with_reducible refine Kd.C_drewN ?_ _) | (with_reducible refine Kd.C_drew ?_)))
          (case side4 => exact HC298.out)
          rintro e w' ⟨rfl, ⟨nd, rfl⟩⟩
          refine ⟨_, rfl, ?_⟩
          refine hK.out _ _ ⟨(blk_cell BK273.out 0).trans rfl, (blk_cell BK273.out 1).trans rfl, (blk_cell BK273.out 2).trans rfl, (blk_cell BK273.out 3).trans rfl, (blk_cell BK273.out 4).trans rfl⟩ (fun hHeld => ?_)
          clear hK K
          refine norm_ (a' := ?_) ?_ ?_
          rotate_left
          · show Act.put _ (some 112) _ = _
            simp only [Act.put, List.setIfInBounds_toArray, List.set_cons_zero, List.set_cons_succ, i64_w, i32_w]
            rfl
          refine pure_ (i := 10) (N := some 113) (v := ?_) (a' := ?_) #[true, true, true, true, true, true, true, true, true, true, true, false] rfl rfl (any_of HT_.out (by kernel_rfl)) (fun _ _ _ h => h) (Or.inl ⟨by rfl, ?_⟩) ?_ ?_
          rotate_left
          · intro w'
            go_simp
            with_reducible rfl
          rotate_left
          · simp only [Act.put, List.setIfInBounds_toArray, List.set_cons_zero, List.set_cons_succ, i64_w, i32_w]
            rfl
          refine pure_ (i := 11) (N := some 114) (v := ?_) (a' := ?_) #[true, true, true, true, true, true, true, true, true, true, true, true] rfl rfl (any_of HT_.out (by kernel_rfl)) (fun _ _ _ h => h) (Or.inl ⟨by rfl, ?_⟩) ?_ ?_
          rotate_left
          · intro w'
            go_simp
            with_reducible rfl
          rotate_left
          · simp only [Act.put, List.setIfInBounds_toArray, List.set_cons_zero, List.set_cons_succ, i64_w, i32_w]
            rfl
          refine done_ (done_of HT_.out (by kernel_rfl)) ?_
          have hnb180 := NB273_272.out
          have hnc180 := NB272_273.out
          have hnb181 := NB273_275.out
          have hnc181 := NB275_273.out
          have hcz182_0 : w177.cell? ⟨gb273, 0, none⟩ = some (.int .i64 (wrap64 (rd l0 0))) := (blk_cell BK273.out 0).trans rfl
          have hcz182_1 : w177.cell? ⟨gb273, 1, none⟩ = some (.int .i64 x276000_1) := (blk_cell BK273.out 1).trans rfl
          have hcz182_2 : w177.cell? ⟨gb273, 2, none⟩ = some (.int .i64 x276001_1) := (blk_cell BK273.out 2).trans rfl
          have hcz182_3 : w177.cell? ⟨gb273, 3, none⟩ = some (.int .i64 x276002_1) := (blk_cell BK273.out 3).trans rfl
          have hcz182_4 : w177.cell? ⟨gb273, 4, none⟩ = some (.string x274004_117) := (blk_cell BK273.out 4).trans rfl
          have hfz182_0 := blk_frozen BK273.out 0
          have hfz182_1 := blk_frozen BK273.out 1
          have hfz182_2 := blk_frozen BK273.out 2
          have hfz182_3 := blk_frozen BK273.out 3
          have hfz182_4 := blk_frozen BK273.out 4
          have hnb183 := NB272_275.out
          have hnc183 := NB275_272.out
          have hcz184_0 : w177.cell? ⟨gb272, 0, none⟩ = some (.int .i64 x273000_117) := (blk_cell BK272.out 0).trans rfl
          have hcz184_1 : w177.cell? ⟨gb272, 1, none⟩ = some (.int .i64 x273001_117) := (blk_cell BK272.out 1).trans rfl
          have hcz184_2 : w177.cell? ⟨gb272, 2, none⟩ = some (.int .i64 x273002_117) := (blk_cell BK272.out 2).trans rfl
          have hcz184_3 : w177.cell? ⟨gb272, 3, none⟩ = some (.int .i64 x273003_117) := (blk_cell BK272.out 3).trans rfl
          have hcz184_4 : w177.cell? ⟨gb272, 4, none⟩ = some (.string x273004_117) := (blk_cell BK272.out 4).trans rfl
          have hfz184_0 := blk_frozen BK272.out 0
          have hfz184_1 := blk_frozen BK272.out 1
          have hfz184_2 := blk_frozen BK272.out 2
          have hfz184_3 := blk_frozen BK272.out 3
          have hfz184_4 := blk_frozen BK272.out 4
          try go_wp2
          refine bodyPost_ret (results_ct rfl _ _ gb272 30 #[.int .i64 (wrap64 (rd l0 0)), .int .i64 x276000_1, .int .i64 x276001_1, .int .i64 x276002_1, .string x274004_117] (0, 0) _ rfl (by (with_reducible repeat (first | refine blk_drewN ?_ _ | refine blk_drew ?_ | refine blk_alloc ?_ _)); refine blk_put (cs := #[.int .i64 (wrap64 (rd l0 0)), .int .i64 x276000_1, .int .i64 x276001_1, .int .i64 x276002_1, .string x273004_117]) ?_ 4 _ rfl; (with_reducible repeat (first | refine blk_drewN ?_ _ | refine blk_drew ?_ | refine blk_alloc ?_ _)); refine blk_put (cs := #[.int .i64 (wrap64 (rd l0 0)), .int .i64 x276000_1, .int .i64 x276001_1, .int .i64 x273003_117, .string x273004_117]) ?_ 3 _ rfl; (with_reducible repeat (first | refine blk_drewN ?_ _ | refine blk_drew ?_ | refine blk_alloc ?_ _)); refine blk_put (cs := #[.int .i64 (wrap64 (rd l0 0)), .int .i64 x276000_1, .int .i64 x273002_117, .int .i64 x273003_117, .string x273004_117]) ?_ 2 _ rfl; (with_reducible repeat (first | refine blk_drewN ?_ _ | refine blk_drew ?_ | refine blk_alloc ?_ _)); refine blk_put (cs := #[.int .i64 (wrap64 (rd l0 0)), .int .i64 x273001_117, .int .i64 x273002_117, .int .i64 x273003_117, .string x273004_117]) ?_ 1 _ rfl; (with_reducible repeat (first | refine blk_drewN ?_ _ | refine blk_drew ?_ | refine blk_alloc ?_ _)); refine blk_put (cs := #[.int .i64 x273000_117, .int .i64 x273001_117, .int .i64 x273002_117, .int .i64 x273003_117, .string x273004_117]) ?_ 0 _ rfl; (with_reducible repeat (first | refine blk_drewN ?_ _ | refine blk_drew ?_ | refine blk_alloc ?_ _)); exact BK272.out) Try.underlying30 rfl (by kernel_rfl)) rfl ?_
          exact ⟨by first | rfl | (simp [errW_none, errW_some] <;> rfl) | (simp [*, errW_none, errW_some] <;> rfl), by repeat (first | (with_reducible first | exact HB.out | apply below_alloc | apply pw_below_drewN | apply below_drew1 | refine below_set ?_ GE272.out | refine below_set ?_ GE273.out | refine below_set ?_ GE275.out) | exact HB.out)⟩
end Go.Proofs.Ytkgpnegebpkhlaa.PJournalReads
