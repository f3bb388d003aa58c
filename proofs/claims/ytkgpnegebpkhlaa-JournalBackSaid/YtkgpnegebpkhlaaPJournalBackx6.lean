-- WRITTEN BY wip/xprint.py of this repo, over the kit's print; functions the print does not take are by hand
import Derived.Test.YtkgpnegebpkhlaaPJournalBackx0
import Derived.Test.YtkgpnegebpkhlaaPJournalBackx2
import Derived.Test.YtkgpnegebpkhlaaPJournalBackx3
import Derived.Test.YtkgpnegebpkhlaaPJournalBackx5
namespace Go.Proofs.Ytkgpnegebpkhlaa.PJournalBack
open Go.RowKit Go.Proofs.YtkgpnegebpkhlaaW.PrintWords Go.Proofs.YtkgpnegebpkhlaaW.PrintLast Go.Proofs.YtkgpnegebpkhlaaW.PrintMore
attribute [local go_sem] max2_int min2_int max_two min_two max_three min_three max_four min_four   -- for this text's walks alone
set_option linter.unusedVariables false
set_option linter.unusedSimpArgs false
/-! ### journal_one: function 27 -/
mutual
def journal_one.l0 : Nat → List Int → Int → Int → Int → Int → Int → Int → Int → ByteArray → Option (Int × Int × Int × Int × ByteArray × Int)
  | 0, _, _, _, _, _, _, _, _, _ => none
  | k + 1, x0, x5, x22, x23, x153000, x153001, x153002, x153003, x153004 => if x23 < x22 then (if 0 ≤ x5 then (if x5 ≤ (x0.length : Int) then ((journal_number.f k (x0.drop (x5 : Int).toNat)).bind fun bt155 => (if bt155.2 = 0 then (some (0, 0, 0, 0, (⟨#[]⟩ : ByteArray), 0)) else (if x23 = 0 then ((journal_unfolded.f bt155.1).bind fun t157 => (journal_one.l0 k x0 (wrap64 (x5 + bt155.2)) x22 (wrap64 (x23 + 1)) x153000 t157 x153002 x153003 x153004)) else (if x23 = 1 then ((journal_unfolded.f bt155.1).bind fun t158 => (journal_one.l0 k x0 (wrap64 (x5 + bt155.2)) x22 (wrap64 (x23 + 1)) x153000 x153001 t158 x153003 x153004)) else (if x23 = 2 then ((journal_unfolded.f bt155.1).bind fun t159 => (journal_one.l0 k x0 (wrap64 (x5 + bt155.2)) x22 (wrap64 (x23 + 1)) x153000 x153001 x153002 t159 x153004)) else (journal_one.l0 k x0 (wrap64 (x5 + bt155.2)) x22 (wrap64 (x23 + 1)) x153000 x153001 x153002 x153003 x153004)))))) else (none)) else (none)) else (if x153000 = 1 then (if 0 ≤ x5 then (if x5 ≤ (x0.length : Int) then ((journal_number.f k (x0.drop (x5 : Int).toNat)).bind fun bt161 => (if bt161.2 = 0 then (journal_one.j1 k x0 x5 bt161.1 bt161.2 true x153000 x153001 x153002 x153003 x153004) else (if bt161.1 > 65536 then (journal_one.j1 k x0 x5 bt161.1 bt161.2 true x153000 x153001 x153002 x153003 x153004) else (journal_one.j1 k x0 x5 bt161.1 bt161.2 (decide ((wrap64 (bt161.1)) > (wrap64 ((wrap64 ((x0.length : Int) - x5)) - bt161.2)))) x153000 x153001 x153002 x153003 x153004)))) else (none)) else (none)) else ((journal_Right.f k x153000 x153001 x153002 x153003 x153004).bind fun t165 => (if t165 = 0 then (some (x153000, x153001, x153002, x153003, x153004, x5)) else (some (0, 0, 0, 0, (⟨#[]⟩ : ByteArray), 0)))))
def journal_one.j1 : Nat → List Int → Int → Int → Int → Bool → Int → Int → Int → Int → ByteArray → Option (Int × Int × Int × Int × ByteArray × Int)
  | 0, _, _, _, _, _, _, _, _, _, _ => none
  | k + 1, x0, x5, x9, x10, x82, x153000, x153001, x153002, x153003, x153004 => if x82 = true then (some (0, 0, 0, 0, (⟨#[]⟩ : ByteArray), 0)) else (if 0 ≤ (wrap64 (x5 + x10)) then (if (wrap64 (x5 + x10)) ≤ (wrap64 ((wrap64 (x5 + x10)) + (wrap64 (x9)))) then (if (wrap64 ((wrap64 (x5 + x10)) + (wrap64 (x9)))) ≤ (x0.length : Int) then ((journal_Right.f k x153000 x153001 x153002 x153003 (strOfNums ((x0.take ((wrap64 ((wrap64 (x5 + x10)) + (wrap64 (x9)))) : Int).toNat).drop ((wrap64 (x5 + x10)) : Int).toNat))).bind fun t164 => (if t164 = 0 then (some (x153000, x153001, x153002, x153003, strOfNums ((x0.take ((wrap64 ((wrap64 (x5 + x10)) + (wrap64 (x9)))) : Int).toNat).drop ((wrap64 (x5 + x10)) : Int).toNat), wrap64 ((wrap64 (x5 + x10)) + (wrap64 (x9))))) else (some (0, 0, 0, 0, (⟨#[]⟩ : ByteArray), 0)))) else (none)) else (none)) else (none))
end
def journal_one.f (k : Nat) (l0 : List Int) : Option (Int × Int × Int × Int × ByteArray × Int) := if (l0.length : Int) = 0 then (some (0, 0, 0, 0, (⟨#[]⟩ : ByteArray), 0)) else (if 0 < (l0.length : Int) then ((journal_numbers.f k (wrap64 (rd l0 0))).bind fun t153 => (journal_one.l0 k l0 1 t153 0 (wrap64 (rd l0 0)) 0 0 0 (⟨#[]⟩ : ByteArray))) else (none))
theorem journal_one.mono_l : ∀ k, (∀ y0 y1 y2 y3 y4 y5 y6 y7 y8, LeO (journal_one.l0 k y0 y1 y2 y3 y4 y5 y6 y7 y8) (journal_one.l0 (k + 1) y0 y1 y2 y3 y4 y5 y6 y7 y8)) ∧ (∀ y0 y1 y2 y3 y4 y5 y6 y7 y8 y9, LeO (journal_one.j1 k y0 y1 y2 y3 y4 y5 y6 y7 y8 y9) (journal_one.j1 (k + 1) y0 y1 y2 y3 y4 y5 y6 y7 y8 y9))
  | 0 => ⟨fun _ _ _ _ _ _ _ _ _ r h => by simp [journal_one.l0] at h, fun _ _ _ _ _ _ _ _ _ _ r h => by simp [journal_one.j1] at h⟩
  | k + 1 => by
    obtain ⟨ih0, ih1⟩ := journal_one.mono_l k
    refine ⟨?_, ?_⟩
    · intro y0 y1 y2 y3 y4 y5 y6 y7 y8
      unfold journal_one.l0
      repeat' first | (with_reducible first | exact ih0 _ _ _ _ _ _ _ _ _ | exact ih1 _ _ _ _ _ _ _ _ _ _ | exact journal_Right.mono _ _ _ _ _ _ | exact journal_number.mono _ _ | exact journal_numbers.mono _ _ | exact LeO.refl _ | exact LeO.none _ | refine LeO.ite ?_ ?_ | refine LeO.bind ?_ (fun _ => ?_)) | exact ih0 _ _ _ _ _ _ _ _ _ | exact ih1 _ _ _ _ _ _ _ _ _ _ | exact journal_Right.mono _ _ _ _ _ _ | exact journal_number.mono _ _ | exact journal_numbers.mono _ _ | exact LeO.none _ | refine LeO.ite ?_ ?_ | refine LeO.bind ?_ (fun _ => ?_)
    · intro y0 y1 y2 y3 y4 y5 y6 y7 y8 y9
      unfold journal_one.j1
      repeat' first | (with_reducible first | exact ih0 _ _ _ _ _ _ _ _ _ | exact ih1 _ _ _ _ _ _ _ _ _ _ | exact journal_Right.mono _ _ _ _ _ _ | exact journal_number.mono _ _ | exact journal_numbers.mono _ _ | exact LeO.refl _ | exact LeO.none _ | refine LeO.ite ?_ ?_ | refine LeO.bind ?_ (fun _ => ?_)) | exact ih0 _ _ _ _ _ _ _ _ _ | exact ih1 _ _ _ _ _ _ _ _ _ _ | exact journal_Right.mono _ _ _ _ _ _ | exact journal_number.mono _ _ | exact journal_numbers.mono _ _ | exact LeO.none _ | refine LeO.ite ?_ ?_ | refine LeO.bind ?_ (fun _ => ?_)
theorem journal_one.mono : ∀ a0 k, LeO (journal_one.f k a0) (journal_one.f (k + 1) a0) := by
  intro a0 k
  obtain ⟨ih0, ih1⟩ := journal_one.mono_l k
  unfold journal_one.f
  repeat' first | (with_reducible first | exact ih0 _ _ _ _ _ _ _ _ _ | exact ih1 _ _ _ _ _ _ _ _ _ _ | exact journal_Right.mono _ _ _ _ _ _ | exact journal_number.mono _ _ | exact journal_numbers.mono _ _ | exact LeO.refl _ | exact LeO.none _ | refine LeO.ite ?_ ?_ | refine LeO.bind ?_ (fun _ => ?_)) | exact ih0 _ _ _ _ _ _ _ _ _ | exact ih1 _ _ _ _ _ _ _ _ _ _ | exact journal_Right.mono _ _ _ _ _ _ | exact journal_number.mono _ _ | exact journal_numbers.mono _ _ | exact LeO.none _ | refine LeO.ite ?_ ?_ | refine LeO.bind ?_ (fun _ => ?_)
set_option maxHeartbeats 8000000 in
set_option maxRecDepth 100000 in
theorem journal_one.calls (k : Nat) (A0 : Option Addr) (c0 : Nat) (l0 : List Int) (r1 : Int) (r2 : Int) (r3 : Int) (r4 : Int) (r5 : ByteArray) (r6 : Int) (w : World) (hr0 : Kd.C (Kd.int .u8) w A0 l0.length l0) (hc0 : l0.length ≤ c0) (h : journal_one.f k l0 = some (r1, r2, r3, r4, r5, r6)) :
    Calls Try.prog 27 #[.slice A0 l0.length c0] w fun e w' => e = .returned (.tuple #[.agg #[.int .i64 r1, .int .i64 r2, .int .i64 r3, .int .i64 r4, .string r5], .int .i64 r6]) ∧ Below w.heap.size w w' := by
  have hu24 := Try.underlying24
  have HR0 := Aside0.mk hr0
  have HC0 := Aside0.mk hc0
  clear hr0 hc0
  have HB := Aside0.mk (Below.refl w.heap.size w)
  have H : (if (l0.length : Int) = 0 then (some (0, 0, 0, 0, (⟨#[]⟩ : ByteArray), 0)) else (if 0 < (l0.length : Int) then ((journal_numbers.f k (wrap64 (rd l0 0))).bind fun t153 => (journal_one.l0 k l0 1 t153 0 (wrap64 (rd l0 0)) 0 0 0 (⟨#[]⟩ : ByteArray))) else (none))) = some (r1, r2, r3, r4, r5, r6) := h
  clear h
  by_cases c2 : (l0.length : Int) = 0
  · rw [if_pos c2] at H
    have c2b0 : ((l0.length : Int) == 0) = true := beq_iff_eq.mpr c2
    have c2b1 : ((l0.length : Int) != 0) = false := bne_eq_false_iff_eq.mpr c2
    clear c2
    simp only [Option.some.injEq, Prod.mk.injEq] at H
    obtain ⟨rfl, rfl, rfl, rfl, rfl, rfl⟩ := H
    go_enter Try.func27, Try.ntmps27
    go_wp2_with (first | ((with_reducible refine gate_dst (N := 2) rfl ?_); (try (refine gate_guard (by rfl) ?_; dsimp only)); refine box_event ?hg (N := 2) ?hd (cs := #[.int .i64 0, .int .i64 0, .int .i64 0, .int .i64 0, .string (⟨#[]⟩ : ByteArray)]) (t := 24) ?hr ?_; (case hd => rfl); (case hg => rfl); (case hr => exact z82_); intro gb150 hg w3 hbox hb; have BK150 := Aside0.mk (hbox); have GW150 := Aside0.mk ((z29_ : w.heap.size ≤ gb150)); have GE150 := Aside0.mk ((z29_ : w.heap.size ≤ gb150)); replace HB := Aside0.mk (below_step z44_ hb); clear hb hbox hg; have hcz4_0 : w3.cell? ⟨gb150, 0, none⟩ = some (.int .i64 0) := (blk_cell BK150.out 0).trans rfl; have hcz4_1 : w3.cell? ⟨gb150, 1, none⟩ = some (.int .i64 0) := (blk_cell BK150.out 1).trans rfl; have hcz4_2 : w3.cell? ⟨gb150, 2, none⟩ = some (.int .i64 0) := (blk_cell BK150.out 2).trans rfl; have hcz4_3 : w3.cell? ⟨gb150, 3, none⟩ = some (.int .i64 0) := (blk_cell BK150.out 3).trans rfl; have hcz4_4 : w3.cell? ⟨gb150, 4, none⟩ = some (.string (⟨#[]⟩ : ByteArray)) := (blk_cell BK150.out 4).trans rfl; have hfz4_0 := blk_frozen BK150.out 0; have hfz4_1 := blk_frozen BK150.out 1; have hfz4_2 := blk_frozen BK150.out 2; have hfz4_3 := blk_frozen BK150.out 3; have hfz4_4 := blk_frozen BK150.out 4))
    refine bodyPost_ret (results_ct rfl _ _ gb150 24 #[.int .i64 0, .int .i64 0, .int .i64 0, .int .i64 0, .string (⟨#[]⟩ : ByteArray)] (0, 0) _ rfl (by (with_reducible repeat (first | refine blk_drewN ?_ _ | refine blk_drew ?_ | refine blk_alloc ?_ _)); refine blk_put (cs := #[.int .i64 0, .int .i64 0, .int .i64 0, .int .i64 0, .string (⟨#[]⟩ : ByteArray)]) ?_ 4 _ rfl; (with_reducible repeat (first | refine blk_drewN ?_ _ | refine blk_drew ?_ | refine blk_alloc ?_ _)); refine blk_put (cs := #[.int .i64 0, .int .i64 0, .int .i64 0, .int .i64 0, .string (⟨#[]⟩ : ByteArray)]) ?_ 3 _ rfl; (with_reducible repeat (first | refine blk_drewN ?_ _ | refine blk_drew ?_ | refine blk_alloc ?_ _)); refine blk_put (cs := #[.int .i64 0, .int .i64 0, .int .i64 0, .int .i64 0, .string (⟨#[]⟩ : ByteArray)]) ?_ 2 _ rfl; (with_reducible repeat (first | refine blk_drewN ?_ _ | refine blk_drew ?_ | refine blk_alloc ?_ _)); refine blk_put (cs := #[.int .i64 0, .int .i64 0, .int .i64 0, .int .i64 0, .string (⟨#[]⟩ : ByteArray)]) ?_ 1 _ rfl; (with_reducible repeat (first | refine blk_drewN ?_ _ | refine blk_drew ?_ | refine blk_alloc ?_ _)); refine blk_put (cs := #[.int .i64 0, .int .i64 0, .int .i64 0, .int .i64 0, .string (⟨#[]⟩ : ByteArray)]) ?_ 0 _ rfl; (with_reducible repeat (first | refine blk_drewN ?_ _ | refine blk_drew ?_ | refine blk_alloc ?_ _)); exact BK150.out) Try.underlying24 rfl (by kernel_rfl)) rfl ?_
    exact ⟨z72_, z32_⟩
  rw [if_neg c2] at H
  have c2b0 : ((l0.length : Int) == 0) = false := beq_eq_false_iff_ne.mpr c2
  have c2b1 : ((l0.length : Int) != 0) = true := bne_iff_ne.mpr c2
  have c2b2 : ¬ (l0 = []) := fun h_ => c2 (by rw [h_]; rfl)
  by_cases c5 : 0 < (l0.length : Int)
  rotate_left
  · rw [if_neg c5] at H
    exact absurd H (by simp)
  rw [if_pos c5] at H
  have c5b0 : decide (0 < (l0.length : Int)) = true := decide_eq_true c5
  have c5b1 : decide (0 < l0.length) = true := decide_eq_true (by omega)
  clear c5
  replace H := Option.bind_eq_some_iff.mp H
  obtain ⟨t153, A60, H⟩ := H
  replace H : (journal_one.l0 k l0 1 t153 0 (wrap64 (rd l0 0)) 0 0 0 (⟨#[]⟩ : ByteArray)) = some (r1, r2, r3, r4, r5, r6) := H
  have A6 := Aside0.mk A60
  clear A60
  have H' := Aside0.mk H
  clear H
  go_enter Try.func27, Try.ntmps27
  go_wp2_with (first | ((with_reducible refine gate_dst (N := 2) rfl ?_); (try (refine gate_guard (by rfl) ?_; dsimp only)); refine box_event ?hg (N := 2) ?hd (cs := #[.int .i64 0, .int .i64 0, .int .i64 0, .int .i64 0, .string (⟨#[]⟩ : ByteArray)]) (t := 24) ?hr ?_; (case hd => rfl); (case hg => rfl); (case hr => exact z82_); intro gb150 hg w7 hbox hb; have BK150 := Aside0.mk (hbox); have GW150 := Aside0.mk ((z29_ : w.heap.size ≤ gb150)); have GE150 := Aside0.mk ((z29_ : w.heap.size ≤ gb150)); replace HB := Aside0.mk (below_step z44_ hb); clear hb hbox hg; have p151 : 0 ≤ (0 : Int) := (by omega); have q151 : 0 < (l0.length : Int) := of_decide_eq_true z80_; obtain ⟨ad151, e151, hx151_0⟩ := Kd.at_int HR0.out 0 p151 q151; cases e151; have qi151 : (0 < l0.length) = True := eq_true (by omega); (try rw [show ((0 : Int)).toNat = 0 from rfl] at hx151_0); (try rw [Addr.add_zero'] at hx151_0); replace hx151_0 := (HB.out.cell (World.block_lt_of_cell? w _ hx151_0)).trans hx151_0; replace p151 := eq_true p151; replace q151 := eq_true q151) | ((with_reducible refine gate_dst (N := 4) rfl ?_); (try (refine gate_guard (by rfl) ?_; dsimp only)); refine box_event ?hg (N := 4) ?hd (cs := #[.int .i64 0, .int .i64 0, .int .i64 0, .int .i64 0, .string (⟨#[]⟩ : ByteArray)]) (t := 24) ?hr ?_; (case hd => rfl); (case hg => rfl); (case hr => exact z82_); intro gb152 hg w8 hbox hb; have BK152 := Aside0.mk (hbox); have GW152 := Aside0.mk ((z13_ : w.heap.size ≤ gb152)); have GE152 := Aside0.mk ((z13_ : w.heap.size ≤ gb152)); replace HB := Aside0.mk (below_step z32_ hb); have NB150_152 := Aside0.mk ((by rw [hg]; exact Nat.ne_of_lt (blk_lt (g := gb150) (o := .cells #[.int .i64 0, .int .i64 0, .int .i64 0, .int .i64 0, .string (⟨#[]⟩ : ByteArray)] 24 (0, 0)) z49_) : gb150 ≠ gb152)); have NB152_150 := Aside0.mk ((by rw [hg]; exact Nat.ne_of_gt (blk_lt (g := gb150) (o := .cells #[.int .i64 0, .int .i64 0, .int .i64 0, .int .i64 0, .string (⟨#[]⟩ : ByteArray)] 24 (0, 0)) z49_) : gb152 ≠ gb150)); replace BK150 := Aside0.mk (blk_below (g := gb150) (o := .cells #[.int .i64 0, .int .i64 0, .int .i64 0, .int .i64 0, .string (⟨#[]⟩ : ByteArray)] 24 (0, 0)) z49_ hb); clear hb hbox hg; have hnb9 := NB152_150.out; have hnc9 := NB150_152.out; have hcz10_0 : w8.cell? ⟨gb152, 0, none⟩ = some (.int .i64 0) := (blk_cell BK152.out 0).trans rfl; have hcz10_1 : w8.cell? ⟨gb152, 1, none⟩ = some (.int .i64 0) := (blk_cell BK152.out 1).trans rfl; have hcz10_2 : w8.cell? ⟨gb152, 2, none⟩ = some (.int .i64 0) := (blk_cell BK152.out 2).trans rfl; have hcz10_3 : w8.cell? ⟨gb152, 3, none⟩ = some (.int .i64 0) := (blk_cell BK152.out 3).trans rfl; have hcz10_4 : w8.cell? ⟨gb152, 4, none⟩ = some (.string (⟨#[]⟩ : ByteArray)) := (blk_cell BK152.out 4).trans rfl; have hfz10_0 := blk_frozen BK152.out 0; have hfz10_1 := blk_frozen BK152.out 1; have hfz10_2 := blk_frozen BK152.out 2; have hfz10_3 := blk_frozen BK152.out 3; have hfz10_4 := blk_frozen BK152.out 4) | ((with_reducible refine gate_callee (f := 18) rfl ?_); refine goesL_ (some 22) rfl rfl Try.func18 (by kernel_rfl) rfl #[.int .i64 (wrap64 (rd l0 0))] rfl z41_ ?_; (with_reducible refine (journal_numbers.calls k (wrap64 (rd l0 0)) t153 _ A6.out).mono ?_); rintro e w' ⟨rfl, ⟨nd, rfl⟩⟩; refine ⟨_, rfl, ?_⟩))
  go_loopg [5, 23] k (fun kq v5 v23 w' => ∃ (x5_1 : Int) (x23_1 : Int) (x151000_1 : Int) (x151001_1 : Int) (x151002_1 : Int) (x151003_1 : Int) (x151004_1 : ByteArray) (x153001_1 : Int) (x153002_1 : Int) (x153003_1 : Int), v5 = .int .i64 x5_1 ∧ v23 = .int .i64 x23_1 ∧ Aside0 (journal_one.l0 kq l0 x5_1 t153 x23_1 (wrap64 (rd l0 0)) x153001_1 x153002_1 x153003_1 (⟨#[]⟩ : ByteArray) = some (r1, r2, r3, r4, r5, r6)) ∧ Aside0 (kq ≤ k) ∧ Aside0 (w'.heap[gb150]? = some (.cells #[.int .i64 x151000_1, .int .i64 x151001_1, .int .i64 x151002_1, .int .i64 x151003_1, .string x151004_1] 24 (0, 0))) ∧ Aside0 (w'.heap[gb152]? = some (.cells #[.int .i64 (wrap64 (rd l0 0)), .int .i64 x153001_1, .int .i64 x153002_1, .int .i64 x153003_1, .string (⟨#[]⟩ : ByteArray)] 24 (0, 0))) ∧ Aside0 (Below w.heap.size w w'))
  case atStart => exact ⟨(1), (0), (0), (0), (0), (0), ((⟨#[]⟩ : ByteArray)), (0), (0), (0), z81_, z81_, H', ⟨Nat.le_refl _⟩, ⟨by (with_reducible repeat (first | refine blk_drewN ?_ _ | refine blk_drew ?_ | refine blk_alloc ?_ _)); refine blk_far ?_ NB150_152.out _; (with_reducible repeat (first | refine blk_drewN ?_ _ | refine blk_drew ?_ | refine blk_alloc ?_ _)); refine blk_far ?_ NB150_152.out _; (with_reducible repeat (first | refine blk_drewN ?_ _ | refine blk_drew ?_ | refine blk_alloc ?_ _)); refine blk_far ?_ NB150_152.out _; (with_reducible repeat (first | refine blk_drewN ?_ _ | refine blk_drew ?_ | refine blk_alloc ?_ _)); refine blk_far ?_ NB150_152.out _; (with_reducible repeat (first | refine blk_drewN ?_ _ | refine blk_drew ?_ | refine blk_alloc ?_ _)); refine blk_far ?_ NB150_152.out _; (with_reducible repeat (first | refine blk_drewN ?_ _ | refine blk_drew ?_ | refine blk_alloc ?_ _)); exact BK150.out⟩, ⟨by (with_reducible repeat (first | refine blk_drewN ?_ _ | refine blk_drew ?_ | refine blk_alloc ?_ _)); refine blk_put (cs := #[.int .i64 (wrap64 (rd l0 0)), .int .i64 0, .int .i64 0, .int .i64 0, .string (⟨#[]⟩ : ByteArray)]) ?_ 4 _ rfl; (with_reducible repeat (first | refine blk_drewN ?_ _ | refine blk_drew ?_ | refine blk_alloc ?_ _)); refine blk_put (cs := #[.int .i64 (wrap64 (rd l0 0)), .int .i64 0, .int .i64 0, .int .i64 0, .string (⟨#[]⟩ : ByteArray)]) ?_ 3 _ rfl; (with_reducible repeat (first | refine blk_drewN ?_ _ | refine blk_drew ?_ | refine blk_alloc ?_ _)); refine blk_put (cs := #[.int .i64 (wrap64 (rd l0 0)), .int .i64 0, .int .i64 0, .int .i64 0, .string (⟨#[]⟩ : ByteArray)]) ?_ 2 _ rfl; (with_reducible repeat (first | refine blk_drewN ?_ _ | refine blk_drew ?_ | refine blk_alloc ?_ _)); refine blk_put (cs := #[.int .i64 (wrap64 (rd l0 0)), .int .i64 0, .int .i64 0, .int .i64 0, .string (⟨#[]⟩ : ByteArray)]) ?_ 1 _ rfl; (with_reducible repeat (first | refine blk_drewN ?_ _ | refine blk_drew ?_ | refine blk_alloc ?_ _)); refine blk_put (cs := #[.int .i64 0, .int .i64 0, .int .i64 0, .int .i64 0, .string (⟨#[]⟩ : ByteArray)]) ?_ 0 _ rfl; (with_reducible repeat (first | refine blk_drewN ?_ _ | refine blk_drew ?_ | refine blk_alloc ?_ _)); exact BK152.out⟩, ⟨z15_⟩⟩
  case round =>
    clear H'
    try clear c1
    try clear p1
    try clear q1
    try clear hx1
    try clear qi1
    try clear c2
    try clear c2b0
    try clear c2b1
    try clear c2b2
    try clear p2
    try clear c5
    try clear c5b0
    try clear c5b1
    try clear p6
    try clear c9
    try clear hcz10_0
    try clear hcz10_1
    try clear hcz10_2
    try clear hcz10_3
    try clear hcz10_4
    try clear hcz4_0
    try clear hcz4_1
    try clear hcz4_2
    try clear hcz4_3
    try clear hcz4_4
    try clear hfz10_0
    try clear hfz10_1
    try clear hfz10_2
    try clear hfz10_3
    try clear hfz10_4
    try clear hfz4_0
    try clear hfz4_1
    try clear hfz4_2
    try clear hfz4_3
    try clear hfz4_4
    try clear hx151_0
    try clear p151
    try clear q151
    obtain ⟨x5_1, x23_1, x151000_1, x151001_1, x151002_1, x151003_1, x151004_1, x153001_1, x153002_1, x153003_1, rfl, rfl, HA, HK1, BK150, BK152, HB⟩ := hrel
    cases gk with
    | zero => exact absurd HA.out (by simp [journal_one.l0])
    | succ k1 =>
      have H := HA.out
      clear HA
      simp only [journal_one.l0] at H
      by_cases c11 : x23_1 < t153
      · rw [if_pos c11] at H
        have c11b0 : decide (x23_1 < t153) = true := decide_eq_true c11
        clear c11
        by_cases c12 : 0 ≤ x5_1
        rotate_left
        · rw [if_neg c12] at H
          exact absurd H (by simp)
        rw [if_pos c12] at H
        have c12b0 := eq_true c12
        have c12b1 : decide (0 ≤ x5_1) = true := decide_eq_true c12
        clear c12
        by_cases c13 : x5_1 ≤ (l0.length : Int)
        rotate_left
        · rw [if_neg c13] at H
          exact absurd H (by simp)
        rw [if_pos c13] at H
        have c13b0 := eq_true c13
        have c13b1 : decide (x5_1 ≤ (l0.length : Int)) = true := decide_eq_true c13
        clear c13
        replace H := Option.bind_eq_some_iff.mp H
        obtain ⟨⟨t155, t156⟩, A140, H⟩ := H
        replace H : (if t156 = 0 then (some (0, 0, 0, 0, (⟨#[]⟩ : ByteArray), 0)) else (if x23_1 = 0 then ((journal_unfolded.f t155).bind fun t157 => (journal_one.l0 k1 l0 (wrap64 (x5_1 + t156)) t153 (wrap64 (x23_1 + 1)) (wrap64 (rd l0 0)) t157 x153002_1 x153003_1 (⟨#[]⟩ : ByteArray))) else (if x23_1 = 1 then ((journal_unfolded.f t155).bind fun t158 => (journal_one.l0 k1 l0 (wrap64 (x5_1 + t156)) t153 (wrap64 (x23_1 + 1)) (wrap64 (rd l0 0)) x153001_1 t158 x153003_1 (⟨#[]⟩ : ByteArray))) else (if x23_1 = 2 then ((journal_unfolded.f t155).bind fun t159 => (journal_one.l0 k1 l0 (wrap64 (x5_1 + t156)) t153 (wrap64 (x23_1 + 1)) (wrap64 (rd l0 0)) x153001_1 x153002_1 t159 (⟨#[]⟩ : ByteArray))) else (journal_one.l0 k1 l0 (wrap64 (x5_1 + t156)) t153 (wrap64 (x23_1 + 1)) (wrap64 (rd l0 0)) x153001_1 x153002_1 x153003_1 (⟨#[]⟩ : ByteArray)))))) = some (r1, r2, r3, r4, r5, r6) := H
        have A14 := Aside0.mk A140
        clear A140
        by_cases c15 : t156 = 0
        · rw [if_pos c15] at H
          have c15b0 : (t156 == 0) = true := beq_iff_eq.mpr c15
          have c15b1 : (t156 != 0) = false := bne_eq_false_iff_eq.mpr c15
          clear c15
          simp only [Option.some.injEq, Prod.mk.injEq] at H
          obtain ⟨rfl, rfl, rfl, rfl, rfl, rfl⟩ := H
          obtain ⟨i016, hi016, _, hsz16, _⟩ := info_parts info5
          obtain ⟨A16, hcut16, hA16, hC16⟩ := print_drop_of (P := Try.prog) (Value.int .u8) 0 22 5 .i64 Try.underlying22 hi016 hsz16 (some ad151) c0 l0 x5_1 (of_decide_eq_true z80_) (of_decide_eq_true z80_) HC0.out
          have HR154 := Aside0.mk (Kd.C_of_reads (h1 := fun _ => rfl) (hA16 _ (Kd.reads_of_C HR0.out)))
          have HC154 := Aside0.mk hC16
          clear hA16 hC16 hi016 hsz16
          go_wp2_with (first | ((with_reducible refine gate_callee (f := 32) rfl ?_); refine goesL_ (some 30) rfl rfl Try.func32 (by kernel_rfl) rfl #[.slice A16 (l0.drop (x5_1 : Int).toNat).length (c0 - x5_1.toNat)] rfl z9_ ?_; (with_reducible refine (journal_number.calls k1 _ _ (l0.drop (x5_1 : Int).toNat) t155 t156 _ ?side1 ?side2 A14.out).mono ?_); (case side1 => exact z20_); (case side2 => exact HC154.out); rintro e w' ⟨rfl, ⟨nd, rfl⟩⟩; refine ⟨_, rfl, ?_⟩; (try (rw [drewN_self wr]; generalize hq_ : World.drewN wr _ = wr; have n0_ : Aside0 (wr.heap[gb150]? = some (.cells #[.int .i64 x151000_1, .int .i64 x151001_1, .int .i64 x151002_1, .int .i64 x151003_1, .string x151004_1] 24 (0, 0))) := ⟨z39_⟩; have n1_ : Aside0 (wr.heap[gb152]? = some (.cells #[.int .i64 (wrap64 (rd l0 0)), .int .i64 x153001_1, .int .i64 x153002_1, .int .i64 x153003_1, .string (⟨#[]⟩ : ByteArray)] 24 (0, 0))) := ⟨z40_⟩; have n2_ : Aside0 (Below w.heap.size w wr) := ⟨z12_⟩; clear BK150 BK152 HB hq_; have BK150 := n0_; have BK152 := n1_; have HB := n2_; clear n0_ n1_ n2_)); have hnb17 := NB150_152.out; have hnc17 := NB152_150.out; have hcz18_0 : wr.cell? ⟨gb150, 0, none⟩ = some (.int .i64 x151000_1) := (blk_cell BK150.out 0).trans rfl; have hcz18_1 : wr.cell? ⟨gb150, 1, none⟩ = some (.int .i64 x151001_1) := (blk_cell BK150.out 1).trans rfl; have hcz18_2 : wr.cell? ⟨gb150, 2, none⟩ = some (.int .i64 x151002_1) := (blk_cell BK150.out 2).trans rfl; have hcz18_3 : wr.cell? ⟨gb150, 3, none⟩ = some (.int .i64 x151003_1) := (blk_cell BK150.out 3).trans rfl; have hcz18_4 : wr.cell? ⟨gb150, 4, none⟩ = some (.string x151004_1) := (blk_cell BK150.out 4).trans rfl; have hfz18_0 := blk_frozen BK150.out 0; have hfz18_1 := blk_frozen BK150.out 1; have hfz18_2 := blk_frozen BK150.out 2; have hfz18_3 := blk_frozen BK150.out 3; have hfz18_4 := blk_frozen BK150.out 4))
          refine bodyPost_ret (results_ct rfl _ _ gb150 24 #[.int .i64 0, .int .i64 0, .int .i64 0, .int .i64 0, .string (⟨#[]⟩ : ByteArray)] (0, 0) _ rfl z1_ Try.underlying24 rfl (by kernel_rfl)) rfl ?_
          exact ⟨z72_, z15_⟩
        rw [if_neg c15] at H
        have c15b0 : (t156 == 0) = false := beq_eq_false_iff_ne.mpr c15
        have c15b1 : (t156 != 0) = true := bne_iff_ne.mpr c15
        by_cases c19 : x23_1 = 0
        · rw [if_pos c19] at H
          have c19b0 : (x23_1 == 0) = true := beq_iff_eq.mpr c19
          have c19b1 : (x23_1 != 0) = false := bne_eq_false_iff_eq.mpr c19
          clear c19
          replace H := Option.bind_eq_some_iff.mp H
          obtain ⟨t157, A200, H⟩ := H
          replace H : (journal_one.l0 k1 l0 (wrap64 (x5_1 + t156)) t153 (wrap64 (x23_1 + 1)) (wrap64 (rd l0 0)) t157 x153002_1 x153003_1 (⟨#[]⟩ : ByteArray)) = some (r1, r2, r3, r4, r5, r6) := H
          have A20 := Aside0.mk A200
          clear A200
          have H' := Aside0.mk H
          clear H
          obtain ⟨i021, hi021, _, hsz21, _⟩ := info_parts info5
          obtain ⟨A21, hcut21, hA21, hC21⟩ := print_drop_of (P := Try.prog) (Value.int .u8) 0 22 5 .i64 Try.underlying22 hi021 hsz21 (some ad151) c0 l0 x5_1 (of_decide_eq_true z80_) (of_decide_eq_true z80_) HC0.out
          have HR154 := Aside0.mk (Kd.C_of_reads (h1 := fun _ => rfl) (hA21 _ (Kd.reads_of_C HR0.out)))
          have HC154 := Aside0.mk hC21
          clear hA21 hC21 hi021 hsz21
          go_wp2_with (first | ((with_reducible refine gate_callee (f := 32) rfl ?_); refine goesL_ (some 30) rfl rfl Try.func32 (by kernel_rfl) rfl #[.slice A21 (l0.drop (x5_1 : Int).toNat).length (c0 - x5_1.toNat)] rfl z9_ ?_; (with_reducible refine (journal_number.calls k1 _ _ (l0.drop (x5_1 : Int).toNat) t155 t156 _ ?side1 ?side2 A14.out).mono ?_); (case side1 => exact z20_); (case side2 => exact HC154.out); rintro e w' ⟨rfl, ⟨nd, rfl⟩⟩; refine ⟨_, rfl, ?_⟩; (try (rw [drewN_self wr]; generalize hq_ : World.drewN wr _ = wr; have n0_ : Aside0 (wr.heap[gb150]? = some (.cells #[.int .i64 x151000_1, .int .i64 x151001_1, .int .i64 x151002_1, .int .i64 x151003_1, .string x151004_1] 24 (0, 0))) := ⟨z39_⟩; have n1_ : Aside0 (wr.heap[gb152]? = some (.cells #[.int .i64 (wrap64 (rd l0 0)), .int .i64 x153001_1, .int .i64 x153002_1, .int .i64 x153003_1, .string (⟨#[]⟩ : ByteArray)] 24 (0, 0))) := ⟨z40_⟩; have n2_ : Aside0 (Below w.heap.size w wr) := ⟨z12_⟩; clear BK150 BK152 HB hq_; have BK150 := n0_; have BK152 := n1_; have HB := n2_; clear n0_ n1_ n2_))) | ((with_reducible refine gate_callee (f := 33) rfl ?_); refine goesL_ (some 43) rfl rfl Try.func33 (by kernel_rfl) rfl #[.int .u64 t155] rfl z41_ ?_; (with_reducible refine (journal_unfolded.calls t155 t157 _ A20.out).mono ?_); rintro e w' ⟨rfl, ⟨nd, rfl⟩⟩; refine ⟨_, rfl, ?_⟩; (try (rw [drewN_self wr]; generalize hq_ : World.drewN wr _ = wr; have n0_ : Aside0 (wr.heap[gb150]? = some (.cells #[.int .i64 x151000_1, .int .i64 x151001_1, .int .i64 x151002_1, .int .i64 x151003_1, .string x151004_1] 24 (0, 0))) := ⟨z39_⟩; have n1_ : Aside0 (wr.heap[gb152]? = some (.cells #[.int .i64 (wrap64 (rd l0 0)), .int .i64 x153001_1, .int .i64 x153002_1, .int .i64 x153003_1, .string (⟨#[]⟩ : ByteArray)] 24 (0, 0))) := ⟨z40_⟩; have n2_ : Aside0 (Below w.heap.size w wr) := ⟨z12_⟩; clear BK150 BK152 HB hq_; have BK150 := n0_; have BK152 := n1_; have HB := n2_; clear n0_ n1_ n2_)); have hnb22 := NB152_150.out; have hnc22 := NB150_152.out; have hcz23_0 : wr.cell? ⟨gb152, 0, none⟩ = some (.int .i64 (wrap64 (rd l0 0))) := (blk_cell BK152.out 0).trans rfl; have hcz23_1 : wr.cell? ⟨gb152, 1, none⟩ = some (.int .i64 x153001_1) := (blk_cell BK152.out 1).trans rfl; have hcz23_2 : wr.cell? ⟨gb152, 2, none⟩ = some (.int .i64 x153002_1) := (blk_cell BK152.out 2).trans rfl; have hcz23_3 : wr.cell? ⟨gb152, 3, none⟩ = some (.int .i64 x153003_1) := (blk_cell BK152.out 3).trans rfl; have hcz23_4 : wr.cell? ⟨gb152, 4, none⟩ = some (.string (⟨#[]⟩ : ByteArray)) := (blk_cell BK152.out 4).trans rfl; have hfz23_0 := blk_frozen BK152.out 0; have hfz23_1 := blk_frozen BK152.out 1; have hfz23_2 := blk_frozen BK152.out 2; have hfz23_3 := blk_frozen BK152.out 3; have hfz23_4 := blk_frozen BK152.out 4))
          go_roundg k1
          case measure => have := HK1.out; omega
          case rel => exact ⟨(wrap64 (x5_1 + t156)), (wrap64 (x23_1 + 1)), (x151000_1), (x151001_1), (x151002_1), (x151003_1), (x151004_1), (t157), (x153002_1), (x153003_1), z81_, z81_, H', ⟨z91_⟩, ⟨z7_⟩, ⟨by (with_reducible repeat (first | refine blk_drewN ?_ _ | refine blk_drew ?_ | refine blk_alloc ?_ _)); refine blk_put (cs := #[.int .i64 (wrap64 (rd l0 0)), .int .i64 x153001_1, .int .i64 x153002_1, .int .i64 x153003_1, .string (⟨#[]⟩ : ByteArray)]) ?_ 1 _ rfl; (with_reducible repeat (first | refine blk_drewN ?_ _ | refine blk_drew ?_ | refine blk_alloc ?_ _)); exact BK152.out⟩, ⟨z15_⟩⟩
        rw [if_neg c19] at H
        have c19b0 : (x23_1 == 0) = false := beq_eq_false_iff_ne.mpr c19
        have c19b1 : (x23_1 != 0) = true := bne_iff_ne.mpr c19
        by_cases c24 : x23_1 = 1
        · rw [if_pos c24] at H
          have c24b0 : (x23_1 == 1) = true := beq_iff_eq.mpr c24
          have c24b1 : (x23_1 != 1) = false := bne_eq_false_iff_eq.mpr c24
          clear c24
          replace H := Option.bind_eq_some_iff.mp H
          obtain ⟨t158, A250, H⟩ := H
          replace H : (journal_one.l0 k1 l0 (wrap64 (x5_1 + t156)) t153 (wrap64 (x23_1 + 1)) (wrap64 (rd l0 0)) x153001_1 t158 x153003_1 (⟨#[]⟩ : ByteArray)) = some (r1, r2, r3, r4, r5, r6) := H
          have A25 := Aside0.mk A250
          clear A250
          have H' := Aside0.mk H
          clear H
          obtain ⟨i026, hi026, _, hsz26, _⟩ := info_parts info5
          obtain ⟨A26, hcut26, hA26, hC26⟩ := print_drop_of (P := Try.prog) (Value.int .u8) 0 22 5 .i64 Try.underlying22 hi026 hsz26 (some ad151) c0 l0 x5_1 (of_decide_eq_true z80_) (of_decide_eq_true z80_) HC0.out
          have HR154 := Aside0.mk (Kd.C_of_reads (h1 := fun _ => rfl) (hA26 _ (Kd.reads_of_C HR0.out)))
          have HC154 := Aside0.mk hC26
          clear hA26 hC26 hi026 hsz26
          go_wp2_with (first | ((with_reducible refine gate_callee (f := 32) rfl ?_); refine goesL_ (some 30) rfl rfl Try.func32 (by kernel_rfl) rfl #[.slice A26 (l0.drop (x5_1 : Int).toNat).length (c0 - x5_1.toNat)] rfl z9_ ?_; (with_reducible refine (journal_number.calls k1 _ _ (l0.drop (x5_1 : Int).toNat) t155 t156 _ ?side1 ?side2 A14.out).mono ?_); (case side1 => exact z20_); (case side2 => exact HC154.out); rintro e w' ⟨rfl, ⟨nd, rfl⟩⟩; refine ⟨_, rfl, ?_⟩; (try (rw [drewN_self wr]; generalize hq_ : World.drewN wr _ = wr; have n0_ : Aside0 (wr.heap[gb150]? = some (.cells #[.int .i64 x151000_1, .int .i64 x151001_1, .int .i64 x151002_1, .int .i64 x151003_1, .string x151004_1] 24 (0, 0))) := ⟨z39_⟩; have n1_ : Aside0 (wr.heap[gb152]? = some (.cells #[.int .i64 (wrap64 (rd l0 0)), .int .i64 x153001_1, .int .i64 x153002_1, .int .i64 x153003_1, .string (⟨#[]⟩ : ByteArray)] 24 (0, 0))) := ⟨z40_⟩; have n2_ : Aside0 (Below w.heap.size w wr) := ⟨z12_⟩; clear BK150 BK152 HB hq_; have BK150 := n0_; have BK152 := n1_; have HB := n2_; clear n0_ n1_ n2_))) | ((with_reducible refine gate_callee (f := 33) rfl ?_); refine goesL_ (some 48) rfl rfl Try.func33 (by kernel_rfl) rfl #[.int .u64 t155] rfl z41_ ?_; (with_reducible refine (journal_unfolded.calls t155 t158 _ A25.out).mono ?_); rintro e w' ⟨rfl, ⟨nd, rfl⟩⟩; refine ⟨_, rfl, ?_⟩; (try (rw [drewN_self wr]; generalize hq_ : World.drewN wr _ = wr; have n0_ : Aside0 (wr.heap[gb150]? = some (.cells #[.int .i64 x151000_1, .int .i64 x151001_1, .int .i64 x151002_1, .int .i64 x151003_1, .string x151004_1] 24 (0, 0))) := ⟨z39_⟩; have n1_ : Aside0 (wr.heap[gb152]? = some (.cells #[.int .i64 (wrap64 (rd l0 0)), .int .i64 x153001_1, .int .i64 x153002_1, .int .i64 x153003_1, .string (⟨#[]⟩ : ByteArray)] 24 (0, 0))) := ⟨z40_⟩; have n2_ : Aside0 (Below w.heap.size w wr) := ⟨z12_⟩; clear BK150 BK152 HB hq_; have BK150 := n0_; have BK152 := n1_; have HB := n2_; clear n0_ n1_ n2_)); have hnb27 := NB152_150.out; have hnc27 := NB150_152.out; have hcz28_0 : wr.cell? ⟨gb152, 0, none⟩ = some (.int .i64 (wrap64 (rd l0 0))) := (blk_cell BK152.out 0).trans rfl; have hcz28_1 : wr.cell? ⟨gb152, 1, none⟩ = some (.int .i64 x153001_1) := (blk_cell BK152.out 1).trans rfl; have hcz28_2 : wr.cell? ⟨gb152, 2, none⟩ = some (.int .i64 x153002_1) := (blk_cell BK152.out 2).trans rfl; have hcz28_3 : wr.cell? ⟨gb152, 3, none⟩ = some (.int .i64 x153003_1) := (blk_cell BK152.out 3).trans rfl; have hcz28_4 : wr.cell? ⟨gb152, 4, none⟩ = some (.string (⟨#[]⟩ : ByteArray)) := (blk_cell BK152.out 4).trans rfl; have hfz28_0 := blk_frozen BK152.out 0; have hfz28_1 := blk_frozen BK152.out 1; have hfz28_2 := blk_frozen BK152.out 2; have hfz28_3 := blk_frozen BK152.out 3; have hfz28_4 := blk_frozen BK152.out 4))
          go_roundg k1
          case measure => have := HK1.out; omega
          case rel => exact ⟨(wrap64 (x5_1 + t156)), (wrap64 (x23_1 + 1)), (x151000_1), (x151001_1), (x151002_1), (x151003_1), (x151004_1), (x153001_1), (t158), (x153003_1), z81_, z81_, H', ⟨z91_⟩, ⟨z7_⟩, ⟨by (with_reducible repeat (first | refine blk_drewN ?_ _ | refine blk_drew ?_ | refine blk_alloc ?_ _)); refine blk_put (cs := #[.int .i64 (wrap64 (rd l0 0)), .int .i64 x153001_1, .int .i64 x153002_1, .int .i64 x153003_1, .string (⟨#[]⟩ : ByteArray)]) ?_ 2 _ rfl; (with_reducible repeat (first | refine blk_drewN ?_ _ | refine blk_drew ?_ | refine blk_alloc ?_ _)); exact BK152.out⟩, ⟨z15_⟩⟩
        rw [if_neg c24] at H
        have c24b0 : (x23_1 == 1) = false := beq_eq_false_iff_ne.mpr c24
        have c24b1 : (x23_1 != 1) = true := bne_iff_ne.mpr c24
        by_cases c29 : x23_1 = 2
        rotate_left
        · rw [if_neg c29] at H
          have c29b0 : (x23_1 == 2) = false := beq_eq_false_iff_ne.mpr c29
          have c29b1 : (x23_1 != 2) = true := bne_iff_ne.mpr c29
          have H' := Aside0.mk H
          clear H
          obtain ⟨i034, hi034, _, hsz34, _⟩ := info_parts info5
          obtain ⟨A34, hcut34, hA34, hC34⟩ := print_drop_of (P := Try.prog) (Value.int .u8) 0 22 5 .i64 Try.underlying22 hi034 hsz34 (some ad151) c0 l0 x5_1 (of_decide_eq_true z80_) (of_decide_eq_true z80_) HC0.out
          have HR154 := Aside0.mk (Kd.C_of_reads (h1 := fun _ => rfl) (hA34 _ (Kd.reads_of_C HR0.out)))
          have HC154 := Aside0.mk hC34
          clear hA34 hC34 hi034 hsz34
          go_wp2_with (first | ((with_reducible refine gate_callee (f := 32) rfl ?_); refine goesL_ (some 30) rfl rfl Try.func32 (by kernel_rfl) rfl #[.slice A34 (l0.drop (x5_1 : Int).toNat).length (c0 - x5_1.toNat)] rfl z9_ ?_; (with_reducible refine (journal_number.calls k1 _ _ (l0.drop (x5_1 : Int).toNat) t155 t156 _ ?side1 ?side2 A14.out).mono ?_); (case side1 => exact z20_); (case side2 => exact HC154.out); rintro e w' ⟨rfl, ⟨nd, rfl⟩⟩; refine ⟨_, rfl, ?_⟩))
          go_roundg k1
          case measure => have := HK1.out; omega
          case rel => exact ⟨(wrap64 (x5_1 + t156)), (wrap64 (x23_1 + 1)), (x151000_1), (x151001_1), (x151002_1), (x151003_1), (x151004_1), (x153001_1), (x153002_1), (x153003_1), z81_, z81_, H', ⟨z91_⟩, ⟨z49_⟩, ⟨z50_⟩, ⟨z15_⟩⟩
        rw [if_pos c29] at H
        have c29b0 : (x23_1 == 2) = true := beq_iff_eq.mpr c29
        have c29b1 : (x23_1 != 2) = false := bne_eq_false_iff_eq.mpr c29
        clear c29
        replace H := Option.bind_eq_some_iff.mp H
        obtain ⟨t159, A300, H⟩ := H
        replace H : (journal_one.l0 k1 l0 (wrap64 (x5_1 + t156)) t153 (wrap64 (x23_1 + 1)) (wrap64 (rd l0 0)) x153001_1 x153002_1 t159 (⟨#[]⟩ : ByteArray)) = some (r1, r2, r3, r4, r5, r6) := H
        have A30 := Aside0.mk A300
        clear A300
        have H' := Aside0.mk H
        clear H
        obtain ⟨i031, hi031, _, hsz31, _⟩ := info_parts info5
        obtain ⟨A31, hcut31, hA31, hC31⟩ := print_drop_of (P := Try.prog) (Value.int .u8) 0 22 5 .i64 Try.underlying22 hi031 hsz31 (some ad151) c0 l0 x5_1 (of_decide_eq_true z80_) (of_decide_eq_true z80_) HC0.out
        have HR154 := Aside0.mk (Kd.C_of_reads (h1 := fun _ => rfl) (hA31 _ (Kd.reads_of_C HR0.out)))
        have HC154 := Aside0.mk hC31
        clear hA31 hC31 hi031 hsz31
        go_wp2_with (first | ((with_reducible refine gate_callee (f := 32) rfl ?_); refine goesL_ (some 30) rfl rfl Try.func32 (by kernel_rfl) rfl #[.slice A31 (l0.drop (x5_1 : Int).toNat).length (c0 - x5_1.toNat)] rfl z9_ ?_; (with_reducible refine (journal_number.calls k1 _ _ (l0.drop (x5_1 : Int).toNat) t155 t156 _ ?side1 ?side2 A14.out).mono ?_); (case side1 => exact z20_); (case side2 => exact HC154.out); rintro e w' ⟨rfl, ⟨nd, rfl⟩⟩; refine ⟨_, rfl, ?_⟩; (try (rw [drewN_self wr]; generalize hq_ : World.drewN wr _ = wr; have n0_ : Aside0 (wr.heap[gb150]? = some (.cells #[.int .i64 x151000_1, .int .i64 x151001_1, .int .i64 x151002_1, .int .i64 x151003_1, .string x151004_1] 24 (0, 0))) := ⟨z39_⟩; have n1_ : Aside0 (wr.heap[gb152]? = some (.cells #[.int .i64 (wrap64 (rd l0 0)), .int .i64 x153001_1, .int .i64 x153002_1, .int .i64 x153003_1, .string (⟨#[]⟩ : ByteArray)] 24 (0, 0))) := ⟨z40_⟩; have n2_ : Aside0 (Below w.heap.size w wr) := ⟨z12_⟩; clear BK150 BK152 HB hq_; have BK150 := n0_; have BK152 := n1_; have HB := n2_; clear n0_ n1_ n2_))) | ((with_reducible refine gate_callee (f := 33) rfl ?_); refine goesL_ (some 53) rfl rfl Try.func33 (by kernel_rfl) rfl #[.int .u64 t155] rfl z41_ ?_; (with_reducible refine (journal_unfolded.calls t155 t159 _ A30.out).mono ?_); rintro e w' ⟨rfl, ⟨nd, rfl⟩⟩; refine ⟨_, rfl, ?_⟩; (try (rw [drewN_self wr]; generalize hq_ : World.drewN wr _ = wr; have n0_ : Aside0 (wr.heap[gb150]? = some (.cells #[.int .i64 x151000_1, .int .i64 x151001_1, .int .i64 x151002_1, .int .i64 x151003_1, .string x151004_1] 24 (0, 0))) := ⟨z39_⟩; have n1_ : Aside0 (wr.heap[gb152]? = some (.cells #[.int .i64 (wrap64 (rd l0 0)), .int .i64 x153001_1, .int .i64 x153002_1, .int .i64 x153003_1, .string (⟨#[]⟩ : ByteArray)] 24 (0, 0))) := ⟨z40_⟩; have n2_ : Aside0 (Below w.heap.size w wr) := ⟨z12_⟩; clear BK150 BK152 HB hq_; have BK150 := n0_; have BK152 := n1_; have HB := n2_; clear n0_ n1_ n2_)); have hnb32 := NB152_150.out; have hnc32 := NB150_152.out; have hcz33_0 : wr.cell? ⟨gb152, 0, none⟩ = some (.int .i64 (wrap64 (rd l0 0))) := (blk_cell BK152.out 0).trans rfl; have hcz33_1 : wr.cell? ⟨gb152, 1, none⟩ = some (.int .i64 x153001_1) := (blk_cell BK152.out 1).trans rfl; have hcz33_2 : wr.cell? ⟨gb152, 2, none⟩ = some (.int .i64 x153002_1) := (blk_cell BK152.out 2).trans rfl; have hcz33_3 : wr.cell? ⟨gb152, 3, none⟩ = some (.int .i64 x153003_1) := (blk_cell BK152.out 3).trans rfl; have hcz33_4 : wr.cell? ⟨gb152, 4, none⟩ = some (.string (⟨#[]⟩ : ByteArray)) := (blk_cell BK152.out 4).trans rfl; have hfz33_0 := blk_frozen BK152.out 0; have hfz33_1 := blk_frozen BK152.out 1; have hfz33_2 := blk_frozen BK152.out 2; have hfz33_3 := blk_frozen BK152.out 3; have hfz33_4 := blk_frozen BK152.out 4))
        go_roundg k1
        case measure => have := HK1.out; omega
        case rel => exact ⟨(wrap64 (x5_1 + t156)), (wrap64 (x23_1 + 1)), (x151000_1), (x151001_1), (x151002_1), (x151003_1), (x151004_1), (x153001_1), (x153002_1), (t159), z81_, z81_, H', ⟨z91_⟩, ⟨z7_⟩, ⟨by (with_reducible repeat (first | refine blk_drewN ?_ _ | refine blk_drew ?_ | refine blk_alloc ?_ _)); refine blk_put (cs := #[.int .i64 (wrap64 (rd l0 0)), .int .i64 x153001_1, .int .i64 x153002_1, .int .i64 x153003_1, .string (⟨#[]⟩ : ByteArray)]) ?_ 3 _ rfl; (with_reducible repeat (first | refine blk_drewN ?_ _ | refine blk_drew ?_ | refine blk_alloc ?_ _)); exact BK152.out⟩, ⟨z15_⟩⟩
      rw [if_neg c11] at H
      have c11b0 : decide (x23_1 < t153) = false := decide_eq_false c11
      clear c11
      by_cases c35 : (wrap64 (rd l0 0)) = 1
      rotate_left
      · rw [if_neg c35] at H
        have c35b0 : ((wrap64 (rd l0 0)) == 1) = false := beq_eq_false_iff_ne.mpr c35
        have c35b1 : ((wrap64 (rd l0 0)) != 1) = true := bne_iff_ne.mpr c35
        replace H := Option.bind_eq_some_iff.mp H
        obtain ⟨t165, A670, H⟩ := H
        replace H : (if t165 = 0 then (some ((wrap64 (rd l0 0)), x153001_1, x153002_1, x153003_1, (⟨#[]⟩ : ByteArray), x5_1)) else (some (0, 0, 0, 0, (⟨#[]⟩ : ByteArray), 0))) = some (r1, r2, r3, r4, r5, r6) := H
        have A67 := Aside0.mk A670
        clear A670
        by_cases c68 : t165 = 0
        rotate_left
        · rw [if_neg c68] at H
          have c68b0 : (t165 == 0) = false := beq_eq_false_iff_ne.mpr c68
          have c68b1 : (t165 != 0) = true := bne_iff_ne.mpr c68
          simp only [Option.some.injEq, Prod.mk.injEq] at H
          obtain ⟨rfl, rfl, rfl, rfl, rfl, rfl⟩ := H
          have hnb74 := NB152_150.out
          have hnc74 := NB150_152.out
          have hcz75_0 : wr.cell? ⟨gb152, 0, none⟩ = some (.int .i64 (wrap64 (rd l0 0))) := (blk_cell BK152.out 0).trans rfl
          have hcz75_1 : wr.cell? ⟨gb152, 1, none⟩ = some (.int .i64 x153001_1) := (blk_cell BK152.out 1).trans rfl
          have hcz75_2 : wr.cell? ⟨gb152, 2, none⟩ = some (.int .i64 x153002_1) := (blk_cell BK152.out 2).trans rfl
          have hcz75_3 : wr.cell? ⟨gb152, 3, none⟩ = some (.int .i64 x153003_1) := (blk_cell BK152.out 3).trans rfl
          have hcz75_4 : wr.cell? ⟨gb152, 4, none⟩ = some (.string (⟨#[]⟩ : ByteArray)) := (blk_cell BK152.out 4).trans rfl
          have hfz75_0 := blk_frozen BK152.out 0
          have hfz75_1 := blk_frozen BK152.out 1
          have hfz75_2 := blk_frozen BK152.out 2
          have hfz75_3 := blk_frozen BK152.out 3
          have hfz75_4 := blk_frozen BK152.out 4
          go_wp2_with (first | ((with_reducible refine gate_callee (f := 10) rfl ?_); refine goesL_ (some 101) rfl rfl Try.func10 (by kernel_rfl) rfl #[.agg #[.int .i64 (wrap64 (rd l0 0)), .int .i64 x153001_1, .int .i64 x153002_1, .int .i64 x153003_1, .string (⟨#[]⟩ : ByteArray)]] rfl z41_ ?_; (with_reducible refine (journal_Right.calls k1 (wrap64 (rd l0 0)) x153001_1 x153002_1 x153003_1 (⟨#[]⟩ : ByteArray) t165 _ A67.out).mono ?_); rintro e w76 ⟨rfl, hb⟩; refine ⟨_, rfl, ?_⟩; replace BK150 := Aside0.mk (blk_below (g := gb150) (o := .cells #[.int .i64 x151000_1, .int .i64 x151001_1, .int .i64 x151002_1, .int .i64 x151003_1, .string x151004_1] 24 (0, 0)) z49_ hb); replace BK152 := Aside0.mk (blk_below (g := gb152) (o := .cells #[.int .i64 (wrap64 (rd l0 0)), .int .i64 x153001_1, .int .i64 x153002_1, .int .i64 x153003_1, .string (⟨#[]⟩ : ByteArray)] 24 (0, 0)) z50_ hb); replace HB := Aside0.mk (below_step z15_ hb); (try clear hb); (try clear hb2); (try clear hk); (try clear hi); have hcz77_0 : w76.cell? ⟨gb150, 0, none⟩ = some (.int .i64 x151000_1) := (blk_cell BK150.out 0).trans rfl; have hcz77_1 : w76.cell? ⟨gb150, 1, none⟩ = some (.int .i64 x151001_1) := (blk_cell BK150.out 1).trans rfl; have hcz77_2 : w76.cell? ⟨gb150, 2, none⟩ = some (.int .i64 x151002_1) := (blk_cell BK150.out 2).trans rfl; have hcz77_3 : w76.cell? ⟨gb150, 3, none⟩ = some (.int .i64 x151003_1) := (blk_cell BK150.out 3).trans rfl; have hcz77_4 : w76.cell? ⟨gb150, 4, none⟩ = some (.string x151004_1) := (blk_cell BK150.out 4).trans rfl; have hfz77_0 := blk_frozen BK150.out 0; have hfz77_1 := blk_frozen BK150.out 1; have hfz77_2 := blk_frozen BK150.out 2; have hfz77_3 := blk_frozen BK150.out 3; have hfz77_4 := blk_frozen BK150.out 4))
          refine bodyPost_ret (results_ct rfl _ _ gb150 24 #[.int .i64 0, .int .i64 0, .int .i64 0, .int .i64 0, .string (⟨#[]⟩ : ByteArray)] (0, 0) _ rfl z1_ Try.underlying24 rfl (by kernel_rfl)) rfl ?_
          exact ⟨z72_, z15_⟩
        rw [if_pos c68] at H
        have c68b0 : (t165 == 0) = true := beq_iff_eq.mpr c68
        have c68b1 : (t165 != 0) = false := bne_eq_false_iff_eq.mpr c68
        clear c68
        simp only [Option.some.injEq, Prod.mk.injEq] at H
        obtain ⟨rfl, rfl, rfl, rfl, rfl, rfl⟩ := H
        have hnb69 := NB152_150.out
        have hnc69 := NB150_152.out
        have hcz70_0 : wr.cell? ⟨gb152, 0, none⟩ = some (.int .i64 (wrap64 (rd l0 0))) := (blk_cell BK152.out 0).trans rfl
        have hcz70_1 : wr.cell? ⟨gb152, 1, none⟩ = some (.int .i64 x153001_1) := (blk_cell BK152.out 1).trans rfl
        have hcz70_2 : wr.cell? ⟨gb152, 2, none⟩ = some (.int .i64 x153002_1) := (blk_cell BK152.out 2).trans rfl
        have hcz70_3 : wr.cell? ⟨gb152, 3, none⟩ = some (.int .i64 x153003_1) := (blk_cell BK152.out 3).trans rfl
        have hcz70_4 : wr.cell? ⟨gb152, 4, none⟩ = some (.string (⟨#[]⟩ : ByteArray)) := (blk_cell BK152.out 4).trans rfl
        have hfz70_0 := blk_frozen BK152.out 0
        have hfz70_1 := blk_frozen BK152.out 1
        have hfz70_2 := blk_frozen BK152.out 2
        have hfz70_3 := blk_frozen BK152.out 3
        have hfz70_4 := blk_frozen BK152.out 4
        go_wp2_with (first | ((with_reducible refine gate_callee (f := 10) rfl ?_); refine goesL_ (some 101) rfl rfl Try.func10 (by kernel_rfl) rfl #[.agg #[.int .i64 (wrap64 (rd l0 0)), .int .i64 x153001_1, .int .i64 x153002_1, .int .i64 x153003_1, .string (⟨#[]⟩ : ByteArray)]] rfl z41_ ?_; (with_reducible refine (journal_Right.calls k1 (wrap64 (rd l0 0)) x153001_1 x153002_1 x153003_1 (⟨#[]⟩ : ByteArray) t165 _ A67.out).mono ?_); rintro e w71 ⟨rfl, hb⟩; refine ⟨_, rfl, ?_⟩; replace BK150 := Aside0.mk (blk_below (g := gb150) (o := .cells #[.int .i64 x151000_1, .int .i64 x151001_1, .int .i64 x151002_1, .int .i64 x151003_1, .string x151004_1] 24 (0, 0)) z49_ hb); replace BK152 := Aside0.mk (blk_below (g := gb152) (o := .cells #[.int .i64 (wrap64 (rd l0 0)), .int .i64 x153001_1, .int .i64 x153002_1, .int .i64 x153003_1, .string (⟨#[]⟩ : ByteArray)] 24 (0, 0)) z50_ hb); replace HB := Aside0.mk (below_step z15_ hb); (try clear hb); (try clear hb2); (try clear hk); (try clear hi); have hcz72_0 : w71.cell? ⟨gb152, 0, none⟩ = some (.int .i64 (wrap64 (rd l0 0))) := (blk_cell BK152.out 0).trans rfl; have hcz72_1 : w71.cell? ⟨gb152, 1, none⟩ = some (.int .i64 x153001_1) := (blk_cell BK152.out 1).trans rfl; have hcz72_2 : w71.cell? ⟨gb152, 2, none⟩ = some (.int .i64 x153002_1) := (blk_cell BK152.out 2).trans rfl; have hcz72_3 : w71.cell? ⟨gb152, 3, none⟩ = some (.int .i64 x153003_1) := (blk_cell BK152.out 3).trans rfl; have hcz72_4 : w71.cell? ⟨gb152, 4, none⟩ = some (.string (⟨#[]⟩ : ByteArray)) := (blk_cell BK152.out 4).trans rfl; have hfz72_0 := blk_frozen BK152.out 0; have hfz72_1 := blk_frozen BK152.out 1; have hfz72_2 := blk_frozen BK152.out 2; have hfz72_3 := blk_frozen BK152.out 3; have hfz72_4 := blk_frozen BK152.out 4; have hcz73_0 : w71.cell? ⟨gb150, 0, none⟩ = some (.int .i64 x151000_1) := (blk_cell BK150.out 0).trans rfl; have hcz73_1 : w71.cell? ⟨gb150, 1, none⟩ = some (.int .i64 x151001_1) := (blk_cell BK150.out 1).trans rfl; have hcz73_2 : w71.cell? ⟨gb150, 2, none⟩ = some (.int .i64 x151002_1) := (blk_cell BK150.out 2).trans rfl; have hcz73_3 : w71.cell? ⟨gb150, 3, none⟩ = some (.int .i64 x151003_1) := (blk_cell BK150.out 3).trans rfl; have hcz73_4 : w71.cell? ⟨gb150, 4, none⟩ = some (.string x151004_1) := (blk_cell BK150.out 4).trans rfl; have hfz73_0 := blk_frozen BK150.out 0; have hfz73_1 := blk_frozen BK150.out 1; have hfz73_2 := blk_frozen BK150.out 2; have hfz73_3 := blk_frozen BK150.out 3; have hfz73_4 := blk_frozen BK150.out 4))
        refine bodyPost_ret (results_ct rfl _ _ gb150 24 #[.int .i64 (wrap64 (rd l0 0)), .int .i64 x153001_1, .int .i64 x153002_1, .int .i64 x153003_1, .string (⟨#[]⟩ : ByteArray)] (0, 0) _ rfl z0_ Try.underlying24 rfl (by kernel_rfl)) rfl ?_
        exact ⟨z72_, z15_⟩
      rw [if_pos c35] at H
      have c35b0 : ((wrap64 (rd l0 0)) == 1) = true := beq_iff_eq.mpr c35
      have c35b1 : ((wrap64 (rd l0 0)) != 1) = false := bne_eq_false_iff_eq.mpr c35
      clear c35
      by_cases c36 : 0 ≤ x5_1
      rotate_left
      · rw [if_neg c36] at H
        exact absurd H (by simp)
      rw [if_pos c36] at H
      have c36b0 := eq_true c36
      have c36b1 : decide (0 ≤ x5_1) = true := decide_eq_true c36
      clear c36
      by_cases c37 : x5_1 ≤ (l0.length : Int)
      rotate_left
      · rw [if_neg c37] at H
        exact absurd H (by simp)
      rw [if_pos c37] at H
      have c37b0 := eq_true c37
      have c37b1 : decide (x5_1 ≤ (l0.length : Int)) = true := decide_eq_true c37
      clear c37
      replace H := Option.bind_eq_some_iff.mp H
      obtain ⟨⟨t161, t162⟩, A380, H⟩ := H
      replace H : (if t162 = 0 then (journal_one.j1 k1 l0 x5_1 t161 t162 true (wrap64 (rd l0 0)) x153001_1 x153002_1 x153003_1 (⟨#[]⟩ : ByteArray)) else (if t161 > 65536 then (journal_one.j1 k1 l0 x5_1 t161 t162 true (wrap64 (rd l0 0)) x153001_1 x153002_1 x153003_1 (⟨#[]⟩ : ByteArray)) else (journal_one.j1 k1 l0 x5_1 t161 t162 (decide ((wrap64 (t161)) > (wrap64 ((wrap64 ((l0.length : Int) - x5_1)) - t162)))) (wrap64 (rd l0 0)) x153001_1 x153002_1 x153003_1 (⟨#[]⟩ : ByteArray)))) = some (r1, r2, r3, r4, r5, r6) := H
      have A38 := Aside0.mk A380
      clear A380
      have HC39 := Aside0.mk H
      clear H
      have hnb40 := NB152_150.out
      have hnc40 := NB150_152.out
      have hcz41_0 : wr.cell? ⟨gb152, 0, none⟩ = some (.int .i64 (wrap64 (rd l0 0))) := (blk_cell BK152.out 0).trans rfl
      have hcz41_1 : wr.cell? ⟨gb152, 1, none⟩ = some (.int .i64 x153001_1) := (blk_cell BK152.out 1).trans rfl
      have hcz41_2 : wr.cell? ⟨gb152, 2, none⟩ = some (.int .i64 x153002_1) := (blk_cell BK152.out 2).trans rfl
      have hcz41_3 : wr.cell? ⟨gb152, 3, none⟩ = some (.int .i64 x153003_1) := (blk_cell BK152.out 3).trans rfl
      have hcz41_4 : wr.cell? ⟨gb152, 4, none⟩ = some (.string (⟨#[]⟩ : ByteArray)) := (blk_cell BK152.out 4).trans rfl
      have hfz41_0 := blk_frozen BK152.out 0
      have hfz41_1 := blk_frozen BK152.out 1
      have hfz41_2 := blk_frozen BK152.out 2
      have hfz41_3 := blk_frozen BK152.out 3
      have hfz41_4 := blk_frozen BK152.out 4
      obtain ⟨i042, hi042, _, hsz42, _⟩ := info_parts info5
      obtain ⟨A42, hcut42, hA42, hC42⟩ := print_drop_of (P := Try.prog) (Value.int .u8) 0 22 5 .i64 Try.underlying22 hi042 hsz42 (some ad151) c0 l0 x5_1 (of_decide_eq_true z80_) (of_decide_eq_true z80_) HC0.out
      have HR160 := Aside0.mk (Kd.C_of_reads (h1 := fun _ => rfl) (hA42 _ (Kd.reads_of_C HR0.out)))
      have HC160 := Aside0.mk hC42
      clear hA42 hC42 hi042 hsz42
      go_upto_region 22 with (first | ((with_reducible refine gate_callee (f := 32) rfl ?_); refine goesL_ (some 63) rfl rfl Try.func32 (by kernel_rfl) rfl #[.slice A42 (l0.drop (x5_1 : Int).toNat).length (c0 - x5_1.toNat)] rfl z9_ ?_; (with_reducible refine (journal_number.calls k1 _ _ (l0.drop (x5_1 : Int).toNat) t161 t162 _ ?side1 ?side2 A38.out).mono ?_); (case side1 => repeat (first | exact (Kd.C_below HR160.out HB.out) | (with_reducible refine Kd.C_alloc ?_ _) | (with_reducible refine Kd.C_drewN ?_ _) | (with_reducible refine Kd.C_drew ?_))); (case side2 => exact HC160.out); rintro e w' ⟨rfl, ⟨nd, rfl⟩⟩; refine ⟨_, rfl, ?_⟩))
      (try simp only [Act.put, List.setIfInBounds_toArray, List.set_cons_zero, List.set_cons_succ])
      go_cut [82] (fun v82 wc => ∃ (kq : Nat) (x82_38 : Bool), v82 = .bool x82_38 ∧ Aside0 (journal_one.j1 kq l0 x5_1 t161 t162 x82_38 (wrap64 (rd l0 0)) x153001_1 x153002_1 x153003_1 (⟨#[]⟩ : ByteArray) = some (r1, r2, r3, r4, r5, r6)) ∧ Aside0 (kq ≤ k1) ∧ Aside0 (wc.heap[gb150]? = some (.cells #[.int .i64 x151000_1, .int .i64 x151001_1, .int .i64 x151002_1, .int .i64 x151003_1, .string x151004_1] 24 (0, 0))) ∧ Aside0 (wc.heap[gb152]? = some (.cells #[.int .i64 (wrap64 (rd l0 0)), .int .i64 x153001_1, .int .i64 x153002_1, .int .i64 x153003_1, .string (⟨#[]⟩ : ByteArray)] 24 (0, 0))) ∧ Aside0 (Below w.heap.size w wc))
      case first =>
        have H := HC39.out
        clear HC39
        by_cases c43 : t162 = 0
        · rw [if_pos c43] at H
          have c43b0 : (t162 == 0) = true := beq_iff_eq.mpr c43
          have c43b1 : (t162 != 0) = false := bne_eq_false_iff_eq.mpr c43
          clear c43
          (first | rw [c43b0] | (simp only [i64_w, i32_w]; rw [c43b0]) | skip)
          have H' := Aside0.mk H
          clear H
          go_wp2
          go_meet
          case rel => exact ⟨_, (true), z81_, H', ⟨z79_⟩, ⟨z49_⟩, ⟨z50_⟩, ⟨z15_⟩⟩
        rw [if_neg c43] at H
        have c43b0 : (t162 == 0) = false := beq_eq_false_iff_ne.mpr c43
        have c43b1 : (t162 != 0) = true := bne_iff_ne.mpr c43
        (first | rw [c43b0] | (simp only [i64_w, i32_w]; rw [c43b0]) | skip)
        by_cases c44 : t161 > 65536
        rotate_left
        · rw [if_neg c44] at H
          have c44b0 : decide (65536 < t161) = false := decide_eq_false c44
          clear c44
          have H' := Aside0.mk H
          clear H
          go_wp2
          go_meet
          case rel => exact ⟨_, (decide ((wrap64 (t161)) > (wrap64 ((wrap64 ((l0.length : Int) - x5_1)) - t162)))), z81_, H', ⟨z79_⟩, ⟨z49_⟩, ⟨z50_⟩, ⟨z15_⟩⟩
        rw [if_pos c44] at H
        have c44b0 : decide (65536 < t161) = true := decide_eq_true c44
        clear c44
        have H' := Aside0.mk H
        clear H
        go_wp2
        go_meet
        case rel => exact ⟨_, (true), z81_, H', ⟨z79_⟩, ⟨z49_⟩, ⟨z50_⟩, ⟨z15_⟩⟩
      case rest =>
        clear HC39
        try clear c1
        try clear p1
        try clear q1
        try clear hx1
        try clear qi1
        try clear c2
        try clear c2b0
        try clear c2b1
        try clear c2b2
        try clear p2
        try clear c3
        try clear c4
        try clear c5
        try clear c5b0
        try clear c5b1
        try clear p6
        try clear c9
        try clear c11
        try clear c11b0
        try clear c12
        try clear c12b0
        try clear c12b1
        try clear c13
        try clear c13b0
        try clear c13b1
        try clear c15
        try clear c15b0
        try clear c15b1
        try clear p15
        try clear q15
        try clear hx15
        try clear qi15
        try clear c17
        try clear c18
        try clear c19
        try clear c19b0
        try clear c19b1
        try clear c22
        try clear c24
        try clear c24b0
        try clear c24b1
        try clear c27
        try clear c29
        try clear c29b0
        try clear c29b1
        try clear c32
        try clear c33
        try clear c35
        try clear c35b0
        try clear c35b1
        try clear c36
        try clear c36b0
        try clear c36b1
        try clear c37
        try clear c37b0
        try clear c37b1
        try clear c40
        try clear c43
        try clear c43b0
        try clear c43b1
        try clear c44
        try clear c44b0
        try clear hcz10_0
        try clear hcz10_1
        try clear hcz10_2
        try clear hcz10_3
        try clear hcz10_4
        try clear hcz18_0
        try clear hcz18_1
        try clear hcz18_2
        try clear hcz18_3
        try clear hcz18_4
        try clear hcz23_0
        try clear hcz23_1
        try clear hcz23_2
        try clear hcz23_3
        try clear hcz23_4
        try clear hcz28_0
        try clear hcz28_1
        try clear hcz28_2
        try clear hcz28_3
        try clear hcz28_4
        try clear hcz33_0
        try clear hcz33_1
        try clear hcz33_2
        try clear hcz33_3
        try clear hcz33_4
        try clear hcz41_0
        try clear hcz41_1
        try clear hcz41_2
        try clear hcz41_3
        try clear hcz41_4
        try clear hcz4_0
        try clear hcz4_1
        try clear hcz4_2
        try clear hcz4_3
        try clear hcz4_4
        try clear hfz10_0
        try clear hfz10_1
        try clear hfz10_2
        try clear hfz10_3
        try clear hfz10_4
        try clear hfz18_0
        try clear hfz18_1
        try clear hfz18_2
        try clear hfz18_3
        try clear hfz18_4
        try clear hfz23_0
        try clear hfz23_1
        try clear hfz23_2
        try clear hfz23_3
        try clear hfz23_4
        try clear hfz28_0
        try clear hfz28_1
        try clear hfz28_2
        try clear hfz28_3
        try clear hfz28_4
        try clear hfz33_0
        try clear hfz33_1
        try clear hfz33_2
        try clear hfz33_3
        try clear hfz33_4
        try clear hfz41_0
        try clear hfz41_1
        try clear hfz41_2
        try clear hfz41_3
        try clear hfz41_4
        try clear hfz4_0
        try clear hfz4_1
        try clear hfz4_2
        try clear hfz4_3
        try clear hfz4_4
        try clear hx151_0
        try clear p1
        try clear p151
        try clear p2
        try clear p6
        try clear q1
        try clear q151
        obtain ⟨kq, x82_38, rfl, HA, HJ38, BK150, BK152, HB⟩ := hcut
        cases kq with
        | zero => exact absurd HA.out (by simp [journal_one.j1])
        | succ kj38 =>
          have H := HA.out
          clear HA
          simp only [journal_one.j1] at H
          by_cases c45 : x82_38 = true
          · subst c45
            have H1 : (some (0, 0, 0, 0, (⟨#[]⟩ : ByteArray), 0)) = some (r1, r2, r3, r4, r5, r6) := by rw [if_pos rfl] at H; exact H
            clear H
            have H := H1
            clear H1
            simp only [Option.some.injEq, Prod.mk.injEq] at H
            obtain ⟨rfl, rfl, rfl, rfl, rfl, rfl⟩ := H
            have hnb46 := NB150_152.out
            have hnc46 := NB152_150.out
            have hcz47_0 : wc.cell? ⟨gb150, 0, none⟩ = some (.int .i64 x151000_1) := (blk_cell BK150.out 0).trans rfl
            have hcz47_1 : wc.cell? ⟨gb150, 1, none⟩ = some (.int .i64 x151001_1) := (blk_cell BK150.out 1).trans rfl
            have hcz47_2 : wc.cell? ⟨gb150, 2, none⟩ = some (.int .i64 x151002_1) := (blk_cell BK150.out 2).trans rfl
            have hcz47_3 : wc.cell? ⟨gb150, 3, none⟩ = some (.int .i64 x151003_1) := (blk_cell BK150.out 3).trans rfl
            have hcz47_4 : wc.cell? ⟨gb150, 4, none⟩ = some (.string x151004_1) := (blk_cell BK150.out 4).trans rfl
            have hfz47_0 := blk_frozen BK150.out 0
            have hfz47_1 := blk_frozen BK150.out 1
            have hfz47_2 := blk_frozen BK150.out 2
            have hfz47_3 := blk_frozen BK150.out 3
            have hfz47_4 := blk_frozen BK150.out 4
            go_wp2
            refine bodyPost_ret (results_ct rfl _ _ gb150 24 #[.int .i64 0, .int .i64 0, .int .i64 0, .int .i64 0, .string (⟨#[]⟩ : ByteArray)] (0, 0) _ rfl z1_ Try.underlying24 rfl (by kernel_rfl)) rfl ?_
            exact ⟨z72_, z15_⟩
          replace c45 := Bool.eq_false_iff.mpr c45
          subst c45
          have H1 : (if 0 ≤ (wrap64 (x5_1 + t162)) then (if (wrap64 (x5_1 + t162)) ≤ (wrap64 ((wrap64 (x5_1 + t162)) + (wrap64 (t161)))) then (if (wrap64 ((wrap64 (x5_1 + t162)) + (wrap64 (t161)))) ≤ (l0.length : Int) then ((journal_Right.f kj38 (wrap64 (rd l0 0)) x153001_1 x153002_1 x153003_1 (strOfNums ((l0.take ((wrap64 ((wrap64 (x5_1 + t162)) + (wrap64 (t161)))) : Int).toNat).drop ((wrap64 (x5_1 + t162)) : Int).toNat))).bind fun t164 => (if t164 = 0 then (some ((wrap64 (rd l0 0)), x153001_1, x153002_1, x153003_1, strOfNums ((l0.take ((wrap64 ((wrap64 (x5_1 + t162)) + (wrap64 (t161)))) : Int).toNat).drop ((wrap64 (x5_1 + t162)) : Int).toNat), wrap64 ((wrap64 (x5_1 + t162)) + (wrap64 (t161))))) else (some (0, 0, 0, 0, (⟨#[]⟩ : ByteArray), 0)))) else (none)) else (none)) else (none)) = some (r1, r2, r3, r4, r5, r6) := by rw [if_neg (show ¬ (false = true) by decide)] at H; exact H
          clear H
          have H := H1
          clear H1
          obtain ⟨ji48, hji48⟩ : ∃ j_ : Int, (wrap64 (x5_1 + t162)) = j_ := ⟨_, rfl⟩
          replace H : (if 0 ≤ (ji48) then (if (ji48) ≤ (wrap64 ((ji48) + (wrap64 (t161)))) then (if (wrap64 ((ji48) + (wrap64 (t161)))) ≤ (l0.length : Int) then ((journal_Right.f kj38 (wrap64 (rd l0 0)) x153001_1 x153002_1 x153003_1 (strOfNums ((l0.take ((wrap64 ((ji48) + (wrap64 (t161)))) : Int).toNat).drop ((ji48) : Int).toNat))).bind fun t164 => (if t164 = 0 then (some ((wrap64 (rd l0 0)), x153001_1, x153002_1, x153003_1, strOfNums ((l0.take ((wrap64 ((ji48) + (wrap64 (t161)))) : Int).toNat).drop ((ji48) : Int).toNat), wrap64 ((ji48) + (wrap64 (t161))))) else (some (0, 0, 0, 0, (⟨#[]⟩ : ByteArray), 0)))) else (none)) else (none)) else (none)) = some (r1, r2, r3, r4, r5, r6) := by first | (rw [hji48] at H; exact H) | (simp only [hji48] at H ⊢; exact H)
          have hji48w : (IntKind.i64.wrap (x5_1 + t162)) = ji48 := (i64_w _).trans hji48
          by_cases c49 : 0 ≤ (ji48)
          rotate_left
          · rw [if_neg c49] at H
            exact absurd H (by simp)
          rw [if_pos c49] at H
          have c49b0 := eq_true c49
          have c49b1 : decide (0 ≤ (ji48)) = true := decide_eq_true c49
          clear c49
          by_cases c50 : (ji48) ≤ (wrap64 ((ji48) + (wrap64 (t161))))
          rotate_left
          · rw [if_neg c50] at H
            exact absurd H (by simp)
          rw [if_pos c50] at H
          have c50b0 := eq_true c50
          have c50b1 : decide ((ji48) ≤ (wrap64 ((ji48) + (wrap64 (t161))))) = true := decide_eq_true c50
          by_cases c51 : (wrap64 ((ji48) + (wrap64 (t161)))) ≤ (l0.length : Int)
          rotate_left
          · rw [if_neg c51] at H
            exact absurd H (by simp)
          rw [if_pos c51] at H
          have c51b0 := eq_true c51
          have c51b1 : decide ((wrap64 ((ji48) + (wrap64 (t161)))) ≤ (l0.length : Int)) = true := decide_eq_true c51
          replace H := Option.bind_eq_some_iff.mp H
          obtain ⟨t164, A520, H⟩ := H
          replace H : (if t164 = 0 then (some ((wrap64 (rd l0 0)), x153001_1, x153002_1, x153003_1, strOfNums ((l0.take ((wrap64 ((ji48) + (wrap64 (t161)))) : Int).toNat).drop ((ji48) : Int).toNat), wrap64 ((ji48) + (wrap64 (t161))))) else (some (0, 0, 0, 0, (⟨#[]⟩ : ByteArray), 0))) = some (r1, r2, r3, r4, r5, r6) := H
          have A52 := Aside0.mk A520
          clear A520
          by_cases c53 : t164 = 0
          rotate_left
          · rw [if_neg c53] at H
            have c53b0 : (t164 == 0) = false := beq_eq_false_iff_ne.mpr c53
            have c53b1 : (t164 != 0) = true := bne_iff_ne.mpr c53
            simp only [Option.some.injEq, Prod.mk.injEq] at H
            obtain ⟨rfl, rfl, rfl, rfl, rfl, rfl⟩ := H
            obtain ⟨i061, hi061, _, hsz61, _⟩ := info_parts info5
            obtain ⟨A61, hcut61, hA61, hC61⟩ := print_mid_of (P := Try.prog) (Value.int .u8) 0 22 5 .i64 .i64 Try.underlying22 hi061 hsz61 (some ad151) c0 l0 (ji48) (wrap64 ((ji48) + (wrap64 (t161)))) (of_decide_eq_true z80_) z73_ (of_decide_eq_true z80_) HC0.out
            have HR163 := Aside0.mk (Kd.C_of_reads (h1 := fun _ => rfl) (hA61 _ (Kd.reads_of_C HR0.out)))
            have HC163 := Aside0.mk hC61
            clear hA61 hC61 hi061 hsz61
            have hcv62 := Kd.C_string (P := Try.prog) (A := A61) (c := (c0 - (ji48).toNat)) Try.underlying22 Try.underlying5 Try.underlying9 (Kd.C_below HR163.out HB.out)
            have hcw62 := hcv62
            (try rw [show ((l0.take ((wrap64 ((ji48) + (wrap64 (t161)))) : Int).toNat).drop ((ji48) : Int).toNat).length = ((wrap64 ((ji48) + (wrap64 (t161)))).toNat - (ji48).toNat) from (by rw [List.length_drop, List.length_take]; have h_ : ((wrap64 ((ji48) + (wrap64 (t161)))) : Int) ≤ (l0.length : Int) := of_decide_eq_true z80_; omega)] at hcw62)
            have hnb63 := NB152_150.out
            have hnc63 := NB150_152.out
            have hcz64_0 : wc.cell? ⟨gb152, 0, none⟩ = some (.int .i64 (wrap64 (rd l0 0))) := (blk_cell BK152.out 0).trans rfl
            have hcz64_1 : wc.cell? ⟨gb152, 1, none⟩ = some (.int .i64 x153001_1) := (blk_cell BK152.out 1).trans rfl
            have hcz64_2 : wc.cell? ⟨gb152, 2, none⟩ = some (.int .i64 x153002_1) := (blk_cell BK152.out 2).trans rfl
            have hcz64_3 : wc.cell? ⟨gb152, 3, none⟩ = some (.int .i64 x153003_1) := (blk_cell BK152.out 3).trans rfl
            have hcz64_4 : wc.cell? ⟨gb152, 4, none⟩ = some (.string (⟨#[]⟩ : ByteArray)) := (blk_cell BK152.out 4).trans rfl
            have hfz64_0 := blk_frozen BK152.out 0
            have hfz64_1 := blk_frozen BK152.out 1
            have hfz64_2 := blk_frozen BK152.out 2
            have hfz64_3 := blk_frozen BK152.out 3
            have hfz64_4 := blk_frozen BK152.out 4
            go_wp2_with (first | ((with_reducible refine gate_callee (f := 10) rfl ?_); refine goesL_ (some 101) rfl rfl Try.func10 (by kernel_rfl) rfl #[.agg #[.int .i64 (wrap64 (rd l0 0)), .int .i64 x153001_1, .int .i64 x153002_1, .int .i64 x153003_1, .string (strOfNums ((l0.take ((wrap64 ((ji48) + (wrap64 (t161)))) : Int).toNat).drop ((ji48) : Int).toNat))]] rfl z28_ ?_; (with_reducible refine (journal_Right.calls kj38 (wrap64 (rd l0 0)) x153001_1 x153002_1 x153003_1 (strOfNums ((l0.take ((wrap64 ((ji48) + (wrap64 (t161)))) : Int).toNat).drop ((ji48) : Int).toNat)) t164 _ A52.out).mono ?_); rintro e w65 ⟨rfl, hb⟩; refine ⟨_, rfl, ?_⟩; replace BK150 := Aside0.mk (blk_below (g := gb150) (o := .cells #[.int .i64 x151000_1, .int .i64 x151001_1, .int .i64 x151002_1, .int .i64 x151003_1, .string x151004_1] 24 (0, 0)) z7_ hb); replace BK152 := Aside0.mk (blk_below (g := gb152) (o := .cells #[.int .i64 (wrap64 (rd l0 0)), .int .i64 x153001_1, .int .i64 x153002_1, .int .i64 x153003_1, .string (strOfNums ((l0.take ((wrap64 ((ji48) + (wrap64 (t161)))) : Int).toNat).drop ((ji48) : Int).toNat))] 24 (0, 0)) z4_ hb); replace HB := Aside0.mk (below_step z15_ hb); (try clear hb); (try clear hb2); (try clear hk); (try clear hi); have hcz66_0 : w65.cell? ⟨gb150, 0, none⟩ = some (.int .i64 x151000_1) := (blk_cell BK150.out 0).trans rfl; have hcz66_1 : w65.cell? ⟨gb150, 1, none⟩ = some (.int .i64 x151001_1) := (blk_cell BK150.out 1).trans rfl; have hcz66_2 : w65.cell? ⟨gb150, 2, none⟩ = some (.int .i64 x151002_1) := (blk_cell BK150.out 2).trans rfl; have hcz66_3 : w65.cell? ⟨gb150, 3, none⟩ = some (.int .i64 x151003_1) := (blk_cell BK150.out 3).trans rfl; have hcz66_4 : w65.cell? ⟨gb150, 4, none⟩ = some (.string x151004_1) := (blk_cell BK150.out 4).trans rfl; have hfz66_0 := blk_frozen BK150.out 0; have hfz66_1 := blk_frozen BK150.out 1; have hfz66_2 := blk_frozen BK150.out 2; have hfz66_3 := blk_frozen BK150.out 3; have hfz66_4 := blk_frozen BK150.out 4))
            refine bodyPost_ret (results_ct rfl _ _ gb150 24 #[.int .i64 0, .int .i64 0, .int .i64 0, .int .i64 0, .string (⟨#[]⟩ : ByteArray)] (0, 0) _ rfl z1_ Try.underlying24 rfl (by kernel_rfl)) rfl ?_
            exact ⟨z27_, z15_⟩
          rw [if_pos c53] at H
          have c53b0 : (t164 == 0) = true := beq_iff_eq.mpr c53
          have c53b1 : (t164 != 0) = false := bne_eq_false_iff_eq.mpr c53
          clear c53
          simp only [Option.some.injEq, Prod.mk.injEq] at H
          obtain ⟨rfl, rfl, rfl, rfl, rfl, rfl⟩ := H
          obtain ⟨i054, hi054, _, hsz54, _⟩ := info_parts info5
          obtain ⟨A54, hcut54, hA54, hC54⟩ := print_mid_of (P := Try.prog) (Value.int .u8) 0 22 5 .i64 .i64 Try.underlying22 hi054 hsz54 (some ad151) c0 l0 (ji48) (wrap64 ((ji48) + (wrap64 (t161)))) (of_decide_eq_true z80_) z73_ (of_decide_eq_true z80_) HC0.out
          have HR163 := Aside0.mk (Kd.C_of_reads (h1 := fun _ => rfl) (hA54 _ (Kd.reads_of_C HR0.out)))
          have HC163 := Aside0.mk hC54
          clear hA54 hC54 hi054 hsz54
          have hcv55 := Kd.C_string (P := Try.prog) (A := A54) (c := (c0 - (ji48).toNat)) Try.underlying22 Try.underlying5 Try.underlying9 (Kd.C_below HR163.out HB.out)
          have hcw55 := hcv55
          (try rw [show ((l0.take ((wrap64 ((ji48) + (wrap64 (t161)))) : Int).toNat).drop ((ji48) : Int).toNat).length = ((wrap64 ((ji48) + (wrap64 (t161)))).toNat - (ji48).toNat) from (by rw [List.length_drop, List.length_take]; have h_ : ((wrap64 ((ji48) + (wrap64 (t161)))) : Int) ≤ (l0.length : Int) := of_decide_eq_true z80_; omega)] at hcw55)
          have hnb56 := NB152_150.out
          have hnc56 := NB150_152.out
          have hcz57_0 : wc.cell? ⟨gb152, 0, none⟩ = some (.int .i64 (wrap64 (rd l0 0))) := (blk_cell BK152.out 0).trans rfl
          have hcz57_1 : wc.cell? ⟨gb152, 1, none⟩ = some (.int .i64 x153001_1) := (blk_cell BK152.out 1).trans rfl
          have hcz57_2 : wc.cell? ⟨gb152, 2, none⟩ = some (.int .i64 x153002_1) := (blk_cell BK152.out 2).trans rfl
          have hcz57_3 : wc.cell? ⟨gb152, 3, none⟩ = some (.int .i64 x153003_1) := (blk_cell BK152.out 3).trans rfl
          have hcz57_4 : wc.cell? ⟨gb152, 4, none⟩ = some (.string (⟨#[]⟩ : ByteArray)) := (blk_cell BK152.out 4).trans rfl
          have hfz57_0 := blk_frozen BK152.out 0
          have hfz57_1 := blk_frozen BK152.out 1
          have hfz57_2 := blk_frozen BK152.out 2
          have hfz57_3 := blk_frozen BK152.out 3
          have hfz57_4 := blk_frozen BK152.out 4
          go_wp2_with (first | ((with_reducible refine gate_callee (f := 10) rfl ?_); refine goesL_ (some 101) rfl rfl Try.func10 (by kernel_rfl) rfl #[.agg #[.int .i64 (wrap64 (rd l0 0)), .int .i64 x153001_1, .int .i64 x153002_1, .int .i64 x153003_1, .string (strOfNums ((l0.take ((wrap64 ((ji48) + (wrap64 (t161)))) : Int).toNat).drop ((ji48) : Int).toNat))]] rfl z28_ ?_; (with_reducible refine (journal_Right.calls kj38 (wrap64 (rd l0 0)) x153001_1 x153002_1 x153003_1 (strOfNums ((l0.take ((wrap64 ((ji48) + (wrap64 (t161)))) : Int).toNat).drop ((ji48) : Int).toNat)) t164 _ A52.out).mono ?_); rintro e w58 ⟨rfl, hb⟩; refine ⟨_, rfl, ?_⟩; replace BK150 := Aside0.mk (blk_below (g := gb150) (o := .cells #[.int .i64 x151000_1, .int .i64 x151001_1, .int .i64 x151002_1, .int .i64 x151003_1, .string x151004_1] 24 (0, 0)) z7_ hb); replace BK152 := Aside0.mk (blk_below (g := gb152) (o := .cells #[.int .i64 (wrap64 (rd l0 0)), .int .i64 x153001_1, .int .i64 x153002_1, .int .i64 x153003_1, .string (strOfNums ((l0.take ((wrap64 ((ji48) + (wrap64 (t161)))) : Int).toNat).drop ((ji48) : Int).toNat))] 24 (0, 0)) z4_ hb); replace HB := Aside0.mk (below_step z15_ hb); (try clear hb); (try clear hb2); (try clear hk); (try clear hi); have hcz59_0 : w58.cell? ⟨gb152, 0, none⟩ = some (.int .i64 (wrap64 (rd l0 0))) := (blk_cell BK152.out 0).trans rfl; have hcz59_1 : w58.cell? ⟨gb152, 1, none⟩ = some (.int .i64 x153001_1) := (blk_cell BK152.out 1).trans rfl; have hcz59_2 : w58.cell? ⟨gb152, 2, none⟩ = some (.int .i64 x153002_1) := (blk_cell BK152.out 2).trans rfl; have hcz59_3 : w58.cell? ⟨gb152, 3, none⟩ = some (.int .i64 x153003_1) := (blk_cell BK152.out 3).trans rfl; have hcz59_4 : w58.cell? ⟨gb152, 4, none⟩ = some (.string (strOfNums ((l0.take ((wrap64 ((ji48) + (wrap64 (t161)))) : Int).toNat).drop ((ji48) : Int).toNat))) := (blk_cell BK152.out 4).trans rfl; have hfz59_0 := blk_frozen BK152.out 0; have hfz59_1 := blk_frozen BK152.out 1; have hfz59_2 := blk_frozen BK152.out 2; have hfz59_3 := blk_frozen BK152.out 3; have hfz59_4 := blk_frozen BK152.out 4; have hcz60_0 : w58.cell? ⟨gb150, 0, none⟩ = some (.int .i64 x151000_1) := (blk_cell BK150.out 0).trans rfl; have hcz60_1 : w58.cell? ⟨gb150, 1, none⟩ = some (.int .i64 x151001_1) := (blk_cell BK150.out 1).trans rfl; have hcz60_2 : w58.cell? ⟨gb150, 2, none⟩ = some (.int .i64 x151002_1) := (blk_cell BK150.out 2).trans rfl; have hcz60_3 : w58.cell? ⟨gb150, 3, none⟩ = some (.int .i64 x151003_1) := (blk_cell BK150.out 3).trans rfl; have hcz60_4 : w58.cell? ⟨gb150, 4, none⟩ = some (.string x151004_1) := (blk_cell BK150.out 4).trans rfl; have hfz60_0 := blk_frozen BK150.out 0; have hfz60_1 := blk_frozen BK150.out 1; have hfz60_2 := blk_frozen BK150.out 2; have hfz60_3 := blk_frozen BK150.out 3; have hfz60_4 := blk_frozen BK150.out 4))
          refine bodyPost_ret (results_ct rfl _ _ gb150 24 #[.int .i64 (wrap64 (rd l0 0)), .int .i64 x153001_1, .int .i64 x153002_1, .int .i64 x153003_1, .string (strOfNums ((l0.take ((wrap64 ((ji48) + (wrap64 (t161)))) : Int).toNat).drop ((ji48) : Int).toNat))] (0, 0) _ rfl z0_ Try.underlying24 rfl (by kernel_rfl)) rfl ?_
          exact ⟨z27_, z15_⟩
/-! ### journal_Parse: function 12 -/
def journal_Parse.l0 : Nat → List Int → List (S24) → Int → Option ((List (S24)) × Int × Int)
  | 0, _, _, _ => none
  | k + 1, x0, x5, x6 => if x6 < (x0.length : Int) then (if 0 ≤ x6 then (if x6 ≤ (x0.length : Int) then ((journal_one.f k (x0.drop (x6 : Int).toNat)).bind fun bt167 => (if bt167.2.2.2.2.2 = 0 then (some (x5, x6, 230)) else (if x5.length < 2932031007402 then (journal_Parse.l0 k x0 (x5 ++ [(⟨bt167.1, bt167.2.1, bt167.2.2.1, bt167.2.2.2.1, bt167.2.2.2.2.1⟩ : S24)]) (wrap64 (x6 + bt167.2.2.2.2.2))) else (none)))) else (none)) else (none)) else (some (x5, x6, 0))
def journal_Parse.f (k : Nat) (l0 : List Int) : Option ((List (S24)) × Int × Int) := journal_Parse.l0 k l0 ([] : List (S24)) 0
theorem journal_Parse.mono_l : ∀ k, (∀ y0 y1 y2, LeO (journal_Parse.l0 k y0 y1 y2) (journal_Parse.l0 (k + 1) y0 y1 y2))
  | 0 => fun _ _ _ r h => by simp [journal_Parse.l0] at h
  | k + 1 => by
    have ih0 := journal_Parse.mono_l k
    · intro y0 y1 y2
      unfold journal_Parse.l0
      repeat' first | (with_reducible first | exact ih0 _ _ _ | exact journal_one.mono _ _ | exact LeO.refl _ | exact LeO.none _ | refine LeO.ite ?_ ?_ | refine LeO.bind ?_ (fun _ => ?_)) | exact ih0 _ _ _ | exact journal_one.mono _ _ | exact LeO.none _ | refine LeO.ite ?_ ?_ | refine LeO.bind ?_ (fun _ => ?_)
theorem journal_Parse.mono : ∀ a0 k, LeO (journal_Parse.f k a0) (journal_Parse.f (k + 1) a0) := by
  intro a0 k
  have ih0 := journal_Parse.mono_l k
  unfold journal_Parse.f
  repeat' first | (with_reducible first | exact ih0 _ _ _ | exact journal_one.mono _ _ | exact LeO.refl _ | exact LeO.none _ | refine LeO.ite ?_ ?_ | refine LeO.bind ?_ (fun _ => ?_)) | exact ih0 _ _ _ | exact journal_one.mono _ _ | exact LeO.none _ | refine LeO.ite ?_ ?_ | refine LeO.bind ?_ (fun _ => ?_)
set_option maxHeartbeats 8000000 in
set_option maxRecDepth 100000 in
theorem journal_Parse.calls (k : Nat) (A0 : Option Addr) (c0 : Nat) (l0 : List Int) (r1 : List (S24)) (r2 : Int) (r3 : Int) (w : World) (hr0 : Kd.C (Kd.int .u8) w A0 l0.length l0) (hc0 : l0.length ≤ c0) (h : journal_Parse.f k l0 = some (r1, r2, r3)) :
    Calls Try.prog 12 #[.slice A0 l0.length c0] w fun e w' => ∃ v0_ : Value, e = .returned (.tuple #[v0_, .int .i64 r2, .int .i64 r3]) ∧ Kd.R k24 24 w' w.heap.size (fun _ => True) v0_ r1 ∧ Below w.heap.size w w' := by
  have hu24 := Try.underlying24
  have HR0 := Aside0.mk hr0
  have HC0 := Aside0.mk hc0
  clear hr0 hc0
  have HB := Aside0.mk (Below.refl w.heap.size w)
  have H : (journal_Parse.l0 k l0 ([] : List (S24)) 0) = some (r1, r2, r3) := h
  clear h
  have H' := Aside0.mk H
  clear H
  go_enter Try.func12, Try.ntmps12
  go_wp2
  go_loopg [5, 6] k (fun kq v5 v6 w' => ∃ (x5_1 : List (S24)) (x6_1 : Int), v6 = .int .i64 x6_1 ∧ Aside0 (journal_Parse.l0 kq l0 x5_1 x6_1 = some (r1, r2, r3)) ∧ Aside0 (kq ≤ k) ∧ Aside0 (Kd.R k24 24 w' w.heap.size (fun _ => True) v5 x5_1) ∧ Aside0 (Below w.heap.size w w'))
  case atStart => exact ⟨(([] : List (S24))), (0), z81_, H', ⟨Nat.le_refl _⟩, ⟨z38_⟩, ⟨z44_⟩⟩
  case round =>
    clear H'
    try clear c1
    obtain ⟨x5_1, x6_1, rfl, HA, HK1, HO_5, HB⟩ := hrel
    cases gk with
    | zero => exact absurd HA.out (by simp [journal_Parse.l0])
    | succ k1 =>
      have H := HA.out
      clear HA
      simp only [journal_Parse.l0] at H
      by_cases c2 : x6_1 < (l0.length : Int)
      rotate_left
      · rw [if_neg c2] at H
        have c2b0 : decide (x6_1 < (l0.length : Int)) = false := decide_eq_false c2
        clear c2
        simp only [Option.some.injEq, Prod.mk.injEq] at H
        obtain ⟨rfl, rfl, rfl⟩ := H
        go_wp2
        go_ret3
        exact ⟨_, z72_, z68_, z44_⟩
      rw [if_pos c2] at H
      have c2b0 : decide (x6_1 < (l0.length : Int)) = true := decide_eq_true c2
      clear c2
      by_cases c3 : 0 ≤ x6_1
      rotate_left
      · rw [if_neg c3] at H
        exact absurd H (by simp)
      rw [if_pos c3] at H
      have c3b0 := eq_true c3
      have c3b1 : decide (0 ≤ x6_1) = true := decide_eq_true c3
      clear c3
      by_cases c4 : x6_1 ≤ (l0.length : Int)
      rotate_left
      · rw [if_neg c4] at H
        exact absurd H (by simp)
      rw [if_pos c4] at H
      have c4b0 := eq_true c4
      have c4b1 : decide (x6_1 ≤ (l0.length : Int)) = true := decide_eq_true c4
      clear c4
      replace H := Option.bind_eq_some_iff.mp H
      obtain ⟨⟨t167, t168, t169, t170, t171, t172⟩, A50, H⟩ := H
      replace H : (if t172 = 0 then (some (x5_1, x6_1, 230)) else (if x5_1.length < 2932031007402 then (journal_Parse.l0 k1 l0 (x5_1 ++ [(⟨t167, t168, t169, t170, t171⟩ : S24)]) (wrap64 (x6_1 + t172))) else (none))) = some (r1, r2, r3) := H
      have A5 := Aside0.mk A50
      clear A50
      by_cases c6 : t172 = 0
      · rw [if_pos c6] at H
        have c6b0 : (t172 == 0) = true := beq_iff_eq.mpr c6
        have c6b1 : (t172 != 0) = false := bne_eq_false_iff_eq.mpr c6
        clear c6
        simp only [Option.some.injEq, Prod.mk.injEq] at H
        obtain ⟨rfl, rfl, rfl⟩ := H
        obtain ⟨i07, hi07, _, hsz7, _⟩ := info_parts info5
        obtain ⟨A7, hcut7, hA7, hC7⟩ := print_drop_of (P := Try.prog) (Value.int .u8) 0 22 5 .i64 Try.underlying22 hi07 hsz7 A0 c0 l0 x6_1 (of_decide_eq_true z80_) (of_decide_eq_true z80_) HC0.out
        have HR166 := Aside0.mk (Kd.C_of_reads (h1 := fun _ => rfl) (hA7 _ (Kd.reads_of_C HR0.out)))
        have HC166 := Aside0.mk hC7
        clear hA7 hC7 hi07 hsz7
        go_wp2_with (first | ((with_reducible refine gate_callee (f := 27) rfl ?_); refine goesL_ (some 17) rfl rfl Try.func27 (by kernel_rfl) rfl #[.slice A7 (l0.drop (x6_1 : Int).toNat).length (c0 - x6_1.toNat)] rfl z10_ ?_; (with_reducible refine (journal_one.calls k1 _ _ (l0.drop (x6_1 : Int).toNat) t167 t168 t169 t170 t171 t172 _ ?side1 ?side2 A5.out).mono ?_); (case side1 => exact z21_); (case side2 => exact HC166.out); rintro e w8 ⟨rfl, hb⟩; refine ⟨_, rfl, ?_⟩; replace HO_5 := Aside0.mk (Kd.R_below z68_ hb); replace HB := Aside0.mk (below_step z44_ hb); (try clear hb); (try clear hb2); (try clear hk); (try clear hi)) | ((with_reducible refine gate_dst (N := 7) rfl ?_); refine box_event ?hg (N := 7) ?hd (cs := #[.int .i64 0, .int .i64 0, .int .i64 0, .int .i64 0, .string (⟨#[]⟩ : ByteArray)]) (t := 24) ?hr ?_; (case hd => rfl); (case hg => rfl); (case hr => exact z82_); intro gb173 hg w9 hbox hb; replace HO_5 := Aside0.mk (Kd.R_below (Kd.R_elderB z68_ gb173 (Nat.le_of_eq hg.symm)) hb); have BK173 := Aside0.mk (hbox); have GW173 := Aside0.mk ((z29_ : w.heap.size ≤ gb173)); have GE173 := Aside0.mk ((z29_ : w.heap.size ≤ gb173)); replace HB := Aside0.mk (below_step z44_ hb); clear hb hbox hg; have hcz10_0 : w9.cell? ⟨gb173, 0, none⟩ = some (.int .i64 0) := (blk_cell BK173.out 0).trans rfl; have hcz10_1 : w9.cell? ⟨gb173, 1, none⟩ = some (.int .i64 0) := (blk_cell BK173.out 1).trans rfl; have hcz10_2 : w9.cell? ⟨gb173, 2, none⟩ = some (.int .i64 0) := (blk_cell BK173.out 2).trans rfl; have hcz10_3 : w9.cell? ⟨gb173, 3, none⟩ = some (.int .i64 0) := (blk_cell BK173.out 3).trans rfl; have hcz10_4 : w9.cell? ⟨gb173, 4, none⟩ = some (.string (⟨#[]⟩ : ByteArray)) := (blk_cell BK173.out 4).trans rfl; have hfz10_0 := blk_frozen BK173.out 0; have hfz10_1 := blk_frozen BK173.out 1; have hfz10_2 := blk_frozen BK173.out 2; have hfz10_3 := blk_frozen BK173.out 3; have hfz10_4 := blk_frozen BK173.out 4))
        go_ret3
        exact ⟨_, z72_, by (with_reducible repeat (first | apply Kd.R_alloc | apply Kd.R_drewN | apply Kd.R_drew)); exact Kd.R_mono (Kd.R_far (p := ⟨gb173, 4, none⟩) (Kd.R_far (p := ⟨gb173, 3, none⟩) (Kd.R_far (p := ⟨gb173, 2, none⟩) (Kd.R_far (p := ⟨gb173, 1, none⟩) (Kd.R_far (p := ⟨gb173, 0, none⟩) (Kd.R_mono HO_5.out (fun k_ hk => (⟨hk, hk.2⟩ : _ ∧ k_ ≠ gb173))) (fun _ hk => hk.2) (.int .i64 t167)) (fun _ hk => hk.2) (.int .i64 t168)) (fun _ hk => hk.2) (.int .i64 t169)) (fun _ hk => hk.2) (.int .i64 t170)) (fun _ hk => hk.2) (.string t171)) (fun _ hk => trivial), z33_⟩
      rw [if_neg c6] at H
      have c6b0 : (t172 == 0) = false := beq_eq_false_iff_ne.mpr c6
      have c6b1 : (t172 != 0) = true := bne_iff_ne.mpr c6
      by_cases c11 : x5_1.length < 2932031007402
      rotate_left
      · rw [if_neg c11] at H
        exact absurd H (by simp)
      rw [if_pos c11] at H
      have LMc11 := Aside0.mk c11
      clear c11
      obtain ⟨y174, hy174⟩ : ∃ y_ : List (S24), y_ = (x5_1 ++ [(⟨t167, t168, t169, t170, t171⟩ : S24)]) := ⟨_, rfl⟩
      replace H : (journal_Parse.l0 k1 l0 y174 (wrap64 (x6_1 + t172))) = some (r1, r2, r3) := by first | (rw [hy174]; with_reducible exact H) | (have H2_ := (Option.bind_some _ _).symm.trans H; rw [hy174]; with_reducible exact H2_) | (have H2_ := (Option.bind_some _ _).symm.trans H; with_reducible exact H2_) | with_reducible exact H | (rw [hy174]; exact H) | exact H
      have Ny174 := Aside0.mk hy174
      clear hy174
      have H' := Aside0.mk H
      clear H
      obtain ⟨i012, hi012, _, hsz12, _⟩ := info_parts info5
      obtain ⟨A12, hcut12, hA12, hC12⟩ := print_drop_of (P := Try.prog) (Value.int .u8) 0 22 5 .i64 Try.underlying22 hi012 hsz12 A0 c0 l0 x6_1 (of_decide_eq_true z80_) (of_decide_eq_true z80_) HC0.out
      have HR166 := Aside0.mk (Kd.C_of_reads (h1 := fun _ => rfl) (hA12 _ (Kd.reads_of_C HR0.out)))
      have HC166 := Aside0.mk hC12
      clear hA12 hC12 hi012 hsz12
      go_wp2_with (first | ((with_reducible refine gate_callee (f := 27) rfl ?_); refine goesL_ (some 17) rfl rfl Try.func27 (by kernel_rfl) rfl #[.slice A12 (l0.drop (x6_1 : Int).toNat).length (c0 - x6_1.toNat)] rfl z10_ ?_; (with_reducible refine (journal_one.calls k1 _ _ (l0.drop (x6_1 : Int).toNat) t167 t168 t169 t170 t171 t172 _ ?side1 ?side2 A5.out).mono ?_); (case side1 => exact z21_); (case side2 => exact HC166.out); rintro e w13 ⟨rfl, hb⟩; refine ⟨_, rfl, ?_⟩; replace HO_5 := Aside0.mk (Kd.R_below z68_ hb); replace HB := Aside0.mk (below_step z44_ hb); (try clear hb); (try clear hb2); (try clear hk); (try clear hi)) | ((with_reducible refine gate_dst (N := 7) rfl ?_); refine box_event ?hg (N := 7) ?hd (cs := #[.int .i64 0, .int .i64 0, .int .i64 0, .int .i64 0, .string (⟨#[]⟩ : ByteArray)]) (t := 24) ?hr ?_; (case hd => rfl); (case hg => rfl); (case hr => exact z82_); intro gb173 hg w14 hbox hb; replace HO_5 := Aside0.mk (Kd.R_below (Kd.R_elderB z68_ gb173 (Nat.le_of_eq hg.symm)) hb); have BK173 := Aside0.mk (hbox); have GW173 := Aside0.mk ((z29_ : w.heap.size ≤ gb173)); have GE173 := Aside0.mk ((z29_ : w.heap.size ≤ gb173)); replace HB := Aside0.mk (below_step z44_ hb); clear hb hbox hg; have hcz15_0 : w14.cell? ⟨gb173, 0, none⟩ = some (.int .i64 0) := (blk_cell BK173.out 0).trans rfl; have hcz15_1 : w14.cell? ⟨gb173, 1, none⟩ = some (.int .i64 0) := (blk_cell BK173.out 1).trans rfl; have hcz15_2 : w14.cell? ⟨gb173, 2, none⟩ = some (.int .i64 0) := (blk_cell BK173.out 2).trans rfl; have hcz15_3 : w14.cell? ⟨gb173, 3, none⟩ = some (.int .i64 0) := (blk_cell BK173.out 3).trans rfl; have hcz15_4 : w14.cell? ⟨gb173, 4, none⟩ = some (.string (⟨#[]⟩ : ByteArray)) := (blk_cell BK173.out 4).trans rfl; have hfz15_0 := blk_frozen BK173.out 0; have hfz15_1 := blk_frozen BK173.out 1; have hfz15_2 := blk_frozen BK173.out 2; have hfz15_3 := blk_frozen BK173.out 3; have hfz15_4 := blk_frozen BK173.out 4) | ((with_reducible refine gate_builtin (b := .append) (xs := #[.tmp 24, .tmp 26]) rfl ?_); at_builtin; refine Kd.R_append k24 (w0 := w) w.heap.size rfl (.tmp 24) (.tmp 26) 35 24 (.agg #[(.int .i64 0), (.int .i64 0), (.int .i64 0), (.int .i64 0), (.string ⟨#[]⟩)]) 48 rfl Try.underlying35 info24 rfl (by decide) (by omega) u5 x5_1 (⟨t167, t168, t169, t170, t171⟩ : S24) [.int .i64 t167, .int .i64 t168, .int .i64 t169, .int .i64 t170, .string t171] (fun k_ => k_ ≠ gb173) (fun _ => False) rfl z82_ ?aP (fun _ hk => hk.elim) ?aF ?aO ?aB ?aS ?aL ?_; (case aP => exact k24_mkM _ _ _ (⟨t167, t168, t169, t170, t171⟩ : S24)); (case aB => exact z33_); (case aF => exact (fun k_ hk => Kd.freshB (g := gb173) (o := .cells #[.int .i64 t167, .int .i64 t168, .int .i64 t169, .int .i64 t170, .string t171] 24 (0, 0)) z2_ k_ hk)); (case aO => exact (by (with_reducible repeat (first | apply Kd.R_alloc | apply Kd.R_drewN | apply Kd.R_drew)); exact Kd.R_mono (Kd.R_far (p := ⟨gb173, 4, none⟩) (Kd.R_far (p := ⟨gb173, 3, none⟩) (Kd.R_far (p := ⟨gb173, 2, none⟩) (Kd.R_far (p := ⟨gb173, 1, none⟩) (Kd.R_far (p := ⟨gb173, 0, none⟩) (Kd.R_mono HO_5.out (fun k_ hk => (⟨hk, hk.2⟩ : _ ∧ k_ ≠ gb173))) (fun _ hk => hk.2) (.int .i64 t167)) (fun _ hk => hk.2) (.int .i64 t168)) (fun _ hk => hk.2) (.int .i64 t169)) (fun _ hk => hk.2) (.int .i64 t170)) (fun _ hk => hk.2) (.string t171)) (fun _ hk => hk.1.2))); (case aS => exact (below_size z33_)); (case aL => have := LMc11.out; omega); intro v175 w16 ho hb hg hat; rw [← Ny174.out] at ho; have n0_ := Aside0.mk (blk_grown (g := gb173) (o := .cells #[.int .i64 t167, .int .i64 t168, .int .i64 t169, .int .i64 t170, .string t171] 24 (0, 0)) z2_ hg (Kd.R_away HO_5.out (fun _ hk => hk.2))); have n1_ := Aside0.mk (hb); have n2_ := Aside0.mk (ho); clear BK173; clear HB; clear HO_5; have BK173 := n0_; have HB := n1_; have HO176 := n2_; clear n0_ n1_ n2_; clear ho hb hg hat))
      go_roundg k1
      case measure => have := HK1.out; omega
      case rel => exact ⟨(y174), (wrap64 (x6_1 + t172)), z81_, H', ⟨z91_⟩, ⟨by (with_reducible repeat (first | apply Kd.R_alloc | apply Kd.R_drewN | apply Kd.R_drew)); exact Kd.R_mono HO176.out (fun _ hk => trivial)⟩, ⟨z33_⟩⟩
end Go.Proofs.Ytkgpnegebpkhlaa.PJournalBack
