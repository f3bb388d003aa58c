-- WRITTEN BY wip/xprint.py of this repo, over the kit's print; functions the print does not take are by hand
import Derived.Test.YtkgpnegebpkhlaaPJournalBackx0
import Derived.Test.YtkgpnegebpkhlaaPJournalBackx3
import Derived.Test.YtkgpnegebpkhlaaPJournalBackx4
import Derived.Test.YtkgpnegebpkhlaaPJournalBackx6
import Derived.Test.YtkgpnegebpkhlaaPJournalBackx7
namespace Go.Proofs.Ytkgpnegebpkhlaa.PJournalBack
open Go.RowKit Go.Proofs.YtkgpnegebpkhlaaW.PrintWords Go.Proofs.YtkgpnegebpkhlaaW.PrintLast Go.Proofs.YtkgpnegebpkhlaaW.PrintMore
attribute [local go_sem] max2_int min2_int max_two min_two max_three min_three max_four min_four   -- for this text's walks alone
set_option linter.unusedVariables false
set_option linter.unusedSimpArgs false
/-! ### regletlaw23_JournalBack: function 5 -/
mutual
def regletlaw23_JournalBack.l0 : Nat → List (S24) → Int → List (S24) → List Int → List Int → Int → Option (Bool)
  | 0, _, _, _, _, _, _ => none
  | k + 1, x0, x1, x5, x6, x7, x8 => if x8 < (x0.length : Int) then (if 0 ≤ x8 then ((journal_Right.f k ((rd_T24 x0 x8).f0) ((rd_T24 x0 x8).f1) ((rd_T24 x0 x8).f2) ((rd_T24 x0 x8).f3) ((rd_T24 x0 x8).f4)).bind fun t200 => (if t200 = 0 then (if x5.length < 2932031007402 then ((journal_Append.f k x6 ((rd_T24 x0 x8).f0) ((rd_T24 x0 x8).f1) ((rd_T24 x0 x8).f2) ((rd_T24 x0 x8).f3) ((rd_T24 x0 x8).f4)).bind fun bt206 => (if x7.length < 17592186044416 then (regletlaw23_JournalBack.l0 k x0 x1 (x5 ++ [(⟨(rd_T24 x0 x8).f0, (rd_T24 x0 x8).f1, (rd_T24 x0 x8).f2, (rd_T24 x0 x8).f3, (rd_T24 x0 x8).f4⟩ : S24)]) bt206.1 (x7 ++ [(bt206.1.length : Int)]) (wrap64 (x8 + 1))) else (none))) else (none)) else (regletlaw23_JournalBack.l0 k x0 x1 x5 x6 x7 (wrap64 (x8 + 1))))) else (none)) else ((journal_Bytes.f k x0).bind fun t213 => (if (strOfNums t213).toList = (strOfNums x6).toList then ((journal_Parse.f k x6).bind fun bt216 => (if bt216.2.2 = 0 then (if bt216.2.1 = (x6.length : Int) then ((regletlaw23_refs.f k bt216.1).bind fun t221 => ((regletlaw23_refs.f k x5).bind fun t224 => ((regletref23_Same.f k t221 t224).bind fun t227 => (regletlaw23_JournalBack.j1 k x1 x5 x6 x7 (!t227))))) else (regletlaw23_JournalBack.j1 k x1 x5 x6 x7 true)) else (regletlaw23_JournalBack.j1 k x1 x5 x6 x7 true))) else (some false)))
def regletlaw23_JournalBack.j1 : Nat → Int → List (S24) → List Int → List Int → Bool → Option (Bool)
  | 0, _, _, _, _, _ => none
  | k + 1, x1, x5, x6, x7, x78 => if x78 = true then (some false) else (if x1 < 0 then (regletlaw23_JournalBack.j2 k x1 x5 x6 x7 true) else (regletlaw23_JournalBack.j2 k x1 x5 x6 x7 (decide (x1 > (x6.length : Int)))))
def regletlaw23_JournalBack.j2 : Nat → Int → List (S24) → List Int → List Int → Bool → Option (Bool)
  | 0, _, _, _, _, _ => none
  | k + 1, x1, x5, x6, x7, x86 => if x86 = true then (some true) else (regletlaw23_JournalBack.l1 k x1 x5 x6 x7 0)
def regletlaw23_JournalBack.j4 : Nat → Int → List (S24) → List Int → List Int → Int → Option (Bool)
  | 0, _, _, _, _, _ => none
  | k + 1, x1, x5, x6, x7, x12 => if 0 ≤ x1 then (if x1 ≤ (x6.length : Int) then ((journal_Parse.f k (x6.take (x1 : Int).toNat)).bind fun bt233 => ((regletlaw23_refs.f k bt233.1).bind fun t238 => (if 0 ≤ x12 then (if x12 ≤ (x5.length : Int) then ((regletlaw23_refs.f k (x5.take (x12 : Int).toNat)).bind fun t245 => ((regletref23_Same.f k t238 t245).bind fun t248 => (if t248 = true then (if bt233.2.1 ≤ x1 then (if ((bt233.2.2 == 0) == (bt233.2.1 == x1)) = true then (if x12 = 0 then (if bt233.2.1 = 0 then (some true) else (if x12 > 0 then (if 0 ≤ (wrap64 (x12 - 1)) then (if (wrap64 (x12 - 1)) < (x7.length : Int) then (some (bt233.2.1 == (rd x7 (wrap64 (x12 - 1))))) else (none)) else (none)) else (some false))) else (if x12 > 0 then (if 0 ≤ (wrap64 (x12 - 1)) then (if (wrap64 (x12 - 1)) < (x7.length : Int) then (some (bt233.2.1 == (rd x7 (wrap64 (x12 - 1))))) else (none)) else (none)) else (some false))) else (some false)) else (some false)) else (some false)))) else (none)) else (none)))) else (none)) else (none)
def regletlaw23_JournalBack.l1 : Nat → Int → List (S24) → List Int → List Int → Int → Option (Bool)
  | 0, _, _, _, _, _ => none
  | k + 1, x1, x5, x6, x7, x12 => if x12 < (x7.length : Int) then (if 0 ≤ x12 then (if (rd x7 x12) ≤ x1 then (regletlaw23_JournalBack.l1 k x1 x5 x6 x7 (wrap64 (x12 + 1))) else (regletlaw23_JournalBack.j4 k x1 x5 x6 x7 x12)) else (none)) else (regletlaw23_JournalBack.j4 k x1 x5 x6 x7 x12)
end
def regletlaw23_JournalBack.f (k : Nat) (l0 : List (S24)) (a1 : Int) : Option (Bool) := (regletlaw23_awake.f k).bind fun t197 => (if t197 = true then ((regletlaw23_few.f k l0).bind fun t198 => (if t198 = true then (regletlaw23_JournalBack.l0 k l0 a1 ([] : List (S24)) ([] : List Int) ([] : List Int) 0) else (some true))) else (some false))
theorem regletlaw23_JournalBack.mono_l : ∀ k, (∀ y0 y1 y2 y3 y4 y5, LeO (regletlaw23_JournalBack.l0 k y0 y1 y2 y3 y4 y5) (regletlaw23_JournalBack.l0 (k + 1) y0 y1 y2 y3 y4 y5)) ∧ (∀ y0 y1 y2 y3 y4, LeO (regletlaw23_JournalBack.j1 k y0 y1 y2 y3 y4) (regletlaw23_JournalBack.j1 (k + 1) y0 y1 y2 y3 y4)) ∧ (∀ y0 y1 y2 y3 y4, LeO (regletlaw23_JournalBack.j2 k y0 y1 y2 y3 y4) (regletlaw23_JournalBack.j2 (k + 1) y0 y1 y2 y3 y4)) ∧ (∀ y0 y1 y2 y3 y4, LeO (regletlaw23_JournalBack.j4 k y0 y1 y2 y3 y4) (regletlaw23_JournalBack.j4 (k + 1) y0 y1 y2 y3 y4)) ∧ (∀ y0 y1 y2 y3 y4, LeO (regletlaw23_JournalBack.l1 k y0 y1 y2 y3 y4) (regletlaw23_JournalBack.l1 (k + 1) y0 y1 y2 y3 y4))
  | 0 => ⟨fun _ _ _ _ _ _ r h => by simp [regletlaw23_JournalBack.l0] at h, fun _ _ _ _ _ r h => by simp [regletlaw23_JournalBack.j1] at h, fun _ _ _ _ _ r h => by simp [regletlaw23_JournalBack.j2] at h, fun _ _ _ _ _ r h => by simp [regletlaw23_JournalBack.j4] at h, fun _ _ _ _ _ r h => by simp [regletlaw23_JournalBack.l1] at h⟩
  | k + 1 => by
    obtain ⟨ih0, ih1, ih2, ih3, ih4⟩ := regletlaw23_JournalBack.mono_l k
    refine ⟨?_, ?_, ?_, ?_, ?_⟩
    · intro y0 y1 y2 y3 y4 y5
      unfold regletlaw23_JournalBack.l0
      repeat' first | (with_reducible first | exact ih0 _ _ _ _ _ _ | exact ih1 _ _ _ _ _ | exact ih2 _ _ _ _ _ | exact ih3 _ _ _ _ _ | exact ih4 _ _ _ _ _ | exact journal_Append.mono _ _ _ _ _ _ _ | exact journal_Bytes.mono _ _ | exact journal_Parse.mono _ _ | exact journal_Right.mono _ _ _ _ _ _ | exact regletlaw23_awake.mono _ | exact regletlaw23_few.mono _ _ | exact regletlaw23_refs.mono _ _ | exact regletref23_Same.mono _ _ _ | exact LeO.refl _ | exact LeO.none _ | refine LeO.ite ?_ ?_ | refine LeO.bind ?_ (fun _ => ?_)) | exact ih0 _ _ _ _ _ _ | exact ih1 _ _ _ _ _ | exact ih2 _ _ _ _ _ | exact ih3 _ _ _ _ _ | exact ih4 _ _ _ _ _ | exact journal_Append.mono _ _ _ _ _ _ _ | exact journal_Bytes.mono _ _ | exact journal_Parse.mono _ _ | exact journal_Right.mono _ _ _ _ _ _ | exact regletlaw23_awake.mono _ | exact regletlaw23_few.mono _ _ | exact regletlaw23_refs.mono _ _ | exact regletref23_Same.mono _ _ _ | exact LeO.none _ | refine LeO.ite ?_ ?_ | refine LeO.bind ?_ (fun _ => ?_)
    · intro y0 y1 y2 y3 y4
      unfold regletlaw23_JournalBack.j1
      repeat' first | (with_reducible first | exact ih0 _ _ _ _ _ _ | exact ih1 _ _ _ _ _ | exact ih2 _ _ _ _ _ | exact ih3 _ _ _ _ _ | exact ih4 _ _ _ _ _ | exact journal_Append.mono _ _ _ _ _ _ _ | exact journal_Bytes.mono _ _ | exact journal_Parse.mono _ _ | exact journal_Right.mono _ _ _ _ _ _ | exact regletlaw23_awake.mono _ | exact regletlaw23_few.mono _ _ | exact regletlaw23_refs.mono _ _ | exact regletref23_Same.mono _ _ _ | exact LeO.refl _ | exact LeO.none _ | refine LeO.ite ?_ ?_ | refine LeO.bind ?_ (fun _ => ?_)) | exact ih0 _ _ _ _ _ _ | exact ih1 _ _ _ _ _ | exact ih2 _ _ _ _ _ | exact ih3 _ _ _ _ _ | exact ih4 _ _ _ _ _ | exact journal_Append.mono _ _ _ _ _ _ _ | exact journal_Bytes.mono _ _ | exact journal_Parse.mono _ _ | exact journal_Right.mono _ _ _ _ _ _ | exact regletlaw23_awake.mono _ | exact regletlaw23_few.mono _ _ | exact regletlaw23_refs.mono _ _ | exact regletref23_Same.mono _ _ _ | exact LeO.none _ | refine LeO.ite ?_ ?_ | refine LeO.bind ?_ (fun _ => ?_)
    · intro y0 y1 y2 y3 y4
      unfold regletlaw23_JournalBack.j2
      repeat' first | (with_reducible first | exact ih0 _ _ _ _ _ _ | exact ih1 _ _ _ _ _ | exact ih2 _ _ _ _ _ | exact ih3 _ _ _ _ _ | exact ih4 _ _ _ _ _ | exact journal_Append.mono _ _ _ _ _ _ _ | exact journal_Bytes.mono _ _ | exact journal_Parse.mono _ _ | exact journal_Right.mono _ _ _ _ _ _ | exact regletlaw23_awake.mono _ | exact regletlaw23_few.mono _ _ | exact regletlaw23_refs.mono _ _ | exact regletref23_Same.mono _ _ _ | exact LeO.refl _ | exact LeO.none _ | refine LeO.ite ?_ ?_ | refine LeO.bind ?_ (fun _ => ?_)) | exact ih0 _ _ _ _ _ _ | exact ih1 _ _ _ _ _ | exact ih2 _ _ _ _ _ | exact ih3 _ _ _ _ _ | exact ih4 _ _ _ _ _ | exact journal_Append.mono _ _ _ _ _ _ _ | exact journal_Bytes.mono _ _ | exact journal_Parse.mono _ _ | exact journal_Right.mono _ _ _ _ _ _ | exact regletlaw23_awake.mono _ | exact regletlaw23_few.mono _ _ | exact regletlaw23_refs.mono _ _ | exact regletref23_Same.mono _ _ _ | exact LeO.none _ | refine LeO.ite ?_ ?_ | refine LeO.bind ?_ (fun _ => ?_)
    · intro y0 y1 y2 y3 y4
      unfold regletlaw23_JournalBack.j4
      repeat' first | (with_reducible first | exact ih0 _ _ _ _ _ _ | exact ih1 _ _ _ _ _ | exact ih2 _ _ _ _ _ | exact ih3 _ _ _ _ _ | exact ih4 _ _ _ _ _ | exact journal_Append.mono _ _ _ _ _ _ _ | exact journal_Bytes.mono _ _ | exact journal_Parse.mono _ _ | exact journal_Right.mono _ _ _ _ _ _ | exact regletlaw23_awake.mono _ | exact regletlaw23_few.mono _ _ | exact regletlaw23_refs.mono _ _ | exact regletref23_Same.mono _ _ _ | exact LeO.refl _ | exact LeO.none _ | refine LeO.ite ?_ ?_ | refine LeO.bind ?_ (fun _ => ?_)) | exact ih0 _ _ _ _ _ _ | exact ih1 _ _ _ _ _ | exact ih2 _ _ _ _ _ | exact ih3 _ _ _ _ _ | exact ih4 _ _ _ _ _ | exact journal_Append.mono _ _ _ _ _ _ _ | exact journal_Bytes.mono _ _ | exact journal_Parse.mono _ _ | exact journal_Right.mono _ _ _ _ _ _ | exact regletlaw23_awake.mono _ | exact regletlaw23_few.mono _ _ | exact regletlaw23_refs.mono _ _ | exact regletref23_Same.mono _ _ _ | exact LeO.none _ | refine LeO.ite ?_ ?_ | refine LeO.bind ?_ (fun _ => ?_)
    · intro y0 y1 y2 y3 y4
      unfold regletlaw23_JournalBack.l1
      repeat' first | (with_reducible first | exact ih0 _ _ _ _ _ _ | exact ih1 _ _ _ _ _ | exact ih2 _ _ _ _ _ | exact ih3 _ _ _ _ _ | exact ih4 _ _ _ _ _ | exact journal_Append.mono _ _ _ _ _ _ _ | exact journal_Bytes.mono _ _ | exact journal_Parse.mono _ _ | exact journal_Right.mono _ _ _ _ _ _ | exact regletlaw23_awake.mono _ | exact regletlaw23_few.mono _ _ | exact regletlaw23_refs.mono _ _ | exact regletref23_Same.mono _ _ _ | exact LeO.refl _ | exact LeO.none _ | refine LeO.ite ?_ ?_ | refine LeO.bind ?_ (fun _ => ?_)) | exact ih0 _ _ _ _ _ _ | exact ih1 _ _ _ _ _ | exact ih2 _ _ _ _ _ | exact ih3 _ _ _ _ _ | exact ih4 _ _ _ _ _ | exact journal_Append.mono _ _ _ _ _ _ _ | exact journal_Bytes.mono _ _ | exact journal_Parse.mono _ _ | exact journal_Right.mono _ _ _ _ _ _ | exact regletlaw23_awake.mono _ | exact regletlaw23_few.mono _ _ | exact regletlaw23_refs.mono _ _ | exact regletref23_Same.mono _ _ _ | exact LeO.none _ | refine LeO.ite ?_ ?_ | refine LeO.bind ?_ (fun _ => ?_)
theorem regletlaw23_JournalBack.mono : ∀ a0 a1 k, LeO (regletlaw23_JournalBack.f k a0 a1) (regletlaw23_JournalBack.f (k + 1) a0 a1) := by
  intro a0 a1 k
  obtain ⟨ih0, ih1, ih2, ih3, ih4⟩ := regletlaw23_JournalBack.mono_l k
  unfold regletlaw23_JournalBack.f
  repeat' first | (with_reducible first | exact ih0 _ _ _ _ _ _ | exact ih1 _ _ _ _ _ | exact ih2 _ _ _ _ _ | exact ih3 _ _ _ _ _ | exact ih4 _ _ _ _ _ | exact journal_Append.mono _ _ _ _ _ _ _ | exact journal_Bytes.mono _ _ | exact journal_Parse.mono _ _ | exact journal_Right.mono _ _ _ _ _ _ | exact regletlaw23_awake.mono _ | exact regletlaw23_few.mono _ _ | exact regletlaw23_refs.mono _ _ | exact regletref23_Same.mono _ _ _ | exact LeO.refl _ | exact LeO.none _ | refine LeO.ite ?_ ?_ | refine LeO.bind ?_ (fun _ => ?_)) | exact ih0 _ _ _ _ _ _ | exact ih1 _ _ _ _ _ | exact ih2 _ _ _ _ _ | exact ih3 _ _ _ _ _ | exact ih4 _ _ _ _ _ | exact journal_Append.mono _ _ _ _ _ _ _ | exact journal_Bytes.mono _ _ | exact journal_Parse.mono _ _ | exact journal_Right.mono _ _ _ _ _ _ | exact regletlaw23_awake.mono _ | exact regletlaw23_few.mono _ _ | exact regletlaw23_refs.mono _ _ | exact regletref23_Same.mono _ _ _ | exact LeO.none _ | refine LeO.ite ?_ ?_ | refine LeO.bind ?_ (fun _ => ?_)
def regletlaw23_JournalBack.T26 : Bool × List (List Nat × List Nat) := (true, [([], []), ([0], [0]), ([], []), ([], []), ([2, 3], [2, 3]), ([4, 1], [4]), ([1, 5, 5], [1, 5]), ([6, 6], [6]), ([7], [7]), ([7], [7]), ([8, 9, 7], [7, 8, 9]), ([7, 10], [7, 10]), ([11, 7], [11]), ([12], [12]), ([13, 12], [12, 13]), ([12], [12]), ([12], [12]), ([15, 16, 12], [12, 15, 16]), ([14, 17, 12], [12, 14, 17]), ([12, 18], [12, 18]), ([19, 12], [19]), ([20], [20]), ([21, 20], [20, 21]), ([22, 20, 20], [20, 22]), ([23], [23]), ([24, 23], [23, 24]), ([23, 25, 20], [20, 23, 25]), ([26, 23, 20], [20, 26]), ([27], [27]), ([28, 27], [27, 28]), ([29, 27, 27], [27, 29]), ([30], [30]), ([30], [30]), ([30], [30]), ([33, 30], [30, 33]), ([32, 34, 30], [30, 32, 34]), ([35, 30], [30, 35]), ([31, 36, 30], [30, 31, 36]), ([30, 37, 27], [27, 30, 37]), ([27, 38, 20], [20, 27, 38]), ([20, 39], [20, 39]), ([40, 30, 0, 1, 2, 3, 4, 5, 6, 7, 8, 9, 10, 11, 12, 13, 14, 15, 16, 17, 18, 19, 20, 21, 22, 23, 24, 25, 26, 27, 28, 29, 30, 31, 32, 33, 34, 35, 36, 37, 38, 39, 40], [40])])
def regletlaw23_JournalBack.B26 : List Nat := [0, 1, 0, 0, 12, 31, 63, 127, 255, 255, 1023, 2047, 4095, 8191, 16383, 8191, 8191, 106495, 262143, 524287, 1048575, 2097151, 4194303, 8388607, 16777215, 33554431, 67108863, 134217727, 268435455, 536870911, 1073741823, 2147483647, 2147483647, 2147483647, 10737418239, 32212254719, 66571993087, 137438953471, 274877906943, 549755813887, 1099511627775, 2199023255551]
theorem regletlaw23_JournalBack.tab26 : rtab .any (opsOf Try.f5 26) = regletlaw23_JournalBack.T26 := by kernel_rfl
theorem regletlaw23_JournalBack.bits26 : waitsOk regletlaw23_JournalBack.T26.2 regletlaw23_JournalBack.B26 = true := by kernel_rfl
set_option maxHeartbeats 8000000 in
set_option maxRecDepth 100000 in
theorem regletlaw23_JournalBack.calls (k : Nat) (A0 : Option Addr) (c0 : Nat) (l0 : List (S24)) (a1 : Int) (r : Bool) (w : World) (hr0 : Kd.C k24 w A0 l0.length l0) (hc0 : l0.length ≤ c0) (h : regletlaw23_JournalBack.f k l0 a1 = some r) :
    Calls Try.prog 5 #[.slice A0 l0.length c0, .int .i64 a1] w fun e w' => e = .returned (.bool r) ∧ Below w.heap.size w w' := by
  have hu24 := Try.underlying24
  have HR0 := Aside0.mk hr0
  have HC0 := Aside0.mk hc0
  clear hr0 hc0
  have HB := Aside0.mk (Below.refl w.heap.size w)
  have H : ((regletlaw23_awake.f k).bind fun t197 => (if t197 = true then ((regletlaw23_few.f k l0).bind fun t198 => (if t198 = true then (regletlaw23_JournalBack.l0 k l0 a1 ([] : List (S24)) ([] : List Int) ([] : List Int) 0) else (some true))) else (some false))) = some r := h
  clear h
  replace H := Option.bind_eq_some_iff.mp H
  obtain ⟨t197, A30, H⟩ := H
  replace H : (if t197 = true then ((regletlaw23_few.f k l0).bind fun t198 => (if t198 = true then (regletlaw23_JournalBack.l0 k l0 a1 ([] : List (S24)) ([] : List Int) ([] : List Int) 0) else (some true))) else (some false)) = some r := H
  have A3 := Aside0.mk A30
  clear A30
  by_cases c4 : t197 = true
  rotate_left
  · replace c4 := Bool.eq_false_iff.mpr c4
    subst c4
    have H1 : (some false) = some r := by rw [if_neg (show ¬ (false = true) by decide)] at H; exact H
    clear H
    have H := H1
    clear H1
    obtain rfl := Option.some.inj H
    go_enter Try.func5, Try.ntmps5
    go_wp2_with (first | ((with_reducible refine gate_callee (f := 6) rfl ?_); refine goesL_ (some 13) rfl rfl Try.func6 (by kernel_rfl) rfl #[] rfl z41_ ?_; (with_reducible refine (regletlaw23_awake.calls k  false _ A3.out).mono ?_); rintro e w164 ⟨rfl, hb⟩; refine ⟨_, rfl, ?_⟩; replace HB := Aside0.mk (below_step z44_ hb); (try clear hb); (try clear hb2); (try clear hk); (try clear hi)))
    go_ret
    exact ⟨z72_, z44_⟩
  subst c4
  have H1 : ((regletlaw23_few.f k l0).bind fun t198 => (if t198 = true then (regletlaw23_JournalBack.l0 k l0 a1 ([] : List (S24)) ([] : List Int) ([] : List Int) 0) else (some true))) = some r := by rw [if_pos rfl] at H; exact H
  clear H
  have H := H1
  clear H1
  replace H := Option.bind_eq_some_iff.mp H
  obtain ⟨t198, A50, H⟩ := H
  replace H : (if t198 = true then (regletlaw23_JournalBack.l0 k l0 a1 ([] : List (S24)) ([] : List Int) ([] : List Int) 0) else (some true)) = some r := H
  have A5 := Aside0.mk A50
  clear A50
  by_cases c6 : t198 = true
  rotate_left
  · replace c6 := Bool.eq_false_iff.mpr c6
    subst c6
    have H1 : (some true) = some r := by rw [if_neg (show ¬ (false = true) by decide)] at H; exact H
    clear H
    have H := H1
    clear H1
    obtain rfl := Option.some.inj H
    go_enter Try.func5, Try.ntmps5
    go_wp2_with (first | ((with_reducible refine gate_callee (f := 6) rfl ?_); refine goesL_ (some 13) rfl rfl Try.func6 (by kernel_rfl) rfl #[] rfl z41_ ?_; (with_reducible refine (regletlaw23_awake.calls k  true _ A3.out).mono ?_); rintro e w163 ⟨rfl, hb⟩; refine ⟨_, rfl, ?_⟩; replace HB := Aside0.mk (below_step z44_ hb); (try clear hb); (try clear hb2); (try clear hk); (try clear hi)) | ((with_reducible refine gate_callee (f := 16) rfl ?_); refine goesL_ (some 16) rfl rfl Try.func16 (by kernel_rfl) rfl #[.slice A0 l0.length c0] rfl z41_ ?_; (with_reducible refine (regletlaw23_few.calls k _ _ l0 false _ ?side1 ?side2 A5.out).mono ?_); (case side1 => exact z22_); (case side2 => exact HC0.out); rintro e w' ⟨rfl, ⟨nd, rfl⟩⟩; refine ⟨_, rfl, ?_⟩))
    go_ret
    exact ⟨z72_, z44_⟩
  subst c6
  have H1 : (regletlaw23_JournalBack.l0 k l0 a1 ([] : List (S24)) ([] : List Int) ([] : List Int) 0) = some r := by rw [if_pos rfl] at H; exact H
  clear H
  have H := H1
  clear H1
  have H' := Aside0.mk H
  clear H
  go_enter Try.func5, Try.ntmps5
  go_wp2_with (first | ((with_reducible refine gate_callee (f := 6) rfl ?_); refine goesL_ (some 13) rfl rfl Try.func6 (by kernel_rfl) rfl #[] rfl z41_ ?_; (with_reducible refine (regletlaw23_awake.calls k  true _ A3.out).mono ?_); rintro e w7 ⟨rfl, hb⟩; refine ⟨_, rfl, ?_⟩; replace HB := Aside0.mk (below_step z44_ hb); (try clear hb); (try clear hb2); (try clear hk); (try clear hi)) | ((with_reducible refine gate_callee (f := 16) rfl ?_); refine goesL_ (some 16) rfl rfl Try.func16 (by kernel_rfl) rfl #[.slice A0 l0.length c0] rfl z41_ ?_; (with_reducible refine (regletlaw23_few.calls k _ _ l0 true _ ?side1 ?side2 A5.out).mono ?_); (case side1 => exact z22_); (case side2 => exact HC0.out); rintro e w' ⟨rfl, ⟨nd, rfl⟩⟩; refine ⟨_, rfl, ?_⟩))
  go_loopg [5, 6, 7, 8] k (fun kq v5 v6 v7 v8 w' => ∃ (x5_1 : List (S24)) (x6_1 : List Int) (x7_1 : List Int) (x8_1 : Int), v8 = .int .i64 x8_1 ∧ Aside0 (regletlaw23_JournalBack.l0 kq l0 a1 x5_1 x6_1 x7_1 x8_1 = some r) ∧ Aside0 (kq ≤ k) ∧ Aside0 (Kd.R k24 24 w' w.heap.size (fun _ => True) v5 x5_1) ∧ Aside0 (Kd.R (Kd.int .u8) 5 w' w.heap.size (fun _ => True) v6 x6_1) ∧ Aside0 (Kd.R (Kd.int .i64) 3 w' w.heap.size (fun _ => True) v7 x7_1) ∧ Aside0 (Below w.heap.size w w'))
  case atStart => exact ⟨(([] : List (S24))), (([] : List Int)), (([] : List Int)), (0), z81_, H', ⟨Nat.le_refl _⟩, ⟨z38_⟩, ⟨z38_⟩, ⟨z38_⟩, ⟨z44_⟩⟩
  case round =>
    clear H'
    try clear c1
    try clear p2
    try clear c4
    try clear c5
    try clear c6
    obtain ⟨x5_1, x6_1, x7_1, x8_1, rfl, HA, HK1, HO_5, HO_6, HO_7, HB⟩ := hrel
    cases gk with
    | zero => exact absurd HA.out (by simp [regletlaw23_JournalBack.l0])
    | succ k1 =>
      have H := HA.out
      clear HA
      simp only [regletlaw23_JournalBack.l0] at H
      by_cases c8 : x8_1 < (l0.length : Int)
      · rw [if_pos c8] at H
        have c8b0 : decide (x8_1 < (l0.length : Int)) = true := decide_eq_true c8
        clear c8
        by_cases c9 : 0 ≤ x8_1
        rotate_left
        · rw [if_neg c9] at H
          exact absurd H (by simp)
        rw [if_pos c9] at H
        have c9b0 : decide (0 ≤ x8_1) = true := decide_eq_true c9
        clear c9
        replace H := Option.bind_eq_some_iff.mp H
        obtain ⟨t200, A100, H⟩ := H
        replace H : (if t200 = 0 then (if x5_1.length < 2932031007402 then ((journal_Append.f k1 x6_1 ((rd_T24 l0 x8_1).f0) ((rd_T24 l0 x8_1).f1) ((rd_T24 l0 x8_1).f2) ((rd_T24 l0 x8_1).f3) ((rd_T24 l0 x8_1).f4)).bind fun bt206 => (if x7_1.length < 17592186044416 then (regletlaw23_JournalBack.l0 k1 l0 a1 (x5_1 ++ [(⟨(rd_T24 l0 x8_1).f0, (rd_T24 l0 x8_1).f1, (rd_T24 l0 x8_1).f2, (rd_T24 l0 x8_1).f3, (rd_T24 l0 x8_1).f4⟩ : S24)]) bt206.1 (x7_1 ++ [(bt206.1.length : Int)]) (wrap64 (x8_1 + 1))) else (none))) else (none)) else (regletlaw23_JournalBack.l0 k1 l0 a1 x5_1 x6_1 x7_1 (wrap64 (x8_1 + 1)))) = some r := H
        have A10 := Aside0.mk A100
        clear A100
        by_cases c11 : t200 = 0
        rotate_left
        · rw [if_neg c11] at H
          have c11b0 : (t200 == 0) = false := beq_eq_false_iff_ne.mpr c11
          have c11b1 : (t200 != 0) = true := bne_iff_ne.mpr c11
          have H' := Aside0.mk H
          clear H
          have p199 : 0 ≤ (x8_1 : Int) := of_decide_eq_true z80_
          have q199 : x8_1 < (l0.length : Int) := of_decide_eq_true z80_
          obtain ⟨ad199, e199, hx199_0, hx199_1, hx199_2, hx199_3, hx199_4⟩ := at_T24 HR0.out x8_1 p199 q199
          cases e199
          replace hx199_0 := (HB.out.cell (World.block_lt_of_cell? w _ hx199_0)).trans hx199_0
          replace hx199_1 := (HB.out.cell (World.block_lt_of_cell? w _ hx199_1)).trans hx199_1
          replace hx199_2 := (HB.out.cell (World.block_lt_of_cell? w _ hx199_2)).trans hx199_2
          replace hx199_3 := (HB.out.cell (World.block_lt_of_cell? w _ hx199_3)).trans hx199_3
          replace hx199_4 := (HB.out.cell (World.block_lt_of_cell? w _ hx199_4)).trans hx199_4
          replace p199 := eq_true p199
          replace q199 := eq_true q199
          go_wp2_with (first | ((with_reducible refine gate_callee (f := 10) rfl ?_); refine goesL_ (some 28) rfl rfl Try.func10 (by kernel_rfl) rfl #[.agg #[.int .i64 ((rd_T24 l0 x8_1).f0), .int .i64 ((rd_T24 l0 x8_1).f1), .int .i64 ((rd_T24 l0 x8_1).f2), .int .i64 ((rd_T24 l0 x8_1).f3), .string ((rd_T24 l0 x8_1).f4)]] rfl z41_ ?_; (with_reducible refine (journal_Right.calls k1 ((rd_T24 l0 x8_1).f0) ((rd_T24 l0 x8_1).f1) ((rd_T24 l0 x8_1).f2) ((rd_T24 l0 x8_1).f3) ((rd_T24 l0 x8_1).f4) t200 _ A10.out).mono ?_); rintro e w21 ⟨rfl, hb⟩; refine ⟨_, rfl, ?_⟩; replace HO_5 := Aside0.mk (Kd.R_below z68_ hb); replace HO_6 := Aside0.mk (Kd.R_below z69_ hb); replace HO_7 := Aside0.mk (Kd.R_below z70_ hb); replace HB := Aside0.mk (below_step z44_ hb); (try clear hb); (try clear hb2); (try clear hk); (try clear hi)))
          go_roundg k1
          case measure => have := HK1.out; omega
          case rel => exact ⟨(x5_1), (x6_1), (x7_1), (wrap64 (x8_1 + 1)), z81_, H', ⟨z91_⟩, ⟨z68_⟩, ⟨z69_⟩, ⟨z70_⟩, ⟨z44_⟩⟩
        rw [if_pos c11] at H
        have c11b0 : (t200 == 0) = true := beq_iff_eq.mpr c11
        have c11b1 : (t200 != 0) = false := bne_eq_false_iff_eq.mpr c11
        clear c11
        by_cases c12 : x5_1.length < 2932031007402
        rotate_left
        · rw [if_neg c12] at H
          exact absurd H (by simp)
        rw [if_pos c12] at H
        have LMc12 := Aside0.mk c12
        clear c12
        obtain ⟨y202, hy202⟩ : ∃ y_ : List (S24), y_ = (x5_1 ++ [(⟨(rd_T24 l0 x8_1).f0, (rd_T24 l0 x8_1).f1, (rd_T24 l0 x8_1).f2, (rd_T24 l0 x8_1).f3, (rd_T24 l0 x8_1).f4⟩ : S24)]) := ⟨_, rfl⟩
        replace H : ((journal_Append.f k1 x6_1 ((rd_T24 l0 x8_1).f0) ((rd_T24 l0 x8_1).f1) ((rd_T24 l0 x8_1).f2) ((rd_T24 l0 x8_1).f3) ((rd_T24 l0 x8_1).f4)).bind fun bt206 => (if x7_1.length < 17592186044416 then (regletlaw23_JournalBack.l0 k1 l0 a1 y202 bt206.1 (x7_1 ++ [(bt206.1.length : Int)]) (wrap64 (x8_1 + 1))) else (none))) = some r := by first | (rw [hy202]; with_reducible exact H) | (have H2_ := (Option.bind_some _ _).symm.trans H; rw [hy202]; with_reducible exact H2_) | (have H2_ := (Option.bind_some _ _).symm.trans H; with_reducible exact H2_) | with_reducible exact H | (rw [hy202]; exact H) | exact H
        have Ny202 := Aside0.mk hy202
        clear hy202
        replace H := Option.bind_eq_some_iff.mp H
        obtain ⟨⟨t206, t209⟩, A130, H⟩ := H
        replace H : (if x7_1.length < 17592186044416 then (regletlaw23_JournalBack.l0 k1 l0 a1 y202 t206 (x7_1 ++ [(t206.length : Int)]) (wrap64 (x8_1 + 1))) else (none)) = some r := H
        have A13 := Aside0.mk A130
        clear A130
        by_cases c14 : x7_1.length < 17592186044416
        rotate_left
        · rw [if_neg c14] at H
          exact absurd H (by simp)
        rw [if_pos c14] at H
        have LMc14 := Aside0.mk c14
        clear c14
        obtain ⟨y210, hy210⟩ : ∃ y_ : List Int, y_ = (x7_1 ++ [(t206.length : Int)]) := ⟨_, rfl⟩
        replace H : (regletlaw23_JournalBack.l0 k1 l0 a1 y202 t206 y210 (wrap64 (x8_1 + 1))) = some r := by first | (rw [hy210]; with_reducible exact H) | (have H2_ := (Option.bind_some _ _).symm.trans H; rw [hy210]; with_reducible exact H2_) | (have H2_ := (Option.bind_some _ _).symm.trans H; with_reducible exact H2_) | with_reducible exact H | (rw [hy210]; exact H) | exact H
        have Ny210 := Aside0.mk hy210
        clear hy210
        have H' := Aside0.mk H
        clear H
        have p199 : 0 ≤ (x8_1 : Int) := of_decide_eq_true z80_
        have q199 : x8_1 < (l0.length : Int) := of_decide_eq_true z80_
        obtain ⟨ad199, e199, hx199_0, hx199_1, hx199_2, hx199_3, hx199_4⟩ := at_T24 HR0.out x8_1 p199 q199
        cases e199
        replace hx199_0 := (HB.out.cell (World.block_lt_of_cell? w _ hx199_0)).trans hx199_0
        replace hx199_1 := (HB.out.cell (World.block_lt_of_cell? w _ hx199_1)).trans hx199_1
        replace hx199_2 := (HB.out.cell (World.block_lt_of_cell? w _ hx199_2)).trans hx199_2
        replace hx199_3 := (HB.out.cell (World.block_lt_of_cell? w _ hx199_3)).trans hx199_3
        replace hx199_4 := (HB.out.cell (World.block_lt_of_cell? w _ hx199_4)).trans hx199_4
        replace p199 := eq_true p199
        replace q199 := eq_true q199
        go_wp2_with (first | ((with_reducible refine gate_callee (f := 10) rfl ?_); refine goesL_ (some 28) rfl rfl Try.func10 (by kernel_rfl) rfl #[.agg #[.int .i64 ((rd_T24 l0 x8_1).f0), .int .i64 ((rd_T24 l0 x8_1).f1), .int .i64 ((rd_T24 l0 x8_1).f2), .int .i64 ((rd_T24 l0 x8_1).f3), .string ((rd_T24 l0 x8_1).f4)]] rfl z41_ ?_; (with_reducible refine (journal_Right.calls k1 ((rd_T24 l0 x8_1).f0) ((rd_T24 l0 x8_1).f1) ((rd_T24 l0 x8_1).f2) ((rd_T24 l0 x8_1).f3) ((rd_T24 l0 x8_1).f4) t200 _ A10.out).mono ?_); rintro e w15 ⟨rfl, hb⟩; refine ⟨_, rfl, ?_⟩; replace HO_5 := Aside0.mk (Kd.R_below z68_ hb); replace HO_6 := Aside0.mk (Kd.R_below z69_ hb); replace HO_7 := Aside0.mk (Kd.R_below z70_ hb); replace HB := Aside0.mk (below_step z44_ hb); (try clear hb); (try clear hb2); (try clear hk); (try clear hi); have p201 : 0 ≤ (x8_1 : Int) := of_decide_eq_true z80_; have q201 : x8_1 < (l0.length : Int) := of_decide_eq_true z80_; obtain ⟨ad201, e201, hx201_0, hx201_1, hx201_2, hx201_3, hx201_4⟩ := at_T24 HR0.out x8_1 p201 q201; obtain rfl : ad199 = ad201 := (by injection e201); replace hx201_0 := (HB.out.cell (World.block_lt_of_cell? w _ hx201_0)).trans hx201_0; replace hx201_1 := (HB.out.cell (World.block_lt_of_cell? w _ hx201_1)).trans hx201_1; replace hx201_2 := (HB.out.cell (World.block_lt_of_cell? w _ hx201_2)).trans hx201_2; replace hx201_3 := (HB.out.cell (World.block_lt_of_cell? w _ hx201_3)).trans hx201_3; replace hx201_4 := (HB.out.cell (World.block_lt_of_cell? w _ hx201_4)).trans hx201_4; replace p201 := eq_true p201; replace q201 := eq_true q201) | ((with_reducible refine gate_builtin (b := .append) (xs := #[.tmp 30, .tmp 35]) rfl ?_); (try (refine gate_guard (by rfl) ?_; dsimp only)); at_builtin; refine Kd.R_append k24 (w0 := w) w.heap.size rfl (.tmp 30) (.tmp 35) 35 24 (.agg #[(.int .i64 0), (.int .i64 0), (.int .i64 0), (.int .i64 0), (.string ⟨#[]⟩)]) 48 rfl Try.underlying35 info24 rfl (by decide) (by omega) u5 x5_1 (⟨(rd_T24 l0 x8_1).f0, (rd_T24 l0 x8_1).f1, (rd_T24 l0 x8_1).f2, (rd_T24 l0 x8_1).f3, (rd_T24 l0 x8_1).f4⟩ : S24) [.int .i64 ((rd_T24 l0 x8_1).f0), .int .i64 ((rd_T24 l0 x8_1).f1), .int .i64 ((rd_T24 l0 x8_1).f2), .int .i64 ((rd_T24 l0 x8_1).f3), .string ((rd_T24 l0 x8_1).f4)] (fun _ => True) (fun _ => False) rfl rfl ?aP (fun _ hk => hk.elim) ?aF ?aO ?aB ?aS ?aL ?_; (case aP => exact k24_mkM _ _ _ (⟨(rd_T24 l0 x8_1).f0, (rd_T24 l0 x8_1).f1, (rd_T24 l0 x8_1).f2, (rd_T24 l0 x8_1).f3, (rd_T24 l0 x8_1).f4⟩ : S24)); (case aB => exact z37_); (case aF => exact z89_); (case aO => exact z68_); (case aS => exact z36_); (case aL => have := LMc12.out; omega); intro v203 w16 ho hb hg hat; rw [← Ny202.out] at ho; have n0_ := Aside0.mk (Kd.R_over' z69_ (Kd.R_typed z68_) (by decide) hg); have n1_ := Aside0.mk (Kd.R_over' z70_ (Kd.R_typed z68_) (by decide) hg); have n2_ := Aside0.mk (hb); have n3_ := Aside0.mk (ho); clear HO_6; clear HO_7; clear HB; clear HO_5; have HO_6 := n0_; have HO_7 := n1_; have HB := n2_; have HO204 := n3_; clear n0_ n1_ n2_ n3_; clear ho hb hg hat; have p205 : 0 ≤ (x8_1 : Int) := of_decide_eq_true z80_; have q205 : x8_1 < (l0.length : Int) := of_decide_eq_true z80_; obtain ⟨ad205, e205, hx205_0, hx205_1, hx205_2, hx205_3, hx205_4⟩ := at_T24 HR0.out x8_1 p205 q205; obtain rfl : ad199 = ad205 := (by injection e205); replace hx205_0 := (HB.out.cell (World.block_lt_of_cell? w _ hx205_0)).trans hx205_0; replace hx205_1 := (HB.out.cell (World.block_lt_of_cell? w _ hx205_1)).trans hx205_1; replace hx205_2 := (HB.out.cell (World.block_lt_of_cell? w _ hx205_2)).trans hx205_2; replace hx205_3 := (HB.out.cell (World.block_lt_of_cell? w _ hx205_3)).trans hx205_3; replace hx205_4 := (HB.out.cell (World.block_lt_of_cell? w _ hx205_4)).trans hx205_4; replace p205 := eq_true p205; replace q205 := eq_true q205; obtain ⟨Ao17, co17, eo17⟩ := Kd.R_slice HO_6.out; subst eo17) | ((with_reducible refine gate_callee (f := 7) rfl ?_); refine goesL_ (some 43) rfl rfl Try.func7 (by kernel_rfl) rfl #[.slice Ao17 x6_1.length co17, .agg #[.int .i64 ((rd_T24 l0 x8_1).f0), .int .i64 ((rd_T24 l0 x8_1).f1), .int .i64 ((rd_T24 l0 x8_1).f2), .int .i64 ((rd_T24 l0 x8_1).f3), .string ((rd_T24 l0 x8_1).f4)]] rfl z41_ ?_; (with_reducible refine (journal_Append.calls k1 _ _ x6_1 ((rd_T24 l0 x8_1).f0) ((rd_T24 l0 x8_1).f1) ((rd_T24 l0 x8_1).f2) ((rd_T24 l0 x8_1).f3) ((rd_T24 l0 x8_1).f4) t206 t209 _ ?side1 ?side2 A13.out).mono ?_); (case side1 => exact z26_); (case side2 => exact (Kd.R_reads' HO_6.out).2.1); rintro e w18 ⟨v207, rfl, ho0, hb⟩; refine ⟨_, rfl, ?_⟩; replace HO_7 := Aside0.mk (Kd.R_below z70_ hb); replace HO204 := Aside0.mk (Kd.R_below z60_ hb); have HO208 := Aside0.mk (Kd.R_lower (Kd.R_new' ho0 (Kd.R_lt z69_)) (below_size z44_)); replace HO_6 := Aside0.mk (Kd.R_elder' z69_ (Kd.R_base ho0) hb); replace HB := Aside0.mk (below_step z44_ hb); (try clear hb); (try clear hb2); (try clear hk); (try clear hi); (try clear ho0); obtain ⟨Ao19, co19, eo19⟩ := Kd.R_slice HO208.out; subst eo19) | ((with_reducible refine gate_builtin (b := .append) (xs := #[.tmp 46, .tmp 49]) rfl ?_); (try (refine gate_guard (by rfl) ?_; dsimp only)); at_builtin; refine Kd.R_append (Kd.int .i64) (w0 := w) w.heap.size rfl (.tmp 46) (.tmp 49) 45 3 (.int .i64 0) 8 rfl Try.underlying45 info3 rfl (by decide) (by omega) u7 x7_1 (t206.length : Int) [.int .i64 (t206.length : Int)] (fun _ => True) (fun _ => False) rfl rfl ?aP (fun _ hk => hk.elim) ?aF ?aO ?aB ?aS ?aL ?_; (case aP => exact rfl); (case aB => exact z37_); (case aF => exact z89_); (case aO => exact z70_); (case aS => exact z36_); (case aL => have := LMc14.out; omega); intro v211 w20 ho hb hg hat; rw [← Ny210.out] at ho; have n0_ := Aside0.mk (Kd.R_over' z69_ (Kd.R_typed z70_) (by decide) hg); have n1_ := Aside0.mk (Kd.R_over' z60_ (Kd.R_typed z70_) (by decide) hg); have n2_ := Aside0.mk (Kd.R_over' (y74_ HO208.out) (Kd.R_typed z70_) (by decide) hg); have n3_ := Aside0.mk (hb); have n4_ := Aside0.mk (ho); clear HO_6; clear HO204; clear HO208; clear HB; clear HO_7; have HO_6 := n0_; have HO204 := n1_; have HO208 := n2_; have HB := n3_; have HO212 := n4_; clear n0_ n1_ n2_ n3_ n4_; clear ho hb hg hat))
        go_roundg k1
        case measure => have := HK1.out; omega
        case rel => exact ⟨(y202), (t206), (y210), (wrap64 (x8_1 + 1)), z81_, H', ⟨z91_⟩, ⟨z60_⟩, ⟨by (with_reducible repeat (first | apply Kd.R_alloc | apply Kd.R_drewN | apply Kd.R_drew)); exact Kd.R_mono HO208.out (fun _ hk => trivial)⟩, ⟨y74_ HO212.out⟩, ⟨z44_⟩⟩
      rw [if_neg c8] at H
      have c8b0 : decide (x8_1 < (l0.length : Int)) = false := decide_eq_false c8
      clear c8
      replace H := Option.bind_eq_some_iff.mp H
      obtain ⟨t213, A220, H⟩ := H
      replace H : (if (strOfNums t213).toList = (strOfNums x6_1).toList then ((journal_Parse.f k1 x6_1).bind fun bt216 => (if bt216.2.2 = 0 then (if bt216.2.1 = (x6_1.length : Int) then ((regletlaw23_refs.f k1 bt216.1).bind fun t221 => ((regletlaw23_refs.f k1 x5_1).bind fun t224 => ((regletref23_Same.f k1 t221 t224).bind fun t227 => (regletlaw23_JournalBack.j1 k1 a1 x5_1 x6_1 x7_1 (!t227))))) else (regletlaw23_JournalBack.j1 k1 a1 x5_1 x6_1 x7_1 true)) else (regletlaw23_JournalBack.j1 k1 a1 x5_1 x6_1 x7_1 true))) else (some false)) = some r := H
      have A22 := Aside0.mk A220
      clear A220
      by_cases c23 : (strOfNums t213).toList = (strOfNums x6_1).toList
      rotate_left
      · rw [if_neg c23] at H
        have c23b0 : ((strOfNums t213).toList == (strOfNums x6_1).toList) = false := beq_eq_false_iff_ne.mpr c23
        have c23b1 : ((strOfNums t213).toList != (strOfNums x6_1).toList) = true := bne_iff_ne.mpr c23
        obtain rfl := Option.some.inj H
        try go_wp2
        replace HO_5 := Aside0.mk (Kd.R_drew HO_5.out)
        replace HO_6 := Aside0.mk (Kd.R_drew HO_6.out)
        replace HO_7 := Aside0.mk (Kd.R_drew HO_7.out)
        replace HB := Aside0.mk (below_drew1 HB.out)
        refine start_ (n := 6) (S := fun w' => (convert 22 9 (u6)).run Try.prog w' = .ok (.string (strOfNums x6_1)) w') (ds := []) #[false, false, false, false, false, false] (by kernel_rfl) rfl rfl (own_string (P := Try.prog) Try.underlying22 Try.underlying5 Try.underlying9 (Kd.own_of_R HO_6.out)) (fun hHeld => ?_)
        generalize wr.drew = w158 at HO_5 HO_6 HO_7 HB hHeld ⊢
        refine pure_ (i := 0) (N := some 51) (v := ?_) (a' := ?_) #[true, false, false, false, false, false] rfl rfl (by kernel_rfl) (fun _ _ _ h => h) (Or.inl ⟨by rfl, ?_⟩) ?_ ?_
        rotate_left
        · intro w'
          go_simp
          with_reducible rfl
        rotate_left
        · simp only [Act.put, List.setIfInBounds_toArray, List.set_cons_zero, List.set_cons_succ, i64_w, i32_w]
          rfl
        refine pure_ (i := 3) (N := some 54) (v := ?_) (a' := ?_) #[true, false, false, true, false, false] rfl rfl (by kernel_rfl) (fun _ _ _ h => h) (Or.inl ⟨by rfl, ?_⟩) ?_ ?_
        rotate_left
        · intro w'
          go_simp
          with_reducible rfl
        rotate_left
        · simp only [Act.put, List.setIfInBounds_toArray, List.set_cons_zero, List.set_cons_succ, i64_w, i32_w]
          rfl
        refine take_ (i := 4) (N := some 55) (v := ?_) (a' := ?_) #[true, false, false, true, true, false] rfl rfl (by kernel_rfl) (fun _ _ _ h => h) (Or.inl ⟨by rfl, ?_⟩) hHeld ?_ ?_
        rotate_left
        · rintro w' s0
          go_simp
          with_reducible rfl
        rotate_left
        · simp only [Act.put, List.setIfInBounds_toArray, List.set_cons_zero, List.set_cons_succ, i64_w, i32_w]
          rfl
        refine one_ (i := 1) (N := some 52) #[true, true, false, true, true, false] rfl rfl (by kernel_rfl) (by decide) (fun K hK => ?_)
        refine goes_ Try.func17 (by kernel_rfl) rfl #[.slice A0 l0.length c0] (by rfl) rfl rfl z41_ ?_
        with_reducible refine (journal_Bytes.calls k1 _ _ l0 t213 _ ?side1 ?side2 A22.out).mono ?_
        (case side1 => exact z22_)
        (case side2 => exact HC0.out)
        rintro e w159 ⟨v214, rfl, ho0, hb⟩
        refine ⟨_, rfl, ?_⟩
        replace HO_5 := Aside0.mk (Kd.R_below z68_ hb)
        replace HO_7 := Aside0.mk (Kd.R_below z70_ hb)
        have HO215 := Aside0.mk (Kd.R_lower (Kd.R_new' ho0 (Kd.R_lt z69_)) (below_size z44_))
        replace HO_6 := Aside0.mk (Kd.R_elder' z69_ (Kd.R_base ho0) hb)
        replace HB := Aside0.mk (below_step z44_ hb)
        (try clear hb)
        (try clear hb2)
        (try clear hk)
        (try clear hi)
        (try clear ho0)
        refine hK.out _ _ (own_string (P := Try.prog) Try.underlying22 Try.underlying5 Try.underlying9 (Kd.own_of_R HO_6.out)) (fun hHeld => ?_)
        clear hK K
        refine norm_ (a' := ?_) ?_ ?_
        rotate_left
        · show Act.put _ (some 52) _ = _
          simp only [Act.put, List.setIfInBounds_toArray, List.set_cons_zero, List.set_cons_succ, i64_w, i32_w]
          rfl
        refine one_ (i := 2) (N := some 53) #[true, true, true, true, true, false] rfl rfl (by kernel_rfl) (by decide) (fun K hK => ?_)
        have hcv160 := own_string (P := Try.prog) Try.underlying22 Try.underlying5 Try.underlying9 (Kd.own_of_R HO215.out)
        refine value_ (w1 := ?_) (v := ?_) (by rfl) rfl ?_ ?_
        rotate_left 2
        · go_simp
          constructor
          · rfl
          · rfl
        clear hcv160
        refine hK.out _ _ (own_string (P := Try.prog) Try.underlying22 Try.underlying5 Try.underlying9 (Kd.own_of_R HO_6.out)) (fun hHeld => ?_)
        clear hK K
        refine norm_ (a' := ?_) ?_ ?_
        rotate_left
        · show Act.put _ (some 53) _ = _
          simp only [Act.put, List.setIfInBounds_toArray, List.set_cons_zero, List.set_cons_succ, i64_w, i32_w]
          rfl
        refine pure_ (i := 5) (N := some 56) (v := ?_) (a' := ?_) #[true, true, true, true, true, true] rfl rfl (by kernel_rfl) (fun _ _ _ h => h) (Or.inl ⟨by rfl, ?_⟩) ?_ ?_
        rotate_left
        · intro w'
          go_simp
          with_reducible rfl
        rotate_left
        · simp only [Act.put, List.setIfInBounds_toArray, List.set_cons_zero, List.set_cons_succ, i64_w, i32_w]
          rfl
        refine done_ (by kernel_rfl) ?_
        try go_wp2
        go_ret
        exact ⟨z72_, z44_⟩
      rw [if_pos c23] at H
      have c23b0 : ((strOfNums t213).toList == (strOfNums x6_1).toList) = true := beq_iff_eq.mpr c23
      have c23b1 : ((strOfNums t213).toList != (strOfNums x6_1).toList) = false := bne_eq_false_iff_eq.mpr c23
      clear c23
      replace H := Option.bind_eq_some_iff.mp H
      obtain ⟨⟨t216, t217, t218⟩, A240, H⟩ := H
      replace H : (if t218 = 0 then (if t217 = (x6_1.length : Int) then ((regletlaw23_refs.f k1 t216).bind fun t221 => ((regletlaw23_refs.f k1 x5_1).bind fun t224 => ((regletref23_Same.f k1 t221 t224).bind fun t227 => (regletlaw23_JournalBack.j1 k1 a1 x5_1 x6_1 x7_1 (!t227))))) else (regletlaw23_JournalBack.j1 k1 a1 x5_1 x6_1 x7_1 true)) else (regletlaw23_JournalBack.j1 k1 a1 x5_1 x6_1 x7_1 true)) = some r := H
      have A24 := Aside0.mk A240
      clear A240
      have HC25 := Aside0.mk H
      clear H
      try go_wp2
      replace HO_5 := Aside0.mk (Kd.R_drew HO_5.out)
      replace HO_6 := Aside0.mk (Kd.R_drew HO_6.out)
      replace HO_7 := Aside0.mk (Kd.R_drew HO_7.out)
      replace HB := Aside0.mk (below_drew1 HB.out)
      refine start_ (n := 6) (S := fun w' => (convert 22 9 (u6)).run Try.prog w' = .ok (.string (strOfNums x6_1)) w') (ds := []) #[false, false, false, false, false, false] (by kernel_rfl) rfl rfl (own_string (P := Try.prog) Try.underlying22 Try.underlying5 Try.underlying9 (Kd.own_of_R HO_6.out)) (fun hHeld => ?_)
      generalize wr.drew = w26 at HO_5 HO_6 HO_7 HB hHeld ⊢
      refine pure_ (i := 0) (N := some 51) (v := ?_) (a' := ?_) #[true, false, false, false, false, false] rfl rfl (by kernel_rfl) (fun _ _ _ h => h) (Or.inl ⟨by rfl, ?_⟩) ?_ ?_
      rotate_left
      · intro w'
        go_simp
        with_reducible rfl
      rotate_left
      · simp only [Act.put, List.setIfInBounds_toArray, List.set_cons_zero, List.set_cons_succ, i64_w, i32_w]
        rfl
      refine pure_ (i := 3) (N := some 54) (v := ?_) (a' := ?_) #[true, false, false, true, false, false] rfl rfl (by kernel_rfl) (fun _ _ _ h => h) (Or.inl ⟨by rfl, ?_⟩) ?_ ?_
      rotate_left
      · intro w'
        go_simp
        with_reducible rfl
      rotate_left
      · simp only [Act.put, List.setIfInBounds_toArray, List.set_cons_zero, List.set_cons_succ, i64_w, i32_w]
        rfl
      refine take_ (i := 4) (N := some 55) (v := ?_) (a' := ?_) #[true, false, false, true, true, false] rfl rfl (by kernel_rfl) (fun _ _ _ h => h) (Or.inl ⟨by rfl, ?_⟩) hHeld ?_ ?_
      rotate_left
      · rintro w' s0
        go_simp
        with_reducible rfl
      rotate_left
      · simp only [Act.put, List.setIfInBounds_toArray, List.set_cons_zero, List.set_cons_succ, i64_w, i32_w]
        rfl
      refine one_ (i := 1) (N := some 52) #[true, true, false, true, true, false] rfl rfl (by kernel_rfl) (by decide) (fun K hK => ?_)
      refine goes_ Try.func17 (by kernel_rfl) rfl #[.slice A0 l0.length c0] (by rfl) rfl rfl z41_ ?_
      with_reducible refine (journal_Bytes.calls k1 _ _ l0 t213 _ ?side1 ?side2 A22.out).mono ?_
      (case side1 => exact z22_)
      (case side2 => exact HC0.out)
      rintro e w27 ⟨v214, rfl, ho0, hb⟩
      refine ⟨_, rfl, ?_⟩
      replace HO_5 := Aside0.mk (Kd.R_below z68_ hb)
      replace HO_7 := Aside0.mk (Kd.R_below z70_ hb)
      have HO215 := Aside0.mk (Kd.R_lower (Kd.R_new' ho0 (Kd.R_lt z69_)) (below_size z44_))
      replace HO_6 := Aside0.mk (Kd.R_elder' z69_ (Kd.R_base ho0) hb)
      replace HB := Aside0.mk (below_step z44_ hb)
      (try clear hb)
      (try clear hb2)
      (try clear hk)
      (try clear hi)
      (try clear ho0)
      refine hK.out _ _ (own_string (P := Try.prog) Try.underlying22 Try.underlying5 Try.underlying9 (Kd.own_of_R HO_6.out)) (fun hHeld => ?_)
      clear hK K
      refine norm_ (a' := ?_) ?_ ?_
      rotate_left
      · show Act.put _ (some 52) _ = _
        simp only [Act.put, List.setIfInBounds_toArray, List.set_cons_zero, List.set_cons_succ, i64_w, i32_w]
        rfl
      refine one_ (i := 2) (N := some 53) #[true, true, true, true, true, false] rfl rfl (by kernel_rfl) (by decide) (fun K hK => ?_)
      have hcv28 := own_string (P := Try.prog) Try.underlying22 Try.underlying5 Try.underlying9 (Kd.own_of_R HO215.out)
      refine value_ (w1 := ?_) (v := ?_) (by rfl) rfl ?_ ?_
      rotate_left 2
      · go_simp
        constructor
        · rfl
        · rfl
      clear hcv28
      refine hK.out _ _ (own_string (P := Try.prog) Try.underlying22 Try.underlying5 Try.underlying9 (Kd.own_of_R HO_6.out)) (fun hHeld => ?_)
      clear hK K
      refine norm_ (a' := ?_) ?_ ?_
      rotate_left
      · show Act.put _ (some 53) _ = _
        simp only [Act.put, List.setIfInBounds_toArray, List.set_cons_zero, List.set_cons_succ, i64_w, i32_w]
        rfl
      refine pure_ (i := 5) (N := some 56) (v := ?_) (a' := ?_) #[true, true, true, true, true, true] rfl rfl (by kernel_rfl) (fun _ _ _ h => h) (Or.inl ⟨by rfl, ?_⟩) ?_ ?_
      rotate_left
      · intro w'
        go_simp
        with_reducible rfl
      rotate_left
      · simp only [Act.put, List.setIfInBounds_toArray, List.set_cons_zero, List.set_cons_succ, i64_w, i32_w]
        rfl
      refine done_ (by kernel_rfl) ?_
      obtain ⟨Ao31, co31, eo31⟩ := Kd.R_slice HO_6.out
      subst eo31
      go_upto_region 18 with (first | ((with_reducible refine gate_callee (f := 12) rfl ?_); refine goesL_ (some 59) rfl rfl Try.func12 (by kernel_rfl) rfl #[.slice Ao31 x6_1.length co31] rfl z41_ ?_; (with_reducible refine (journal_Parse.calls k1 _ _ x6_1 t216 t217 t218 _ ?side1 ?side2 A24.out).mono ?_); (case side1 => exact z26_); (case side2 => exact (Kd.R_reads' HO_6.out).2.1); rintro e w32 ⟨v219, rfl, ho0, hb⟩; refine ⟨_, rfl, ?_⟩; replace HO_6 := Aside0.mk (Kd.R_below z69_ hb); replace HO_7 := Aside0.mk (Kd.R_below z70_ hb); replace HO215 := Aside0.mk (Kd.R_below z61_ hb); have HO220 := Aside0.mk (Kd.R_lower (Kd.R_new' ho0 (Kd.R_lt z68_)) (below_size z44_)); replace HO_5 := Aside0.mk (Kd.R_elder' z68_ (Kd.R_base ho0) hb); replace HB := Aside0.mk (below_step z44_ hb); (try clear hb); (try clear hb2); (try clear hk); (try clear hi); (try clear ho0)))
      (try simp only [Act.put, List.setIfInBounds_toArray, List.set_cons_zero, List.set_cons_succ])
      go_cut [78] (fun v78 wc => ∃ (kq : Nat) (x78_24 : Bool), v78 = .bool x78_24 ∧ Aside0 (regletlaw23_JournalBack.j1 kq a1 x5_1 x6_1 x7_1 x78_24 = some r) ∧ Aside0 (kq ≤ k1) ∧ Aside0 (Kd.R k24 24 wc w.heap.size (fun _ => True) u5 x5_1) ∧ Aside0 (Kd.R (Kd.int .u8) 5 wc w.heap.size (fun _ => True) (.slice Ao31 x6_1.length co31) x6_1) ∧ Aside0 (Kd.R (Kd.int .i64) 3 wc w.heap.size (fun _ => True) u7 x7_1) ∧ Aside0 (Below w.heap.size w wc))
      case first =>
        have H := HC25.out
        clear HC25
        by_cases c33 : t218 = 0
        rotate_left
        · rw [if_neg c33] at H
          have c33b0 : (t218 == 0) = false := beq_eq_false_iff_ne.mpr c33
          have c33b1 : (t218 != 0) = true := bne_iff_ne.mpr c33
          (first | rw [c33b0] | (simp only [i64_w, i32_w]; rw [c33b0]) | skip)
          have H' := Aside0.mk H
          clear H
          go_wp2
          go_meet
          case rel => exact ⟨_, (true), z81_, H', ⟨z79_⟩, ⟨z42_⟩, ⟨z43_⟩, ⟨z70_⟩, ⟨z44_⟩⟩
        rw [if_pos c33] at H
        have c33b0 : (t218 == 0) = true := beq_iff_eq.mpr c33
        have c33b1 : (t218 != 0) = false := bne_eq_false_iff_eq.mpr c33
        clear c33
        (first | rw [c33b0] | (simp only [i64_w, i32_w]; rw [c33b0]) | skip)
        by_cases c34 : t217 = (x6_1.length : Int)
        rotate_left
        · rw [if_neg c34] at H
          have c34b0 : (t217 == (x6_1.length : Int)) = false := beq_eq_false_iff_ne.mpr c34
          have c34b1 : (t217 != (x6_1.length : Int)) = true := bne_iff_ne.mpr c34
          have H' := Aside0.mk H
          clear H
          go_wp2
          go_meet
          case rel => exact ⟨_, (true), z81_, H', ⟨z79_⟩, ⟨z42_⟩, ⟨z43_⟩, ⟨z70_⟩, ⟨z44_⟩⟩
        rw [if_pos c34] at H
        have c34b0 : (t217 == (x6_1.length : Int)) = true := beq_iff_eq.mpr c34
        have c34b1 : (t217 != (x6_1.length : Int)) = false := bne_eq_false_iff_eq.mpr c34
        clear c34
        replace H := Option.bind_eq_some_iff.mp H
        obtain ⟨t221, A350, H⟩ := H
        replace H : ((regletlaw23_refs.f k1 x5_1).bind fun t224 => ((regletref23_Same.f k1 t221 t224).bind fun t227 => (regletlaw23_JournalBack.j1 k1 a1 x5_1 x6_1 x7_1 (!t227)))) = some r := H
        have A35 := Aside0.mk A350
        clear A350
        replace H := Option.bind_eq_some_iff.mp H
        obtain ⟨t224, A360, H⟩ := H
        replace H : ((regletref23_Same.f k1 t221 t224).bind fun t227 => (regletlaw23_JournalBack.j1 k1 a1 x5_1 x6_1 x7_1 (!t227))) = some r := H
        have A36 := Aside0.mk A360
        clear A360
        replace H := Option.bind_eq_some_iff.mp H
        obtain ⟨t227, A370, H⟩ := H
        replace H : (regletlaw23_JournalBack.j1 k1 a1 x5_1 x6_1 x7_1 (!t227)) = some r := H
        have A37 := Aside0.mk A370
        clear A370
        have H' := Aside0.mk H
        clear H
        obtain ⟨Ao38, co38, eo38⟩ := Kd.R_slice HO220.out
        subst eo38
        go_wp2_with (first | (go_at_call 15; (with_reducible refine (regletlaw23_refs.calls k1 _ _ t216 t221 _ ?side1 ?side2 A35.out).mono ?_); (case side1 => repeat (first | exact (Kd.R_reads' HO220.out).2.2 | (with_reducible refine Kd.C_alloc ?_ _) | (with_reducible refine Kd.C_drewN ?_ _) | (with_reducible refine Kd.C_drew ?_))); (case side2 => exact (Kd.R_reads' HO220.out).2.1); rintro e w39 ⟨v222, rfl, ho0, hb⟩; replace HO_5 := Aside0.mk (Kd.R_below z68_ hb); replace HO_6 := Aside0.mk (Kd.R_below z69_ hb); replace HO_7 := Aside0.mk (Kd.R_below z70_ hb); replace HO215 := Aside0.mk (Kd.R_below z61_ hb); replace HO220 := Aside0.mk (Kd.R_below z62_ hb); have HO223 := Aside0.mk (Kd.R_lower ho0 (below_size z44_)); replace HB := Aside0.mk (below_step z44_ hb); (try clear hb); (try clear hb2); (try clear hk); (try clear hi); (try clear ho0); obtain ⟨Ao40, co40, eo40⟩ := Kd.R_slice HO_5.out; subst eo40) | (go_at_call 15; (with_reducible refine (regletlaw23_refs.calls k1 _ _ x5_1 t224 _ ?side1 ?side2 A36.out).mono ?_); (case side1 => repeat (first | exact (Kd.R_reads' HO_5.out).2.2 | (with_reducible refine Kd.C_alloc ?_ _) | (with_reducible refine Kd.C_drewN ?_ _) | (with_reducible refine Kd.C_drew ?_))); (case side2 => exact (Kd.R_reads' HO_5.out).2.1); rintro e w41 ⟨v225, rfl, ho0, hb⟩; replace HO_5 := Aside0.mk (Kd.R_below z68_ hb); replace HO_6 := Aside0.mk (Kd.R_below z69_ hb); replace HO_7 := Aside0.mk (Kd.R_below z70_ hb); replace HO215 := Aside0.mk (Kd.R_below z61_ hb); replace HO220 := Aside0.mk (Kd.R_below z62_ hb); have HO226 := Aside0.mk (Kd.R_lower (Kd.R_new' ho0 (Kd.R_lt z63_)) (below_size z44_)); replace HO223 := Aside0.mk (Kd.R_elder' z63_ (Kd.R_base ho0) hb); replace HB := Aside0.mk (below_step z44_ hb); (try clear hb); (try clear hb2); (try clear hk); (try clear hi); (try clear ho0); obtain ⟨Ao42, co42, eo42⟩ := Kd.R_slice HO223.out; subst eo42; obtain ⟨Ao43, co43, eo43⟩ := Kd.R_slice HO226.out; subst eo43) | (go_at_call 14; (with_reducible refine (regletref23_Same.calls k1 _ _ t221 _ _ t224 t227 _ ?side1 ?side2 ?side3 ?side4 A37.out).mono ?_); (case side1 => repeat (first | exact (Kd.R_reads' HO223.out).2.2 | (with_reducible refine Kd.C_alloc ?_ _) | (with_reducible refine Kd.C_drewN ?_ _) | (with_reducible refine Kd.C_drew ?_))); (case side2 => exact (Kd.R_reads' HO223.out).2.1); (case side3 => repeat (first | exact (Kd.R_reads' HO226.out).2.2 | (with_reducible refine Kd.C_alloc ?_ _) | (with_reducible refine Kd.C_drewN ?_ _) | (with_reducible refine Kd.C_drew ?_))); (case side4 => exact (Kd.R_reads' HO226.out).2.1); rintro e w' ⟨rfl, ⟨nd, rfl⟩⟩))
        go_meet
        case rel => exact ⟨_, (!t227), z81_, H', ⟨z79_⟩, ⟨z42_⟩, ⟨z43_⟩, ⟨z70_⟩, ⟨z44_⟩⟩
      case rest =>
        clear HC25
        try clear c1
        try clear p1
        try clear q1
        try clear hx1
        try clear c2
        try clear p2
        try clear q2
        try clear hx2
        try clear hcv2
        try clear c3
        try clear c4
        try clear c5
        try clear c6
        try clear p6
        try clear c7
        try clear c8
        try clear c8b0
        try clear c9
        try clear c9b0
        try clear c10
        try clear c11
        try clear c11b0
        try clear c11b1
        try clear c12
        try clear c14
        try clear c16
        try clear c17
        try clear p19
        try clear q19
        try clear hx19
        try clear p20
        try clear q20
        try clear hx20
        try clear c23
        try clear c23b0
        try clear c23b1
        try clear hcv28
        try clear hcv29
        try clear c33
        try clear c33b0
        try clear c33b1
        try clear c34
        try clear c34b0
        try clear c34b1
        try clear hx199_0
        try clear hx199_1
        try clear hx199_2
        try clear hx199_3
        try clear hx199_4
        try clear hx201_0
        try clear hx201_1
        try clear hx201_2
        try clear hx201_3
        try clear hx201_4
        try clear hx205_0
        try clear hx205_1
        try clear hx205_2
        try clear hx205_3
        try clear hx205_4
        try clear p199
        try clear p2
        try clear p201
        try clear p205
        try clear q199
        try clear q201
        try clear q205
        obtain ⟨kq, x78_24, rfl, HA, HJ24, HO_5, HO_6, HO_7, HB⟩ := hcut
        cases kq with
        | zero => exact absurd HA.out (by simp [regletlaw23_JournalBack.j1])
        | succ kj24 =>
          have H := HA.out
          clear HA
          simp only [regletlaw23_JournalBack.j1] at H
          by_cases c44 : x78_24 = true
          · subst c44
            have H1 : (some false) = some r := by rw [if_pos rfl] at H; exact H
            clear H
            have H := H1
            clear H1
            obtain rfl := Option.some.inj H
            go_wp2
            go_ret
            exact ⟨z72_, z44_⟩
          replace c44 := Bool.eq_false_iff.mpr c44
          subst c44
          have H1 : (if a1 < 0 then (regletlaw23_JournalBack.j2 kj24 a1 x5_1 x6_1 x7_1 true) else (regletlaw23_JournalBack.j2 kj24 a1 x5_1 x6_1 x7_1 (decide (a1 > (x6_1.length : Int))))) = some r := by rw [if_neg (show ¬ (false = true) by decide)] at H; exact H
          clear H
          have H := H1
          clear H1
          have HC45 := Aside0.mk H
          clear H
          go_upto_region 20 with (fail)
          go_cut [86] (fun v86 wc => ∃ (kq : Nat) (x86_44 : Bool), v86 = .bool x86_44 ∧ Aside0 (regletlaw23_JournalBack.j2 kq a1 x5_1 x6_1 x7_1 x86_44 = some r) ∧ Aside0 (kq ≤ kj24) ∧ Aside0 (Kd.R k24 24 wc w.heap.size (fun _ => True) u5 x5_1) ∧ Aside0 (Kd.R (Kd.int .u8) 5 wc w.heap.size (fun _ => True) (.slice Ao31 x6_1.length co31) x6_1) ∧ Aside0 (Kd.R (Kd.int .i64) 3 wc w.heap.size (fun _ => True) u7 x7_1) ∧ Aside0 (Below w.heap.size w wc))
          case first =>
            have H := HC45.out
            clear HC45
            by_cases c46 : a1 < 0
            rotate_left
            · rw [if_neg c46] at H
              have c46b0 : decide (a1 < 0) = false := decide_eq_false c46
              clear c46
              (first | rw [c46b0] | (simp only [i64_w, i32_w]; rw [c46b0]) | skip)
              have H' := Aside0.mk H
              clear H
              go_wp2
              go_meet
              case rel => exact ⟨_, (decide (a1 > (x6_1.length : Int))), z81_, H', ⟨z76_⟩, ⟨z68_⟩, ⟨z69_⟩, ⟨z70_⟩, ⟨z44_⟩⟩
            rw [if_pos c46] at H
            have c46b0 : decide (a1 < 0) = true := decide_eq_true c46
            clear c46
            (first | rw [c46b0] | (simp only [i64_w, i32_w]; rw [c46b0]) | skip)
            have H' := Aside0.mk H
            clear H
            go_wp2
            go_meet
            case rel => exact ⟨_, (true), z81_, H', ⟨z76_⟩, ⟨z68_⟩, ⟨z69_⟩, ⟨z70_⟩, ⟨z44_⟩⟩
          case rest =>
            clear HC45
            try clear c1
            try clear p1
            try clear q1
            try clear hx1
            try clear c2
            try clear p2
            try clear q2
            try clear hx2
            try clear hcv2
            try clear c3
            try clear c4
            try clear c5
            try clear c6
            try clear p6
            try clear c7
            try clear c8
            try clear c8b0
            try clear c9
            try clear c9b0
            try clear c10
            try clear c11
            try clear c11b0
            try clear c11b1
            try clear c12
            try clear c14
            try clear c16
            try clear c17
            try clear p19
            try clear q19
            try clear hx19
            try clear p20
            try clear q20
            try clear hx20
            try clear c23
            try clear c23b0
            try clear c23b1
            try clear hcv28
            try clear hcv29
            try clear c33
            try clear c33b0
            try clear c33b1
            try clear c34
            try clear c34b0
            try clear c34b1
            try clear c44
            try clear c46
            try clear c46b0
            try clear hx199_0
            try clear hx199_1
            try clear hx199_2
            try clear hx199_3
            try clear hx199_4
            try clear hx201_0
            try clear hx201_1
            try clear hx201_2
            try clear hx201_3
            try clear hx201_4
            try clear hx205_0
            try clear hx205_1
            try clear hx205_2
            try clear hx205_3
            try clear hx205_4
            try clear p1
            try clear p19
            try clear p199
            try clear p2
            try clear p20
            try clear p201
            try clear p205
            try clear p6
            try clear q1
            try clear q19
            try clear q199
            try clear q2
            try clear q20
            try clear q201
            try clear q205
            obtain ⟨kq, x86_44, rfl, HA, HJ44, HO_5, HO_6, HO_7, HB⟩ := hcut
            cases kq with
            | zero => exact absurd HA.out (by simp [regletlaw23_JournalBack.j2])
            | succ kj44 =>
              have H := HA.out
              clear HA
              simp only [regletlaw23_JournalBack.j2] at H
              by_cases c47 : x86_44 = true
              · subst c47
                have H1 : (some true) = some r := by rw [if_pos rfl] at H; exact H
                clear H
                have H := H1
                clear H1
                obtain rfl := Option.some.inj H
                go_wp2
                go_ret
                exact ⟨z72_, z44_⟩
              replace c47 := Bool.eq_false_iff.mpr c47
              subst c47
              have H1 : (regletlaw23_JournalBack.l1 kj44 a1 x5_1 x6_1 x7_1 0) = some r := by rw [if_neg (show ¬ (false = true) by decide)] at H; exact H
              clear H
              have H := H1
              clear H1
              have HC48 := Aside0.mk H
              clear H
              go_upto_block 2 with (fail)
              go_cut [12] (fun v12 wc => ∃ (kq : Nat) (x12_47 : Int), v12 = .int .i64 x12_47 ∧ Aside0 (regletlaw23_JournalBack.j4 kq a1 x5_1 x6_1 x7_1 x12_47 = some r) ∧ Aside0 (kq ≤ kj44) ∧ Aside0 (Kd.R k24 24 wc w.heap.size (fun _ => True) u5 x5_1) ∧ Aside0 (Kd.R (Kd.int .u8) 5 wc w.heap.size (fun _ => True) (.slice Ao31 x6_1.length co31) x6_1) ∧ Aside0 (Kd.R (Kd.int .i64) 3 wc w.heap.size (fun _ => True) u7 x7_1) ∧ Aside0 (Below w.heap.size w wc))
              case first =>
                have H := HC48.out
                clear HC48
                have H' := Aside0.mk H
                clear H
                go_wp2
                go_loopg [12] kj44 (fun kq v12 w' => ∃ (x12_4 : Int), v12 = .int .i64 x12_4 ∧ Aside0 (regletlaw23_JournalBack.l1 kq a1 x5_1 x6_1 x7_1 x12_4 = some r) ∧ Aside0 (kq ≤ kj44) ∧ Aside0 (Kd.R k24 24 w' w.heap.size (fun _ => True) u5 x5_1) ∧ Aside0 (Kd.R (Kd.int .u8) 5 w' w.heap.size (fun _ => True) (.slice Ao31 x6_1.length co31) x6_1) ∧ Aside0 (Kd.R (Kd.int .i64) 3 w' w.heap.size (fun _ => True) u7 x7_1) ∧ Aside0 (Below w.heap.size w w'))
                case atStart => exact ⟨(0), z81_, H', ⟨Nat.le_refl _⟩, ⟨z68_⟩, ⟨z69_⟩, ⟨z70_⟩, ⟨z44_⟩⟩
                case round =>
                  clear H'
                  try clear c1
                  try clear p1
                  try clear q1
                  try clear hx1
                  try clear c2
                  try clear p2
                  try clear q2
                  try clear hx2
                  try clear hcv2
                  try clear c3
                  try clear c4
                  try clear c5
                  try clear c6
                  try clear p6
                  try clear c7
                  try clear c8
                  try clear c8b0
                  try clear c9
                  try clear c9b0
                  try clear c10
                  try clear c11
                  try clear c11b0
                  try clear c11b1
                  try clear c12
                  try clear c14
                  try clear c16
                  try clear c17
                  try clear p19
                  try clear q19
                  try clear hx19
                  try clear p20
                  try clear q20
                  try clear hx20
                  try clear c23
                  try clear c23b0
                  try clear c23b1
                  try clear hcv28
                  try clear hcv29
                  try clear c33
                  try clear c33b0
                  try clear c33b1
                  try clear c34
                  try clear c34b0
                  try clear c34b1
                  try clear c44
                  try clear c46
                  try clear c46b0
                  try clear c47
                  try clear hx199_0
                  try clear hx199_1
                  try clear hx199_2
                  try clear hx199_3
                  try clear hx199_4
                  try clear hx201_0
                  try clear hx201_1
                  try clear hx201_2
                  try clear hx201_3
                  try clear hx201_4
                  try clear hx205_0
                  try clear hx205_1
                  try clear hx205_2
                  try clear hx205_3
                  try clear hx205_4
                  try clear p1
                  try clear p19
                  try clear p199
                  try clear p2
                  try clear p20
                  try clear p201
                  try clear p205
                  try clear p6
                  try clear q1
                  try clear q19
                  try clear q199
                  try clear q2
                  try clear q20
                  try clear q201
                  try clear q205
                  obtain ⟨x12_4, rfl, HA, HK4, HO_5, HO_6, HO_7, HB⟩ := hrel
                  cases gk with
                  | zero => exact absurd HA.out (by simp [regletlaw23_JournalBack.l1])
                  | succ k4 =>
                    have H := HA.out
                    clear HA
                    simp only [regletlaw23_JournalBack.l1] at H
                    by_cases c49 : x12_4 < (x7_1.length : Int)
                    rotate_left
                    · rw [if_neg c49] at H
                      have c49b0 : decide (x12_4 < (x7_1.length : Int)) = false := decide_eq_false c49
                      clear c49
                      (first | rw [c49b0] | (simp only [i64_w, i32_w]; rw [c49b0]) | skip)
                      have H' := Aside0.mk H
                      clear H
                      obtain ⟨Ao54, co54, eo54⟩ := Kd.R_slice HO_7.out
                      subst eo54
                      go_wp2
                      go_meet
                      case rel => exact ⟨_, (x12_4), z81_, H', ⟨z54_⟩, ⟨z68_⟩, ⟨z69_⟩, ⟨z70_⟩, ⟨z44_⟩⟩
                    rw [if_pos c49] at H
                    have c49b0 : decide (x12_4 < (x7_1.length : Int)) = true := decide_eq_true c49
                    clear c49
                    (first | rw [c49b0] | (simp only [i64_w, i32_w]; rw [c49b0]) | skip)
                    by_cases c50 : 0 ≤ x12_4
                    rotate_left
                    · rw [if_neg c50] at H
                      exact absurd H (by simp)
                    rw [if_pos c50] at H
                    have c50b0 : decide (0 ≤ x12_4) = true := decide_eq_true c50
                    clear c50
                    by_cases c51 : (rd x7_1 x12_4) ≤ a1
                    rotate_left
                    · rw [if_neg c51] at H
                      have c51b0 : decide ((rd x7_1 x12_4) ≤ a1) = false := decide_eq_false c51
                      clear c51
                      have H' := Aside0.mk H
                      clear H
                      obtain ⟨Ao53, co53, eo53⟩ := Kd.R_slice HO_7.out
                      subst eo53
                      have p228 : 0 ≤ (x12_4 : Int) := of_decide_eq_true z80_
                      have q228 : x12_4 < (x7_1.length : Int) := of_decide_eq_true z80_
                      (first | (have tst_ := Kd.R_reads' HO_7.out; clear tst_) | (obtain ⟨As228, cs228, es228⟩ := Kd.R_slice HO_7.out; subst es228))
                      obtain ⟨ad228, e228, hx228_0⟩ := Kd.at_int (Kd.R_reads' HO_7.out).2.2 x12_4 p228 q228
                      cases e228
                      replace p228 := eq_true p228
                      replace q228 := eq_true q228
                      go_wp2
                      go_meet
                      case rel => exact ⟨_, (x12_4), z81_, H', ⟨z54_⟩, ⟨z68_⟩, ⟨z69_⟩, ⟨z70_⟩, ⟨z44_⟩⟩
                    rw [if_pos c51] at H
                    have c51b0 : decide ((rd x7_1 x12_4) ≤ a1) = true := decide_eq_true c51
                    clear c51
                    have H' := Aside0.mk H
                    clear H
                    obtain ⟨Ao52, co52, eo52⟩ := Kd.R_slice HO_7.out
                    subst eo52
                    have p228 : 0 ≤ (x12_4 : Int) := of_decide_eq_true z80_
                    have q228 : x12_4 < (x7_1.length : Int) := of_decide_eq_true z80_
                    (first | (have tst_ := Kd.R_reads' HO_7.out; clear tst_) | (obtain ⟨As228, cs228, es228⟩ := Kd.R_slice HO_7.out; subst es228))
                    obtain ⟨ad228, e228, hx228_0⟩ := Kd.at_int (Kd.R_reads' HO_7.out).2.2 x12_4 p228 q228
                    cases e228
                    replace p228 := eq_true p228
                    replace q228 := eq_true q228
                    go_wp2
                    go_roundg k4
                    case measure => have := HK1.out; have := HJ24.out; have := HJ44.out; have := HK4.out; omega
                    case rel => exact ⟨(wrap64 (x12_4 + 1)), z81_, H', ⟨by have := HK1.out; have := HJ24.out; have := HJ44.out; have := HK4.out; omega⟩, ⟨z68_⟩, ⟨z69_⟩, ⟨z70_⟩, ⟨z44_⟩⟩
              case rest =>
                clear HC48
                try clear c1
                try clear p1
                try clear q1
                try clear hx1
                try clear c2
                try clear p2
                try clear q2
                try clear hx2
                try clear hcv2
                try clear c3
                try clear c4
                try clear c5
                try clear c6
                try clear p6
                try clear c7
                try clear c8
                try clear c8b0
                try clear c9
                try clear c9b0
                try clear c10
                try clear c11
                try clear c11b0
                try clear c11b1
                try clear c12
                try clear c14
                try clear c16
                try clear c17
                try clear p19
                try clear q19
                try clear hx19
                try clear p20
                try clear q20
                try clear hx20
                try clear p22
                try clear q22
                try clear hx22
                try clear c23
                try clear c23b0
                try clear c23b1
                try clear hcv28
                try clear hcv29
                try clear c33
                try clear c33b0
                try clear c33b1
                try clear c34
                try clear c34b0
                try clear c34b1
                try clear c44
                try clear c46
                try clear c46b0
                try clear c47
                try clear c49
                try clear c49b0
                try clear c50
                try clear c50b0
                try clear c51
                try clear c51b0
                try clear hx199_0
                try clear hx199_1
                try clear hx199_2
                try clear hx199_3
                try clear hx199_4
                try clear hx201_0
                try clear hx201_1
                try clear hx201_2
                try clear hx201_3
                try clear hx201_4
                try clear hx205_0
                try clear hx205_1
                try clear hx205_2
                try clear hx205_3
                try clear hx205_4
                try clear hx228_0
                try clear p1
                try clear p19
                try clear p199
                try clear p2
                try clear p20
                try clear p201
                try clear p205
                try clear p228
                try clear p6
                try clear q1
                try clear q19
                try clear q199
                try clear q2
                try clear q20
                try clear q201
                try clear q205
                try clear q228
                obtain ⟨kq, x12_47, rfl, HA, HJ47, HO_5, HO_6, HO_7, HB⟩ := hcut
                cases kq with
                | zero => exact absurd HA.out (by simp [regletlaw23_JournalBack.j4])
                | succ kj47 =>
                  have H := HA.out
                  clear HA
                  simp only [regletlaw23_JournalBack.j4] at H
                  by_cases c55 : 0 ≤ a1
                  rotate_left
                  · rw [if_neg c55] at H
                    exact absurd H (by simp)
                  rw [if_pos c55] at H
                  have c55b0 := eq_true c55
                  have c55b1 : decide (0 ≤ a1) = true := decide_eq_true c55
                  clear c55
                  by_cases c56 : a1 ≤ (x6_1.length : Int)
                  rotate_left
                  · rw [if_neg c56] at H
                    exact absurd H (by simp)
                  rw [if_pos c56] at H
                  have c56b0 := eq_true c56
                  have c56b1 : decide (a1 ≤ (x6_1.length : Int)) = true := decide_eq_true c56
                  clear c56
                  obtain ⟨y229, hy229⟩ : ∃ y_ : List Int, y_ = (x6_1.take (a1 : Int).toNat) := ⟨_, rfl⟩
                  replace H : ((journal_Parse.f kj47 y229).bind fun bt233 => ((regletlaw23_refs.f kj47 bt233.1).bind fun t238 => (if 0 ≤ x12_47 then (if x12_47 ≤ (x5_1.length : Int) then ((regletlaw23_refs.f kj47 (x5_1.take (x12_47 : Int).toNat)).bind fun t245 => ((regletref23_Same.f kj47 t238 t245).bind fun t248 => (if t248 = true then (if bt233.2.1 ≤ a1 then (if ((bt233.2.2 == 0) == (bt233.2.1 == a1)) = true then (if x12_47 = 0 then (if bt233.2.1 = 0 then (some true) else (if x12_47 > 0 then (if 0 ≤ (wrap64 (x12_47 - 1)) then (if (wrap64 (x12_47 - 1)) < (x7_1.length : Int) then (some (bt233.2.1 == (rd x7_1 (wrap64 (x12_47 - 1))))) else (none)) else (none)) else (some false))) else (if x12_47 > 0 then (if 0 ≤ (wrap64 (x12_47 - 1)) then (if (wrap64 (x12_47 - 1)) < (x7_1.length : Int) then (some (bt233.2.1 == (rd x7_1 (wrap64 (x12_47 - 1))))) else (none)) else (none)) else (some false))) else (some false)) else (some false)) else (some false)))) else (none)) else (none)))) = some r := by first | (rw [hy229]; with_reducible exact H) | (have H2_ := (Option.bind_some _ _).symm.trans H; rw [hy229]; with_reducible exact H2_) | (have H2_ := (Option.bind_some _ _).symm.trans H; with_reducible exact H2_) | with_reducible exact H | (rw [hy229]; exact H) | exact H
                  have Ny229 := Aside0.mk hy229
                  clear hy229
                  replace H := Option.bind_eq_some_iff.mp H
                  obtain ⟨⟨t233, t234, t235⟩, A570, H⟩ := H
                  replace H : ((regletlaw23_refs.f kj47 t233).bind fun t238 => (if 0 ≤ x12_47 then (if x12_47 ≤ (x5_1.length : Int) then ((regletlaw23_refs.f kj47 (x5_1.take (x12_47 : Int).toNat)).bind fun t245 => ((regletref23_Same.f kj47 t238 t245).bind fun t248 => (if t248 = true then (if t234 ≤ a1 then (if ((t235 == 0) == (t234 == a1)) = true then (if x12_47 = 0 then (if t234 = 0 then (some true) else (if x12_47 > 0 then (if 0 ≤ (wrap64 (x12_47 - 1)) then (if (wrap64 (x12_47 - 1)) < (x7_1.length : Int) then (some (t234 == (rd x7_1 (wrap64 (x12_47 - 1))))) else (none)) else (none)) else (some false))) else (if x12_47 > 0 then (if 0 ≤ (wrap64 (x12_47 - 1)) then (if (wrap64 (x12_47 - 1)) < (x7_1.length : Int) then (some (t234 == (rd x7_1 (wrap64 (x12_47 - 1))))) else (none)) else (none)) else (some false))) else (some false)) else (some false)) else (some false)))) else (none)) else (none))) = some r := H
                  have A57 := Aside0.mk A570
                  clear A570
                  replace H := Option.bind_eq_some_iff.mp H
                  obtain ⟨t238, A580, H⟩ := H
                  replace H : (if 0 ≤ x12_47 then (if x12_47 ≤ (x5_1.length : Int) then ((regletlaw23_refs.f kj47 (x5_1.take (x12_47 : Int).toNat)).bind fun t245 => ((regletref23_Same.f kj47 t238 t245).bind fun t248 => (if t248 = true then (if t234 ≤ a1 then (if ((t235 == 0) == (t234 == a1)) = true then (if x12_47 = 0 then (if t234 = 0 then (some true) else (if x12_47 > 0 then (if 0 ≤ (wrap64 (x12_47 - 1)) then (if (wrap64 (x12_47 - 1)) < (x7_1.length : Int) then (some (t234 == (rd x7_1 (wrap64 (x12_47 - 1))))) else (none)) else (none)) else (some false))) else (if x12_47 > 0 then (if 0 ≤ (wrap64 (x12_47 - 1)) then (if (wrap64 (x12_47 - 1)) < (x7_1.length : Int) then (some (t234 == (rd x7_1 (wrap64 (x12_47 - 1))))) else (none)) else (none)) else (some false))) else (some false)) else (some false)) else (some false)))) else (none)) else (none)) = some r := H
                  have A58 := Aside0.mk A580
                  clear A580
                  by_cases c59 : 0 ≤ x12_47
                  rotate_left
                  · rw [if_neg c59] at H
                    exact absurd H (by simp)
                  rw [if_pos c59] at H
                  have c59b0 := eq_true c59
                  have c59b1 : decide (0 ≤ x12_47) = true := decide_eq_true c59
                  clear c59
                  by_cases c60 : x12_47 ≤ (x5_1.length : Int)
                  rotate_left
                  · rw [if_neg c60] at H
                    exact absurd H (by simp)
                  rw [if_pos c60] at H
                  have c60b0 := eq_true c60
                  have c60b1 : decide (x12_47 ≤ (x5_1.length : Int)) = true := decide_eq_true c60
                  clear c60
                  obtain ⟨y241, hy241⟩ : ∃ y_ : List (S24), y_ = (x5_1.take (x12_47 : Int).toNat) := ⟨_, rfl⟩
                  replace H : ((regletlaw23_refs.f kj47 y241).bind fun t245 => ((regletref23_Same.f kj47 t238 t245).bind fun t248 => (if t248 = true then (if t234 ≤ a1 then (if ((t235 == 0) == (t234 == a1)) = true then (if x12_47 = 0 then (if t234 = 0 then (some true) else (if x12_47 > 0 then (if 0 ≤ (wrap64 (x12_47 - 1)) then (if (wrap64 (x12_47 - 1)) < (x7_1.length : Int) then (some (t234 == (rd x7_1 (wrap64 (x12_47 - 1))))) else (none)) else (none)) else (some false))) else (if x12_47 > 0 then (if 0 ≤ (wrap64 (x12_47 - 1)) then (if (wrap64 (x12_47 - 1)) < (x7_1.length : Int) then (some (t234 == (rd x7_1 (wrap64 (x12_47 - 1))))) else (none)) else (none)) else (some false))) else (some false)) else (some false)) else (some false)))) = some r := by first | (rw [hy241]; with_reducible exact H) | (have H2_ := (Option.bind_some _ _).symm.trans H; rw [hy241]; with_reducible exact H2_) | (have H2_ := (Option.bind_some _ _).symm.trans H; with_reducible exact H2_) | with_reducible exact H | (rw [hy241]; exact H) | exact H
                  have Ny241 := Aside0.mk hy241
                  clear hy241
                  replace H := Option.bind_eq_some_iff.mp H
                  obtain ⟨t245, A610, H⟩ := H
                  replace H : ((regletref23_Same.f kj47 t238 t245).bind fun t248 => (if t248 = true then (if t234 ≤ a1 then (if ((t235 == 0) == (t234 == a1)) = true then (if x12_47 = 0 then (if t234 = 0 then (some true) else (if x12_47 > 0 then (if 0 ≤ (wrap64 (x12_47 - 1)) then (if (wrap64 (x12_47 - 1)) < (x7_1.length : Int) then (some (t234 == (rd x7_1 (wrap64 (x12_47 - 1))))) else (none)) else (none)) else (some false))) else (if x12_47 > 0 then (if 0 ≤ (wrap64 (x12_47 - 1)) then (if (wrap64 (x12_47 - 1)) < (x7_1.length : Int) then (some (t234 == (rd x7_1 (wrap64 (x12_47 - 1))))) else (none)) else (none)) else (some false))) else (some false)) else (some false)) else (some false))) = some r := H
                  have A61 := Aside0.mk A610
                  clear A610
                  replace H := Option.bind_eq_some_iff.mp H
                  obtain ⟨t248, A620, H⟩ := H
                  replace H : (if t248 = true then (if t234 ≤ a1 then (if ((t235 == 0) == (t234 == a1)) = true then (if x12_47 = 0 then (if t234 = 0 then (some true) else (if x12_47 > 0 then (if 0 ≤ (wrap64 (x12_47 - 1)) then (if (wrap64 (x12_47 - 1)) < (x7_1.length : Int) then (some (t234 == (rd x7_1 (wrap64 (x12_47 - 1))))) else (none)) else (none)) else (some false))) else (if x12_47 > 0 then (if 0 ≤ (wrap64 (x12_47 - 1)) then (if (wrap64 (x12_47 - 1)) < (x7_1.length : Int) then (some (t234 == (rd x7_1 (wrap64 (x12_47 - 1))))) else (none)) else (none)) else (some false))) else (some false)) else (some false)) else (some false)) = some r := H
                  have A62 := Aside0.mk A620
                  clear A620
                  by_cases c63 : t248 = true
                  rotate_left
                  · replace c63 := Bool.eq_false_iff.mpr c63
                    subst c63
                    have H1 : (some false) = some r := by rw [if_neg (show ¬ (false = true) by decide)] at H; exact H
                    clear H
                    have H := H1
                    clear H1
                    obtain rfl := Option.some.inj H
                    have q148 : (a1 : Int) ≤ ((x6_1.length : Int) : Int) := of_decide_eq_true z80_
                    obtain ⟨i0148, hi0148, _, hsz148, _⟩ := info_parts info5
                    have hroom148 : x6_1.length ≤ co31 := (Kd.R_reads' HO_6.out).2.1
                    have hC148 : Kd.C (Kd.int .u8) _ Ao31 x6_1.length x6_1 := (Kd.R_reads' HO_6.out).2.2
                    have hcut148 := cut_to (P := Try.prog) 22 5 .i64 Try.underlying22 hi0148 Ao31 x6_1.length co31 a1 (of_decide_eq_true z80_) q148 hroom148
                    have hr148 := Kd.C_take (m := (a1 : Int).toNat) hC148 (by omega)
                    have hy148 : y229.length = (a1 : Int).toNat := z83_
                    rw [← Ny229.out] at hr148
                    rw [← hy148] at hcut148
                    have HR232 := Aside0.mk hr148
                    have HC232 := Aside0.mk (show y229.length ≤ co31 from by omega)
                    clear hr148 hC148 hroom148 hi0148 hsz148
                    have KY148 := Aside0.mk hy148
                    clear hy148
                    have KL148 := Aside0.mk (show (a1 : Int).toNat ≤ x6_1.length from by omega)
                    replace q148 := eq_true q148
                    try go_wp2_with (first | ((with_reducible refine gate_callee (f := 12) rfl ?_); refine goesL_ (some 105) rfl rfl Try.func12 (by kernel_rfl) rfl #[.slice Ao31 y229.length co31] rfl z41_ ?_; (with_reducible refine (journal_Parse.calls kj47 _ _ y229 t233 t234 t235 _ ?side1 ?side2 A57.out).mono ?_); (case side1 => exact z5_); (case side2 => exact HC232.out); rintro e w149 ⟨v236, rfl, ho0, hb⟩; refine ⟨_, rfl, ?_⟩; replace HO_6 := Aside0.mk (Kd.R_below z69_ hb); replace HO_7 := Aside0.mk (Kd.R_below z70_ hb); have HO237 := Aside0.mk (Kd.R_lower (Kd.R_new' ho0 (Kd.R_lt z68_)) (below_size z44_)); replace HO_5 := Aside0.mk (Kd.R_elder' z68_ (Kd.R_base ho0) hb); replace HR232 := Aside0.mk (Kd.C_below z16_ hb); replace HB := Aside0.mk (below_step z44_ hb); (try clear hb); (try clear hb2); (try clear hk); (try clear hi); (try clear ho0)))
                    replace HO_5 := Aside0.mk (Kd.R_drew HO_5.out)
                    replace HO_6 := Aside0.mk (Kd.R_drew HO_6.out)
                    replace HO_7 := Aside0.mk (Kd.R_drew HO_7.out)
                    replace HO237 := Aside0.mk (Kd.R_drew HO237.out)
                    replace HR232 := Aside0.mk (Kd.C_drew HR232.out)
                    replace HB := Aside0.mk (below_drew1 HB.out)
                    obtain ⟨Ao152, co152, eo152⟩ := Kd.R_slice HO_5.out
                    (first | subst eo152 | (injection eo152 with f1_ f2_ f3_; have f4_ := f1_.symm; have f5_ := f3_.symm; clear f1_ f2_ f3_; subst f4_; subst f5_))
                    have q151 : (x12_47 : Int) ≤ ((x5_1.length : Int) : Int) := of_decide_eq_true z80_
                    obtain ⟨i0151, hi0151, _, hsz151, _⟩ := info_parts info24
                    have hroom151 : x5_1.length ≤ co152 := (Kd.R_reads' HO_5.out).2.1
                    have hC151 : Kd.C k24 _ Ao152 x5_1.length x5_1 := (Kd.R_reads' HO_5.out).2.2
                    have hcut151 := cut_to (P := Try.prog) 35 24 .i64 Try.underlying35 hi0151 Ao152 x5_1.length co152 x12_47 (of_decide_eq_true z80_) q151 hroom151
                    have hr151 := Kd.C_take (m := (x12_47 : Int).toNat) hC151 (by omega)
                    have hy151 : y241.length = (x12_47 : Int).toNat := z84_
                    rw [← Ny241.out] at hr151
                    rw [← hy151] at hcut151
                    have HR244 := Aside0.mk hr151
                    have HC244 := Aside0.mk (show y241.length ≤ co152 from by omega)
                    clear hr151 hC151 hroom151 hi0151 hsz151
                    have KY151 := Aside0.mk hy151
                    clear hy151
                    have KL151 := Aside0.mk (show (x12_47 : Int).toNat ≤ x5_1.length from by omega)
                    replace q151 := eq_true q151
                    obtain ⟨Ao153, co153, eo153⟩ := Kd.R_slice HO237.out
                    (first | subst eo153 | (injection eo153 with f1_ f2_ f3_; have f4_ := f1_.symm; have f5_ := f3_.symm; clear f1_ f2_ f3_; subst f4_; subst f5_))
                    refine start_ (n := 42) (S := fun w' => True) (ds := []) bs0_ (by kernel_rfl) rfl rfl trivial (fun hHeld => ?_); refine with_tabW regletlaw23_JournalBack.tab26 regletlaw23_JournalBack.bits26 (fun HT_ HW_ => ?_)
                    generalize w149.drew = w150 at HO_5 HO_6 HO_7 HO237 HR232 HB HR244 hHeld ⊢
                    refine p1_ 0 109 bs1_ ?_
                    refine p1_ 2 111 bs2_ ?_
                    refine p1_ 3 112 bs3_ ?_
                    refine p1_ 4 113 bs4_ ?_
                    refine one_ (i := 1) (N := some 110) bs5_ rfl rfl (one_of HT_.out (by kernel_rfl)) (by decide) (fun K hK => ?_)
                    refine goes_ Try.func15 (by kernel_rfl) rfl #[.slice Ao153 t233.length co153] (by rfl) rfl rfl z41_ ?_
                    with_reducible refine (regletlaw23_refs.calls kj47 _ _ t233 t238 _ ?side1 ?side2 A58.out).mono ?_
                    (case side1 => exact z23_)
                    (case side2 => exact z86_)
                    rintro e w154 ⟨v239, rfl, ho0, hb⟩
                    refine ⟨_, rfl, ?_⟩
                    replace HO_5 := Aside0.mk (Kd.R_below z68_ hb)
                    replace HO_6 := Aside0.mk (Kd.R_below z69_ hb)
                    replace HO_7 := Aside0.mk (Kd.R_below z70_ hb)
                    replace HO237 := Aside0.mk (Kd.R_below z64_ hb)
                    have HO240 := Aside0.mk (Kd.R_lower ho0 (below_size z44_))
                    replace HR232 := Aside0.mk (Kd.C_below z16_ hb)
                    replace HR244 := Aside0.mk (Kd.C_below z17_ hb)
                    replace HB := Aside0.mk (below_step z44_ hb)
                    (try clear hb)
                    (try clear hb2)
                    (try clear hk)
                    (try clear hi)
                    (try clear ho0)
                    refine hK.out _ _ trivial (fun hHeld => ?_)
                    clear hK K
                    refine norm_ (a' := ?_) ?_ ?_
                    rotate_left
                    · show Act.put _ (some 110) _ = _
                      simp only [Act.put, List.setIfInBounds_toArray, List.set_cons_zero, List.set_cons_succ, i64_w, i32_w]
                      rfl
                    refine one_ (i := 5) (N := some 114) bs6_ rfl rfl (one_of HT_.out (by kernel_rfl)) (by decide) (fun K hK => ?_)
                    refine goes_ Try.func15 (by kernel_rfl) rfl #[.slice Ao152 y241.length co152] (by rfl) rfl rfl z41_ ?_
                    with_reducible refine (regletlaw23_refs.calls kj47 _ _ y241 t245 _ ?side1 ?side2 A61.out).mono ?_
                    (case side1 => exact z6_)
                    (case side2 => exact HC244.out)
                    rintro e w155 ⟨v246, rfl, ho0, hb⟩
                    refine ⟨_, rfl, ?_⟩
                    replace HO_5 := Aside0.mk (Kd.R_below z68_ hb)
                    replace HO_6 := Aside0.mk (Kd.R_below z69_ hb)
                    replace HO_7 := Aside0.mk (Kd.R_below z70_ hb)
                    replace HO237 := Aside0.mk (Kd.R_below z64_ hb)
                    have HO247 := Aside0.mk (Kd.R_lower (Kd.R_new' ho0 (Kd.R_lt z65_)) (below_size z44_))
                    replace HO240 := Aside0.mk (Kd.R_elder' z65_ (Kd.R_base ho0) hb)
                    replace HR232 := Aside0.mk (Kd.C_below z16_ hb)
                    replace HR244 := Aside0.mk (Kd.C_below z17_ hb)
                    replace HB := Aside0.mk (below_step z44_ hb)
                    (try clear hb)
                    (try clear hb2)
                    (try clear hk)
                    (try clear hi)
                    (try clear ho0)
                    obtain ⟨Ao156, co156, eo156⟩ := Kd.R_slice HO240.out
                    (first | subst eo156 | (injection eo156 with f1_ f2_ f3_; have f4_ := f1_.symm; have f5_ := f3_.symm; clear f1_ f2_ f3_; subst f4_; subst f5_))
                    obtain ⟨Ao157, co157, eo157⟩ := Kd.R_slice HO247.out
                    (first | subst eo157 | (injection eo157 with f1_ f2_ f3_; have f4_ := f1_.symm; have f5_ := f3_.symm; clear f1_ f2_ f3_; subst f4_; subst f5_))
                    refine hK.out _ _ trivial (fun hHeld => ?_)
                    clear hK K
                    refine norm_ (a' := ?_) ?_ ?_
                    rotate_left
                    · show Act.put _ (some 114) _ = _
                      simp only [Act.put, List.setIfInBounds_toArray, List.set_cons_zero, List.set_cons_succ, i64_w, i32_w]
                      rfl
                    refine one_ (i := 6) (N := some 115) bs7_ rfl rfl (one_of HT_.out (by kernel_rfl)) (by decide) (fun K hK => ?_)
                    refine goes_ Try.func14 (by kernel_rfl) rfl #[.slice Ao156 t238.length co156, .slice Ao157 t245.length co157] (by rfl) rfl rfl z41_ ?_
                    with_reducible refine (regletref23_Same.calls kj47 _ _ t238 _ _ t245 false _ ?side1 ?side2 ?side3 ?side4 A62.out).mono ?_
                    (case side1 => exact z24_)
                    (case side2 => exact z87_)
                    (case side3 => exact z25_)
                    (case side4 => exact z88_)
                    rintro e w' ⟨rfl, ⟨nd, rfl⟩⟩
                    refine ⟨_, rfl, ?_⟩
                    refine hK.out _ _ trivial (fun hHeld => ?_)
                    clear hK K
                    refine norm_ (a' := ?_) ?_ ?_
                    rotate_left
                    · show Act.put _ (some 115) _ = _
                      simp only [Act.put, List.setIfInBounds_toArray, List.set_cons_zero, List.set_cons_succ, i64_w, i32_w]
                      rfl
                    refine p1_ 7 116 bs8_ ?_
                    refine pure_ (i := 8) (N := some 117) (v := undef) (a' := ?_) bs9_ rfl rfl (any_of HT_.out (by kernel_rfl)) (fun _ _ _ h => h) (Or.inr ⟨by rfl, rfl⟩) ?_ ?_
                    rotate_left
                    · simp only [Act.put, List.setIfInBounds_toArray, List.set_cons_zero, List.set_cons_succ, i64_w, i32_w]
                      rfl
                    refine pure_ (i := 9) (N := some 118) (v := undef) (a' := ?_) bs10_ rfl rfl (any_of HT_.out (by kernel_rfl)) (fun _ _ _ h => h) (Or.inr ⟨by rfl, rfl⟩) ?_ ?_
                    rotate_left
                    · simp only [Act.put, List.setIfInBounds_toArray, List.set_cons_zero, List.set_cons_succ, i64_w, i32_w]
                      rfl
                    refine pure_ (i := 10) (N := some 119) (v := undef) (a' := ?_) bs11_ rfl rfl (any_of HT_.out (by kernel_rfl)) (fun _ _ _ h => h) (Or.inr ⟨by rfl, rfl⟩) ?_ ?_
                    rotate_left
                    · simp only [Act.put, List.setIfInBounds_toArray, List.set_cons_zero, List.set_cons_succ, i64_w, i32_w]
                      rfl
                    refine p1_ 11 120 bs12_ ?_
                    refine p1_ 12 121 bs13_ ?_
                    refine pure_ (i := 13) (N := some 122) (v := undef) (a' := ?_) bs14_ rfl rfl (any_of HT_.out (by kernel_rfl)) (fun _ _ _ h => h) (Or.inr ⟨by rfl, rfl⟩) ?_ ?_
                    rotate_left
                    · simp only [Act.put, List.setIfInBounds_toArray, List.set_cons_zero, List.set_cons_succ, i64_w, i32_w]
                      rfl
                    refine pure_ (i := 14) (N := some 123) (v := undef) (a' := ?_) bs15_ rfl rfl (any_of HT_.out (by kernel_rfl)) (fun _ _ _ h => h) (Or.inr ⟨by rfl, rfl⟩) ?_ ?_
                    rotate_left
                    · simp only [Act.put, List.setIfInBounds_toArray, List.set_cons_zero, List.set_cons_succ, i64_w, i32_w]
                      rfl
                    refine pure_ (i := 15) (N := some 124) (v := undef) (a' := ?_) bs16_ rfl rfl (any_of HT_.out (by kernel_rfl)) (fun _ _ _ h => h) (Or.inr ⟨by rfl, rfl⟩) ?_ ?_
                    rotate_left
                    · simp only [Act.put, List.setIfInBounds_toArray, List.set_cons_zero, List.set_cons_succ, i64_w, i32_w]
                      rfl
                    refine pure_ (i := 16) (N := some 125) (v := undef) (a' := ?_) bs17_ rfl rfl (any_of HT_.out (by kernel_rfl)) (fun _ _ _ h => h) (Or.inr ⟨by rfl, rfl⟩) ?_ ?_
                    rotate_left
                    · simp only [Act.put, List.setIfInBounds_toArray, List.set_cons_zero, List.set_cons_succ, i64_w, i32_w]
                      rfl
                    refine pure_ (i := 17) (N := some 126) (v := undef) (a' := ?_) bs18_ rfl rfl (any_of HT_.out (by kernel_rfl)) (fun _ _ _ h => h) (Or.inr ⟨by rfl, rfl⟩) ?_ ?_
                    rotate_left
                    · simp only [Act.put, List.setIfInBounds_toArray, List.set_cons_zero, List.set_cons_succ, i64_w, i32_w]
                      rfl
                    refine pure_ (i := 18) (N := some 127) (v := undef) (a' := ?_) bs19_ rfl rfl (any_of HT_.out (by kernel_rfl)) (fun _ _ _ h => h) (Or.inr ⟨by rfl, rfl⟩) ?_ ?_
                    rotate_left
                    · simp only [Act.put, List.setIfInBounds_toArray, List.set_cons_zero, List.set_cons_succ, i64_w, i32_w]
                      rfl
                    refine p1_ 19 128 bs20_ ?_
                    refine p1_ 20 129 bs21_ ?_
                    refine pure_ (i := 21) (N := some 130) (v := undef) (a' := ?_) bs22_ rfl rfl (any_of HT_.out (by kernel_rfl)) (fun _ _ _ h => h) (Or.inr ⟨by rfl, rfl⟩) ?_ ?_
                    rotate_left
                    · simp only [Act.put, List.setIfInBounds_toArray, List.set_cons_zero, List.set_cons_succ, i64_w, i32_w]
                      rfl
                    refine pure_ (i := 22) (N := some 131) (v := undef) (a' := ?_) bs23_ rfl rfl (any_of HT_.out (by kernel_rfl)) (fun _ _ _ h => h) (Or.inr ⟨by rfl, rfl⟩) ?_ ?_
                    rotate_left
                    · simp only [Act.put, List.setIfInBounds_toArray, List.set_cons_zero, List.set_cons_succ, i64_w, i32_w]
                      rfl
                    refine pure_ (i := 23) (N := some 132) (v := undef) (a' := ?_) bs24_ rfl rfl (any_of HT_.out (by kernel_rfl)) (fun _ _ _ h => h) (Or.inr ⟨by rfl, rfl⟩) ?_ ?_
                    rotate_left
                    · simp only [Act.put, List.setIfInBounds_toArray, List.set_cons_zero, List.set_cons_succ, i64_w, i32_w]
                      rfl
                    refine pure_ (i := 24) (N := some 133) (v := undef) (a' := ?_) bs25_ rfl rfl (any_of HT_.out (by kernel_rfl)) (fun _ _ _ h => h) (Or.inr ⟨by rfl, rfl⟩) ?_ ?_
                    rotate_left
                    · simp only [Act.put, List.setIfInBounds_toArray, List.set_cons_zero, List.set_cons_succ, i64_w, i32_w]
                      rfl
                    refine pure_ (i := 25) (N := some 134) (v := undef) (a' := ?_) bs26_ rfl rfl (any_of HT_.out (by kernel_rfl)) (fun _ _ _ h => h) (Or.inr ⟨by rfl, rfl⟩) ?_ ?_
                    rotate_left
                    · simp only [Act.put, List.setIfInBounds_toArray, List.set_cons_zero, List.set_cons_succ, i64_w, i32_w]
                      rfl
                    refine pure_ (i := 26) (N := some 135) (v := undef) (a' := ?_) bs27_ rfl rfl (any_of HT_.out (by kernel_rfl)) (fun _ _ _ h => h) (Or.inr ⟨by rfl, rfl⟩) ?_ ?_
                    rotate_left
                    · simp only [Act.put, List.setIfInBounds_toArray, List.set_cons_zero, List.set_cons_succ, i64_w, i32_w]
                      rfl
                    refine pure_ (i := 27) (N := some 136) (v := undef) (a' := ?_) bs28_ rfl rfl (any_of HT_.out (by kernel_rfl)) (fun _ _ _ h => h) (Or.inr ⟨by rfl, rfl⟩) ?_ ?_
                    rotate_left
                    · simp only [Act.put, List.setIfInBounds_toArray, List.set_cons_zero, List.set_cons_succ, i64_w, i32_w]
                      rfl
                    refine pure_ (i := 28) (N := some 137) (v := undef) (a' := ?_) bs29_ rfl rfl (any_of HT_.out (by kernel_rfl)) (fun _ _ _ h => h) (Or.inr ⟨by rfl, rfl⟩) ?_ ?_
                    rotate_left
                    · simp only [Act.put, List.setIfInBounds_toArray, List.set_cons_zero, List.set_cons_succ, i64_w, i32_w]
                      rfl
                    refine pure_ (i := 29) (N := some 138) (v := undef) (a' := ?_) bs30_ rfl rfl (any_of HT_.out (by kernel_rfl)) (fun _ _ _ h => h) (Or.inr ⟨by rfl, rfl⟩) ?_ ?_
                    rotate_left
                    · simp only [Act.put, List.setIfInBounds_toArray, List.set_cons_zero, List.set_cons_succ, i64_w, i32_w]
                      rfl
                    refine pure_ (i := 30) (N := some 139) (v := undef) (a' := ?_) bs31_ rfl rfl (any_of HT_.out (by kernel_rfl)) (fun _ _ _ h => h) (Or.inr ⟨by rfl, rfl⟩) ?_ ?_
                    rotate_left
                    · simp only [Act.put, List.setIfInBounds_toArray, List.set_cons_zero, List.set_cons_succ, i64_w, i32_w]
                      rfl
                    refine pure_ (i := 31) (N := some 140) (v := undef) (a' := ?_) bs32_ rfl rfl (any_of HT_.out (by kernel_rfl)) (fun _ _ _ h => h) (Or.inr ⟨by rfl, rfl⟩) ?_ ?_
                    rotate_left
                    · simp only [Act.put, List.setIfInBounds_toArray, List.set_cons_zero, List.set_cons_succ, i64_w, i32_w]
                      rfl
                    refine pure_ (i := 32) (N := some 141) (v := undef) (a' := ?_) bs33_ rfl rfl (any_of HT_.out (by kernel_rfl)) (fun _ _ _ h => h) (Or.inr ⟨by rfl, rfl⟩) ?_ ?_
                    rotate_left
                    · simp only [Act.put, List.setIfInBounds_toArray, List.set_cons_zero, List.set_cons_succ, i64_w, i32_w]
                      rfl
                    refine pure_ (i := 33) (N := some 142) (v := undef) (a' := ?_) bs34_ rfl rfl (any_of HT_.out (by kernel_rfl)) (fun _ _ _ h => h) (Or.inr ⟨by rfl, rfl⟩) ?_ ?_
                    rotate_left
                    · simp only [Act.put, List.setIfInBounds_toArray, List.set_cons_zero, List.set_cons_succ, i64_w, i32_w]
                      rfl
                    refine pure_ (i := 34) (N := some 143) (v := undef) (a' := ?_) bs35_ rfl rfl (any_of HT_.out (by kernel_rfl)) (fun _ _ _ h => h) (Or.inr ⟨by rfl, rfl⟩) ?_ ?_
                    rotate_left
                    · simp only [Act.put, List.setIfInBounds_toArray, List.set_cons_zero, List.set_cons_succ, i64_w, i32_w]
                      rfl
                    refine pure_ (i := 35) (N := some 144) (v := undef) (a' := ?_) bs36_ rfl rfl (any_of HT_.out (by kernel_rfl)) (fun _ _ _ h => h) (Or.inr ⟨by rfl, rfl⟩) ?_ ?_
                    rotate_left
                    · simp only [Act.put, List.setIfInBounds_toArray, List.set_cons_zero, List.set_cons_succ, i64_w, i32_w]
                      rfl
                    refine pure_ (i := 36) (N := some 145) (v := undef) (a' := ?_) bs37_ rfl rfl (any_of HT_.out (by kernel_rfl)) (fun _ _ _ h => h) (Or.inr ⟨by rfl, rfl⟩) ?_ ?_
                    rotate_left
                    · simp only [Act.put, List.setIfInBounds_toArray, List.set_cons_zero, List.set_cons_succ, i64_w, i32_w]
                      rfl
                    refine pure_ (i := 37) (N := some 146) (v := undef) (a' := ?_) bs38_ rfl rfl (any_of HT_.out (by kernel_rfl)) (fun _ _ _ h => h) (Or.inr ⟨by rfl, rfl⟩) ?_ ?_
                    rotate_left
                    · simp only [Act.put, List.setIfInBounds_toArray, List.set_cons_zero, List.set_cons_succ, i64_w, i32_w]
                      rfl
                    refine pure_ (i := 38) (N := some 147) (v := undef) (a' := ?_) bs39_ rfl rfl (any_of HT_.out (by kernel_rfl)) (fun _ _ _ h => h) (Or.inr ⟨by rfl, rfl⟩) ?_ ?_
                    rotate_left
                    · simp only [Act.put, List.setIfInBounds_toArray, List.set_cons_zero, List.set_cons_succ, i64_w, i32_w]
                      rfl
                    refine pure_ (i := 39) (N := some 148) (v := undef) (a' := ?_) bs40_ rfl rfl (any_of HT_.out (by kernel_rfl)) (fun _ _ _ h => h) (Or.inr ⟨by rfl, rfl⟩) ?_ ?_
                    rotate_left
                    · simp only [Act.put, List.setIfInBounds_toArray, List.set_cons_zero, List.set_cons_succ, i64_w, i32_w]
                      rfl
                    refine p1_ 40 149 bs41_ ?_
                    refine p1_ 41 4 bs42_ ?_
                    refine done_ (done_of HT_.out (by kernel_rfl)) ?_
                    try go_wp2
                    go_ret
                    exact ⟨z72_, z44_⟩
                  subst c63
                  have H1 : (if t234 ≤ a1 then (if ((t235 == 0) == (t234 == a1)) = true then (if x12_47 = 0 then (if t234 = 0 then (some true) else (if x12_47 > 0 then (if 0 ≤ (wrap64 (x12_47 - 1)) then (if (wrap64 (x12_47 - 1)) < (x7_1.length : Int) then (some (t234 == (rd x7_1 (wrap64 (x12_47 - 1))))) else (none)) else (none)) else (some false))) else (if x12_47 > 0 then (if 0 ≤ (wrap64 (x12_47 - 1)) then (if (wrap64 (x12_47 - 1)) < (x7_1.length : Int) then (some (t234 == (rd x7_1 (wrap64 (x12_47 - 1))))) else (none)) else (none)) else (some false))) else (some false)) else (some false)) = some r := by rw [if_pos rfl] at H; exact H
                  clear H
                  have H := H1
                  clear H1
                  by_cases c64 : t234 ≤ a1
                  rotate_left
                  · rw [if_neg c64] at H
                    have c64b0 : decide (t234 ≤ a1) = false := decide_eq_false c64
                    clear c64
                    obtain rfl := Option.some.inj H
                    have q138 : (a1 : Int) ≤ ((x6_1.length : Int) : Int) := of_decide_eq_true z80_
                    obtain ⟨i0138, hi0138, _, hsz138, _⟩ := info_parts info5
                    have hroom138 : x6_1.length ≤ co31 := (Kd.R_reads' HO_6.out).2.1
                    have hC138 : Kd.C (Kd.int .u8) _ Ao31 x6_1.length x6_1 := (Kd.R_reads' HO_6.out).2.2
                    have hcut138 := cut_to (P := Try.prog) 22 5 .i64 Try.underlying22 hi0138 Ao31 x6_1.length co31 a1 (of_decide_eq_true z80_) q138 hroom138
                    have hr138 := Kd.C_take (m := (a1 : Int).toNat) hC138 (by omega)
                    have hy138 : y229.length = (a1 : Int).toNat := z83_
                    rw [← Ny229.out] at hr138
                    rw [← hy138] at hcut138
                    have HR232 := Aside0.mk hr138
                    have HC232 := Aside0.mk (show y229.length ≤ co31 from by omega)
                    clear hr138 hC138 hroom138 hi0138 hsz138
                    have KY138 := Aside0.mk hy138
                    clear hy138
                    have KL138 := Aside0.mk (show (a1 : Int).toNat ≤ x6_1.length from by omega)
                    replace q138 := eq_true q138
                    try go_wp2_with (first | ((with_reducible refine gate_callee (f := 12) rfl ?_); refine goesL_ (some 105) rfl rfl Try.func12 (by kernel_rfl) rfl #[.slice Ao31 y229.length co31] rfl z41_ ?_; (with_reducible refine (journal_Parse.calls kj47 _ _ y229 t233 t234 t235 _ ?side1 ?side2 A57.out).mono ?_); (case side1 => exact z5_); (case side2 => exact HC232.out); rintro e w139 ⟨v236, rfl, ho0, hb⟩; refine ⟨_, rfl, ?_⟩; replace HO_6 := Aside0.mk (Kd.R_below z69_ hb); replace HO_7 := Aside0.mk (Kd.R_below z70_ hb); have HO237 := Aside0.mk (Kd.R_lower (Kd.R_new' ho0 (Kd.R_lt z68_)) (below_size z44_)); replace HO_5 := Aside0.mk (Kd.R_elder' z68_ (Kd.R_base ho0) hb); replace HR232 := Aside0.mk (Kd.C_below z16_ hb); replace HB := Aside0.mk (below_step z44_ hb); (try clear hb); (try clear hb2); (try clear hk); (try clear hi); (try clear ho0)))
                    replace HO_5 := Aside0.mk (Kd.R_drew HO_5.out)
                    replace HO_6 := Aside0.mk (Kd.R_drew HO_6.out)
                    replace HO_7 := Aside0.mk (Kd.R_drew HO_7.out)
                    replace HO237 := Aside0.mk (Kd.R_drew HO237.out)
                    replace HR232 := Aside0.mk (Kd.C_drew HR232.out)
                    replace HB := Aside0.mk (below_drew1 HB.out)
                    obtain ⟨Ao142, co142, eo142⟩ := Kd.R_slice HO_5.out
                    (first | subst eo142 | (injection eo142 with f1_ f2_ f3_; have f4_ := f1_.symm; have f5_ := f3_.symm; clear f1_ f2_ f3_; subst f4_; subst f5_))
                    have q141 : (x12_47 : Int) ≤ ((x5_1.length : Int) : Int) := of_decide_eq_true z80_
                    obtain ⟨i0141, hi0141, _, hsz141, _⟩ := info_parts info24
                    have hroom141 : x5_1.length ≤ co142 := (Kd.R_reads' HO_5.out).2.1
                    have hC141 : Kd.C k24 _ Ao142 x5_1.length x5_1 := (Kd.R_reads' HO_5.out).2.2
                    have hcut141 := cut_to (P := Try.prog) 35 24 .i64 Try.underlying35 hi0141 Ao142 x5_1.length co142 x12_47 (of_decide_eq_true z80_) q141 hroom141
                    have hr141 := Kd.C_take (m := (x12_47 : Int).toNat) hC141 (by omega)
                    have hy141 : y241.length = (x12_47 : Int).toNat := z84_
                    rw [← Ny241.out] at hr141
                    rw [← hy141] at hcut141
                    have HR244 := Aside0.mk hr141
                    have HC244 := Aside0.mk (show y241.length ≤ co142 from by omega)
                    clear hr141 hC141 hroom141 hi0141 hsz141
                    have KY141 := Aside0.mk hy141
                    clear hy141
                    have KL141 := Aside0.mk (show (x12_47 : Int).toNat ≤ x5_1.length from by omega)
                    replace q141 := eq_true q141
                    obtain ⟨Ao143, co143, eo143⟩ := Kd.R_slice HO237.out
                    (first | subst eo143 | (injection eo143 with f1_ f2_ f3_; have f4_ := f1_.symm; have f5_ := f3_.symm; clear f1_ f2_ f3_; subst f4_; subst f5_))
                    refine start_ (n := 42) (S := fun w' => True) (ds := []) bs0_ (by kernel_rfl) rfl rfl trivial (fun hHeld => ?_); refine with_tabW regletlaw23_JournalBack.tab26 regletlaw23_JournalBack.bits26 (fun HT_ HW_ => ?_)
                    generalize w139.drew = w140 at HO_5 HO_6 HO_7 HO237 HR232 HB HR244 hHeld ⊢
                    refine p1_ 0 109 bs1_ ?_
                    refine p1_ 2 111 bs2_ ?_
                    refine p1_ 3 112 bs3_ ?_
                    refine p1_ 4 113 bs4_ ?_
                    refine one_ (i := 1) (N := some 110) bs5_ rfl rfl (one_of HT_.out (by kernel_rfl)) (by decide) (fun K hK => ?_)
                    refine goes_ Try.func15 (by kernel_rfl) rfl #[.slice Ao143 t233.length co143] (by rfl) rfl rfl z41_ ?_
                    with_reducible refine (regletlaw23_refs.calls kj47 _ _ t233 t238 _ ?side1 ?side2 A58.out).mono ?_
                    (case side1 => exact z23_)
                    (case side2 => exact z86_)
                    rintro e w144 ⟨v239, rfl, ho0, hb⟩
                    refine ⟨_, rfl, ?_⟩
                    replace HO_5 := Aside0.mk (Kd.R_below z68_ hb)
                    replace HO_6 := Aside0.mk (Kd.R_below z69_ hb)
                    replace HO_7 := Aside0.mk (Kd.R_below z70_ hb)
                    replace HO237 := Aside0.mk (Kd.R_below z64_ hb)
                    have HO240 := Aside0.mk (Kd.R_lower ho0 (below_size z44_))
                    replace HR232 := Aside0.mk (Kd.C_below z16_ hb)
                    replace HR244 := Aside0.mk (Kd.C_below z17_ hb)
                    replace HB := Aside0.mk (below_step z44_ hb)
                    (try clear hb)
                    (try clear hb2)
                    (try clear hk)
                    (try clear hi)
                    (try clear ho0)
                    refine hK.out _ _ trivial (fun hHeld => ?_)
                    clear hK K
                    refine norm_ (a' := ?_) ?_ ?_
                    rotate_left
                    · show Act.put _ (some 110) _ = _
                      simp only [Act.put, List.setIfInBounds_toArray, List.set_cons_zero, List.set_cons_succ, i64_w, i32_w]
                      rfl
                    refine one_ (i := 5) (N := some 114) bs6_ rfl rfl (one_of HT_.out (by kernel_rfl)) (by decide) (fun K hK => ?_)
                    refine goes_ Try.func15 (by kernel_rfl) rfl #[.slice Ao142 y241.length co142] (by rfl) rfl rfl z41_ ?_
                    with_reducible refine (regletlaw23_refs.calls kj47 _ _ y241 t245 _ ?side1 ?side2 A61.out).mono ?_
                    (case side1 => exact z6_)
                    (case side2 => exact HC244.out)
                    rintro e w145 ⟨v246, rfl, ho0, hb⟩
                    refine ⟨_, rfl, ?_⟩
                    replace HO_5 := Aside0.mk (Kd.R_below z68_ hb)
                    replace HO_6 := Aside0.mk (Kd.R_below z69_ hb)
                    replace HO_7 := Aside0.mk (Kd.R_below z70_ hb)
                    replace HO237 := Aside0.mk (Kd.R_below z64_ hb)
                    have HO247 := Aside0.mk (Kd.R_lower (Kd.R_new' ho0 (Kd.R_lt z65_)) (below_size z44_))
                    replace HO240 := Aside0.mk (Kd.R_elder' z65_ (Kd.R_base ho0) hb)
                    replace HR232 := Aside0.mk (Kd.C_below z16_ hb)
                    replace HR244 := Aside0.mk (Kd.C_below z17_ hb)
                    replace HB := Aside0.mk (below_step z44_ hb)
                    (try clear hb)
                    (try clear hb2)
                    (try clear hk)
                    (try clear hi)
                    (try clear ho0)
                    obtain ⟨Ao146, co146, eo146⟩ := Kd.R_slice HO240.out
                    (first | subst eo146 | (injection eo146 with f1_ f2_ f3_; have f4_ := f1_.symm; have f5_ := f3_.symm; clear f1_ f2_ f3_; subst f4_; subst f5_))
                    obtain ⟨Ao147, co147, eo147⟩ := Kd.R_slice HO247.out
                    (first | subst eo147 | (injection eo147 with f1_ f2_ f3_; have f4_ := f1_.symm; have f5_ := f3_.symm; clear f1_ f2_ f3_; subst f4_; subst f5_))
                    refine hK.out _ _ trivial (fun hHeld => ?_)
                    clear hK K
                    refine norm_ (a' := ?_) ?_ ?_
                    rotate_left
                    · show Act.put _ (some 114) _ = _
                      simp only [Act.put, List.setIfInBounds_toArray, List.set_cons_zero, List.set_cons_succ, i64_w, i32_w]
                      rfl
                    refine one_ (i := 6) (N := some 115) bs7_ rfl rfl (one_of HT_.out (by kernel_rfl)) (by decide) (fun K hK => ?_)
                    refine goes_ Try.func14 (by kernel_rfl) rfl #[.slice Ao146 t238.length co146, .slice Ao147 t245.length co147] (by rfl) rfl rfl z41_ ?_
                    with_reducible refine (regletref23_Same.calls kj47 _ _ t238 _ _ t245 true _ ?side1 ?side2 ?side3 ?side4 A62.out).mono ?_
                    (case side1 => exact z24_)
                    (case side2 => exact z87_)
                    (case side3 => exact z25_)
                    (case side4 => exact z88_)
                    rintro e w' ⟨rfl, ⟨nd, rfl⟩⟩
                    refine ⟨_, rfl, ?_⟩
                    refine hK.out _ _ trivial (fun hHeld => ?_)
                    clear hK K
                    refine norm_ (a' := ?_) ?_ ?_
                    rotate_left
                    · show Act.put _ (some 115) _ = _
                      simp only [Act.put, List.setIfInBounds_toArray, List.set_cons_zero, List.set_cons_succ, i64_w, i32_w]
                      rfl
                    refine p1_ 7 116 bs8_ ?_
                    refine p1_ 8 117 bs9_ ?_
                    refine p1_ 9 118 bs10_ ?_
                    refine p1_ 10 119 bs11_ ?_
                    refine p1_ 11 120 bs12_ ?_
                    refine p1_ 12 121 bs13_ ?_
                    refine pure_ (i := 13) (N := some 122) (v := undef) (a' := ?_) bs14_ rfl rfl (any_of HT_.out (by kernel_rfl)) (fun _ _ _ h => h) (Or.inr ⟨by rfl, rfl⟩) ?_ ?_
                    rotate_left
                    · simp only [Act.put, List.setIfInBounds_toArray, List.set_cons_zero, List.set_cons_succ, i64_w, i32_w]
                      rfl
                    refine pure_ (i := 14) (N := some 123) (v := undef) (a' := ?_) bs15_ rfl rfl (any_of HT_.out (by kernel_rfl)) (fun _ _ _ h => h) (Or.inr ⟨by rfl, rfl⟩) ?_ ?_
                    rotate_left
                    · simp only [Act.put, List.setIfInBounds_toArray, List.set_cons_zero, List.set_cons_succ, i64_w, i32_w]
                      rfl
                    refine pure_ (i := 15) (N := some 124) (v := undef) (a' := ?_) bs16_ rfl rfl (any_of HT_.out (by kernel_rfl)) (fun _ _ _ h => h) (Or.inr ⟨by rfl, rfl⟩) ?_ ?_
                    rotate_left
                    · simp only [Act.put, List.setIfInBounds_toArray, List.set_cons_zero, List.set_cons_succ, i64_w, i32_w]
                      rfl
                    refine pure_ (i := 16) (N := some 125) (v := undef) (a' := ?_) bs17_ rfl rfl (any_of HT_.out (by kernel_rfl)) (fun _ _ _ h => h) (Or.inr ⟨by rfl, rfl⟩) ?_ ?_
                    rotate_left
                    · simp only [Act.put, List.setIfInBounds_toArray, List.set_cons_zero, List.set_cons_succ, i64_w, i32_w]
                      rfl
                    refine pure_ (i := 17) (N := some 126) (v := undef) (a' := ?_) bs18_ rfl rfl (any_of HT_.out (by kernel_rfl)) (fun _ _ _ h => h) (Or.inr ⟨by rfl, rfl⟩) ?_ ?_
                    rotate_left
                    · simp only [Act.put, List.setIfInBounds_toArray, List.set_cons_zero, List.set_cons_succ, i64_w, i32_w]
                      rfl
                    refine pure_ (i := 18) (N := some 127) (v := undef) (a' := ?_) bs19_ rfl rfl (any_of HT_.out (by kernel_rfl)) (fun _ _ _ h => h) (Or.inr ⟨by rfl, rfl⟩) ?_ ?_
                    rotate_left
                    · simp only [Act.put, List.setIfInBounds_toArray, List.set_cons_zero, List.set_cons_succ, i64_w, i32_w]
                      rfl
                    refine p1_ 19 128 bs20_ ?_
                    refine p1_ 20 129 bs21_ ?_
                    refine pure_ (i := 21) (N := some 130) (v := undef) (a' := ?_) bs22_ rfl rfl (any_of HT_.out (by kernel_rfl)) (fun _ _ _ h => h) (Or.inr ⟨by rfl, rfl⟩) ?_ ?_
                    rotate_left
                    · simp only [Act.put, List.setIfInBounds_toArray, List.set_cons_zero, List.set_cons_succ, i64_w, i32_w]
                      rfl
                    refine pure_ (i := 22) (N := some 131) (v := undef) (a' := ?_) bs23_ rfl rfl (any_of HT_.out (by kernel_rfl)) (fun _ _ _ h => h) (Or.inr ⟨by rfl, rfl⟩) ?_ ?_
                    rotate_left
                    · simp only [Act.put, List.setIfInBounds_toArray, List.set_cons_zero, List.set_cons_succ, i64_w, i32_w]
                      rfl
                    refine pure_ (i := 23) (N := some 132) (v := undef) (a' := ?_) bs24_ rfl rfl (any_of HT_.out (by kernel_rfl)) (fun _ _ _ h => h) (Or.inr ⟨by rfl, rfl⟩) ?_ ?_
                    rotate_left
                    · simp only [Act.put, List.setIfInBounds_toArray, List.set_cons_zero, List.set_cons_succ, i64_w, i32_w]
                      rfl
                    refine pure_ (i := 24) (N := some 133) (v := undef) (a' := ?_) bs25_ rfl rfl (any_of HT_.out (by kernel_rfl)) (fun _ _ _ h => h) (Or.inr ⟨by rfl, rfl⟩) ?_ ?_
                    rotate_left
                    · simp only [Act.put, List.setIfInBounds_toArray, List.set_cons_zero, List.set_cons_succ, i64_w, i32_w]
                      rfl
                    refine pure_ (i := 25) (N := some 134) (v := undef) (a' := ?_) bs26_ rfl rfl (any_of HT_.out (by kernel_rfl)) (fun _ _ _ h => h) (Or.inr ⟨by rfl, rfl⟩) ?_ ?_
                    rotate_left
                    · simp only [Act.put, List.setIfInBounds_toArray, List.set_cons_zero, List.set_cons_succ, i64_w, i32_w]
                      rfl
                    refine pure_ (i := 26) (N := some 135) (v := undef) (a' := ?_) bs27_ rfl rfl (any_of HT_.out (by kernel_rfl)) (fun _ _ _ h => h) (Or.inr ⟨by rfl, rfl⟩) ?_ ?_
                    rotate_left
                    · simp only [Act.put, List.setIfInBounds_toArray, List.set_cons_zero, List.set_cons_succ, i64_w, i32_w]
                      rfl
                    refine pure_ (i := 27) (N := some 136) (v := undef) (a' := ?_) bs28_ rfl rfl (any_of HT_.out (by kernel_rfl)) (fun _ _ _ h => h) (Or.inr ⟨by rfl, rfl⟩) ?_ ?_
                    rotate_left
                    · simp only [Act.put, List.setIfInBounds_toArray, List.set_cons_zero, List.set_cons_succ, i64_w, i32_w]
                      rfl
                    refine pure_ (i := 28) (N := some 137) (v := undef) (a' := ?_) bs29_ rfl rfl (any_of HT_.out (by kernel_rfl)) (fun _ _ _ h => h) (Or.inr ⟨by rfl, rfl⟩) ?_ ?_
                    rotate_left
                    · simp only [Act.put, List.setIfInBounds_toArray, List.set_cons_zero, List.set_cons_succ, i64_w, i32_w]
                      rfl
                    refine pure_ (i := 29) (N := some 138) (v := undef) (a' := ?_) bs30_ rfl rfl (any_of HT_.out (by kernel_rfl)) (fun _ _ _ h => h) (Or.inr ⟨by rfl, rfl⟩) ?_ ?_
                    rotate_left
                    · simp only [Act.put, List.setIfInBounds_toArray, List.set_cons_zero, List.set_cons_succ, i64_w, i32_w]
                      rfl
                    refine pure_ (i := 30) (N := some 139) (v := undef) (a' := ?_) bs31_ rfl rfl (any_of HT_.out (by kernel_rfl)) (fun _ _ _ h => h) (Or.inr ⟨by rfl, rfl⟩) ?_ ?_
                    rotate_left
                    · simp only [Act.put, List.setIfInBounds_toArray, List.set_cons_zero, List.set_cons_succ, i64_w, i32_w]
                      rfl
                    refine pure_ (i := 31) (N := some 140) (v := undef) (a' := ?_) bs32_ rfl rfl (any_of HT_.out (by kernel_rfl)) (fun _ _ _ h => h) (Or.inr ⟨by rfl, rfl⟩) ?_ ?_
                    rotate_left
                    · simp only [Act.put, List.setIfInBounds_toArray, List.set_cons_zero, List.set_cons_succ, i64_w, i32_w]
                      rfl
                    refine pure_ (i := 32) (N := some 141) (v := undef) (a' := ?_) bs33_ rfl rfl (any_of HT_.out (by kernel_rfl)) (fun _ _ _ h => h) (Or.inr ⟨by rfl, rfl⟩) ?_ ?_
                    rotate_left
                    · simp only [Act.put, List.setIfInBounds_toArray, List.set_cons_zero, List.set_cons_succ, i64_w, i32_w]
                      rfl
                    refine pure_ (i := 33) (N := some 142) (v := undef) (a' := ?_) bs34_ rfl rfl (any_of HT_.out (by kernel_rfl)) (fun _ _ _ h => h) (Or.inr ⟨by rfl, rfl⟩) ?_ ?_
                    rotate_left
                    · simp only [Act.put, List.setIfInBounds_toArray, List.set_cons_zero, List.set_cons_succ, i64_w, i32_w]
                      rfl
                    refine pure_ (i := 34) (N := some 143) (v := undef) (a' := ?_) bs35_ rfl rfl (any_of HT_.out (by kernel_rfl)) (fun _ _ _ h => h) (Or.inr ⟨by rfl, rfl⟩) ?_ ?_
                    rotate_left
                    · simp only [Act.put, List.setIfInBounds_toArray, List.set_cons_zero, List.set_cons_succ, i64_w, i32_w]
                      rfl
                    refine pure_ (i := 35) (N := some 144) (v := undef) (a' := ?_) bs36_ rfl rfl (any_of HT_.out (by kernel_rfl)) (fun _ _ _ h => h) (Or.inr ⟨by rfl, rfl⟩) ?_ ?_
                    rotate_left
                    · simp only [Act.put, List.setIfInBounds_toArray, List.set_cons_zero, List.set_cons_succ, i64_w, i32_w]
                      rfl
                    refine pure_ (i := 36) (N := some 145) (v := undef) (a' := ?_) bs37_ rfl rfl (any_of HT_.out (by kernel_rfl)) (fun _ _ _ h => h) (Or.inr ⟨by rfl, rfl⟩) ?_ ?_
                    rotate_left
                    · simp only [Act.put, List.setIfInBounds_toArray, List.set_cons_zero, List.set_cons_succ, i64_w, i32_w]
                      rfl
                    refine pure_ (i := 37) (N := some 146) (v := undef) (a' := ?_) bs38_ rfl rfl (any_of HT_.out (by kernel_rfl)) (fun _ _ _ h => h) (Or.inr ⟨by rfl, rfl⟩) ?_ ?_
                    rotate_left
                    · simp only [Act.put, List.setIfInBounds_toArray, List.set_cons_zero, List.set_cons_succ, i64_w, i32_w]
                      rfl
                    refine pure_ (i := 38) (N := some 147) (v := undef) (a' := ?_) bs39_ rfl rfl (any_of HT_.out (by kernel_rfl)) (fun _ _ _ h => h) (Or.inr ⟨by rfl, rfl⟩) ?_ ?_
                    rotate_left
                    · simp only [Act.put, List.setIfInBounds_toArray, List.set_cons_zero, List.set_cons_succ, i64_w, i32_w]
                      rfl
                    refine pure_ (i := 39) (N := some 148) (v := undef) (a' := ?_) bs40_ rfl rfl (any_of HT_.out (by kernel_rfl)) (fun _ _ _ h => h) (Or.inr ⟨by rfl, rfl⟩) ?_ ?_
                    rotate_left
                    · simp only [Act.put, List.setIfInBounds_toArray, List.set_cons_zero, List.set_cons_succ, i64_w, i32_w]
                      rfl
                    refine p1_ 40 149 bs41_ ?_
                    refine p1_ 41 4 bs42_ ?_
                    refine done_ (done_of HT_.out (by kernel_rfl)) ?_
                    try go_wp2
                    go_ret
                    exact ⟨z72_, z44_⟩
                  rw [if_pos c64] at H
                  have c64b0 : decide (t234 ≤ a1) = true := decide_eq_true c64
                  clear c64
                  by_cases c65 : ((t235 == 0) == (t234 == a1)) = true
                  rotate_left
                  · rw [if_neg c65] at H
                    have c65b0 : ((t235 == 0) == (t234 == a1)) = false := by simpa using c65
                    (try (have c65b1 : decide ((t235 == 0) = (t234 == a1)) = false := by simpa using c65))
                    (try (have c65b2 : ((t235 == 0) == (t234 == a1)) = false := by simpa using c65))
                    (try (have c65b3 : ¬ ((t235 == 0) = (t234 == a1)) := by simpa using c65))
                    clear c65
                    obtain rfl := Option.some.inj H
                    have q128 : (a1 : Int) ≤ ((x6_1.length : Int) : Int) := of_decide_eq_true z80_
                    obtain ⟨i0128, hi0128, _, hsz128, _⟩ := info_parts info5
                    have hroom128 : x6_1.length ≤ co31 := (Kd.R_reads' HO_6.out).2.1
                    have hC128 : Kd.C (Kd.int .u8) _ Ao31 x6_1.length x6_1 := (Kd.R_reads' HO_6.out).2.2
                    have hcut128 := cut_to (P := Try.prog) 22 5 .i64 Try.underlying22 hi0128 Ao31 x6_1.length co31 a1 (of_decide_eq_true z80_) q128 hroom128
                    have hr128 := Kd.C_take (m := (a1 : Int).toNat) hC128 (by omega)
                    have hy128 : y229.length = (a1 : Int).toNat := z83_
                    rw [← Ny229.out] at hr128
                    rw [← hy128] at hcut128
                    have HR232 := Aside0.mk hr128
                    have HC232 := Aside0.mk (show y229.length ≤ co31 from by omega)
                    clear hr128 hC128 hroom128 hi0128 hsz128
                    have KY128 := Aside0.mk hy128
                    clear hy128
                    have KL128 := Aside0.mk (show (a1 : Int).toNat ≤ x6_1.length from by omega)
                    replace q128 := eq_true q128
                    try go_wp2_with (first | ((with_reducible refine gate_callee (f := 12) rfl ?_); refine goesL_ (some 105) rfl rfl Try.func12 (by kernel_rfl) rfl #[.slice Ao31 y229.length co31] rfl z41_ ?_; (with_reducible refine (journal_Parse.calls kj47 _ _ y229 t233 t234 t235 _ ?side1 ?side2 A57.out).mono ?_); (case side1 => exact z5_); (case side2 => exact HC232.out); rintro e w129 ⟨v236, rfl, ho0, hb⟩; refine ⟨_, rfl, ?_⟩; replace HO_6 := Aside0.mk (Kd.R_below z69_ hb); replace HO_7 := Aside0.mk (Kd.R_below z70_ hb); have HO237 := Aside0.mk (Kd.R_lower (Kd.R_new' ho0 (Kd.R_lt z68_)) (below_size z44_)); replace HO_5 := Aside0.mk (Kd.R_elder' z68_ (Kd.R_base ho0) hb); replace HR232 := Aside0.mk (Kd.C_below z16_ hb); replace HB := Aside0.mk (below_step z44_ hb); (try clear hb); (try clear hb2); (try clear hk); (try clear hi); (try clear ho0)))
                    replace HO_5 := Aside0.mk (Kd.R_drew HO_5.out)
                    replace HO_6 := Aside0.mk (Kd.R_drew HO_6.out)
                    replace HO_7 := Aside0.mk (Kd.R_drew HO_7.out)
                    replace HO237 := Aside0.mk (Kd.R_drew HO237.out)
                    replace HR232 := Aside0.mk (Kd.C_drew HR232.out)
                    replace HB := Aside0.mk (below_drew1 HB.out)
                    obtain ⟨Ao132, co132, eo132⟩ := Kd.R_slice HO_5.out
                    (first | subst eo132 | (injection eo132 with f1_ f2_ f3_; have f4_ := f1_.symm; have f5_ := f3_.symm; clear f1_ f2_ f3_; subst f4_; subst f5_))
                    have q131 : (x12_47 : Int) ≤ ((x5_1.length : Int) : Int) := of_decide_eq_true z80_
                    obtain ⟨i0131, hi0131, _, hsz131, _⟩ := info_parts info24
                    have hroom131 : x5_1.length ≤ co132 := (Kd.R_reads' HO_5.out).2.1
                    have hC131 : Kd.C k24 _ Ao132 x5_1.length x5_1 := (Kd.R_reads' HO_5.out).2.2
                    have hcut131 := cut_to (P := Try.prog) 35 24 .i64 Try.underlying35 hi0131 Ao132 x5_1.length co132 x12_47 (of_decide_eq_true z80_) q131 hroom131
                    have hr131 := Kd.C_take (m := (x12_47 : Int).toNat) hC131 (by omega)
                    have hy131 : y241.length = (x12_47 : Int).toNat := z84_
                    rw [← Ny241.out] at hr131
                    rw [← hy131] at hcut131
                    have HR244 := Aside0.mk hr131
                    have HC244 := Aside0.mk (show y241.length ≤ co132 from by omega)
                    clear hr131 hC131 hroom131 hi0131 hsz131
                    have KY131 := Aside0.mk hy131
                    clear hy131
                    have KL131 := Aside0.mk (show (x12_47 : Int).toNat ≤ x5_1.length from by omega)
                    replace q131 := eq_true q131
                    obtain ⟨Ao133, co133, eo133⟩ := Kd.R_slice HO237.out
                    (first | subst eo133 | (injection eo133 with f1_ f2_ f3_; have f4_ := f1_.symm; have f5_ := f3_.symm; clear f1_ f2_ f3_; subst f4_; subst f5_))
                    refine start_ (n := 42) (S := fun w' => True) (ds := []) bs0_ (by kernel_rfl) rfl rfl trivial (fun hHeld => ?_); refine with_tabW regletlaw23_JournalBack.tab26 regletlaw23_JournalBack.bits26 (fun HT_ HW_ => ?_)
                    generalize w129.drew = w130 at HO_5 HO_6 HO_7 HO237 HR232 HB HR244 hHeld ⊢
                    refine p1_ 0 109 bs1_ ?_
                    refine p1_ 2 111 bs2_ ?_
                    refine p1_ 3 112 bs3_ ?_
                    refine p1_ 4 113 bs4_ ?_
                    refine one_ (i := 1) (N := some 110) bs5_ rfl rfl (one_of HT_.out (by kernel_rfl)) (by decide) (fun K hK => ?_)
                    refine goes_ Try.func15 (by kernel_rfl) rfl #[.slice Ao133 t233.length co133] (by rfl) rfl rfl z41_ ?_
                    with_reducible refine (regletlaw23_refs.calls kj47 _ _ t233 t238 _ ?side1 ?side2 A58.out).mono ?_
                    (case side1 => exact z23_)
                    (case side2 => exact z86_)
                    rintro e w134 ⟨v239, rfl, ho0, hb⟩
                    refine ⟨_, rfl, ?_⟩
                    replace HO_5 := Aside0.mk (Kd.R_below z68_ hb)
                    replace HO_6 := Aside0.mk (Kd.R_below z69_ hb)
                    replace HO_7 := Aside0.mk (Kd.R_below z70_ hb)
                    replace HO237 := Aside0.mk (Kd.R_below z64_ hb)
                    have HO240 := Aside0.mk (Kd.R_lower ho0 (below_size z44_))
                    replace HR232 := Aside0.mk (Kd.C_below z16_ hb)
                    replace HR244 := Aside0.mk (Kd.C_below z17_ hb)
                    replace HB := Aside0.mk (below_step z44_ hb)
                    (try clear hb)
                    (try clear hb2)
                    (try clear hk)
                    (try clear hi)
                    (try clear ho0)
                    refine hK.out _ _ trivial (fun hHeld => ?_)
                    clear hK K
                    refine norm_ (a' := ?_) ?_ ?_
                    rotate_left
                    · show Act.put _ (some 110) _ = _
                      simp only [Act.put, List.setIfInBounds_toArray, List.set_cons_zero, List.set_cons_succ, i64_w, i32_w]
                      rfl
                    refine one_ (i := 5) (N := some 114) bs6_ rfl rfl (one_of HT_.out (by kernel_rfl)) (by decide) (fun K hK => ?_)
                    refine goes_ Try.func15 (by kernel_rfl) rfl #[.slice Ao132 y241.length co132] (by rfl) rfl rfl z41_ ?_
                    with_reducible refine (regletlaw23_refs.calls kj47 _ _ y241 t245 _ ?side1 ?side2 A61.out).mono ?_
                    (case side1 => exact z6_)
                    (case side2 => exact HC244.out)
                    rintro e w135 ⟨v246, rfl, ho0, hb⟩
                    refine ⟨_, rfl, ?_⟩
                    replace HO_5 := Aside0.mk (Kd.R_below z68_ hb)
                    replace HO_6 := Aside0.mk (Kd.R_below z69_ hb)
                    replace HO_7 := Aside0.mk (Kd.R_below z70_ hb)
                    replace HO237 := Aside0.mk (Kd.R_below z64_ hb)
                    have HO247 := Aside0.mk (Kd.R_lower (Kd.R_new' ho0 (Kd.R_lt z65_)) (below_size z44_))
                    replace HO240 := Aside0.mk (Kd.R_elder' z65_ (Kd.R_base ho0) hb)
                    replace HR232 := Aside0.mk (Kd.C_below z16_ hb)
                    replace HR244 := Aside0.mk (Kd.C_below z17_ hb)
                    replace HB := Aside0.mk (below_step z44_ hb)
                    (try clear hb)
                    (try clear hb2)
                    (try clear hk)
                    (try clear hi)
                    (try clear ho0)
                    obtain ⟨Ao136, co136, eo136⟩ := Kd.R_slice HO240.out
                    (first | subst eo136 | (injection eo136 with f1_ f2_ f3_; have f4_ := f1_.symm; have f5_ := f3_.symm; clear f1_ f2_ f3_; subst f4_; subst f5_))
                    obtain ⟨Ao137, co137, eo137⟩ := Kd.R_slice HO247.out
                    (first | subst eo137 | (injection eo137 with f1_ f2_ f3_; have f4_ := f1_.symm; have f5_ := f3_.symm; clear f1_ f2_ f3_; subst f4_; subst f5_))
                    refine hK.out _ _ trivial (fun hHeld => ?_)
                    clear hK K
                    refine norm_ (a' := ?_) ?_ ?_
                    rotate_left
                    · show Act.put _ (some 114) _ = _
                      simp only [Act.put, List.setIfInBounds_toArray, List.set_cons_zero, List.set_cons_succ, i64_w, i32_w]
                      rfl
                    refine one_ (i := 6) (N := some 115) bs7_ rfl rfl (one_of HT_.out (by kernel_rfl)) (by decide) (fun K hK => ?_)
                    refine goes_ Try.func14 (by kernel_rfl) rfl #[.slice Ao136 t238.length co136, .slice Ao137 t245.length co137] (by rfl) rfl rfl z41_ ?_
                    with_reducible refine (regletref23_Same.calls kj47 _ _ t238 _ _ t245 true _ ?side1 ?side2 ?side3 ?side4 A62.out).mono ?_
                    (case side1 => exact z24_)
                    (case side2 => exact z87_)
                    (case side3 => exact z25_)
                    (case side4 => exact z88_)
                    rintro e w' ⟨rfl, ⟨nd, rfl⟩⟩
                    refine ⟨_, rfl, ?_⟩
                    refine hK.out _ _ trivial (fun hHeld => ?_)
                    clear hK K
                    refine norm_ (a' := ?_) ?_ ?_
                    rotate_left
                    · show Act.put _ (some 115) _ = _
                      simp only [Act.put, List.setIfInBounds_toArray, List.set_cons_zero, List.set_cons_succ, i64_w, i32_w]
                      rfl
                    refine p1_ 7 116 bs8_ ?_
                    refine p1_ 8 117 bs9_ ?_
                    refine p1_ 9 118 bs10_ ?_
                    refine p1_ 10 119 bs11_ ?_
                    refine p1_ 11 120 bs12_ ?_
                    refine p1_ 12 121 bs13_ ?_
                    refine p1_ 13 122 bs14_ ?_
                    refine p1_ 14 123 bs15_ ?_
                    refine p1_ 15 124 bs16_ ?_
                    refine p1_ 16 125 bs17_ ?_
                    refine p1_ 17 126 bs18_ ?_
                    refine p1_ 18 127 bs19_ ?_
                    refine p1_ 19 128 bs20_ ?_
                    refine p1_ 20 129 bs21_ ?_
                    refine pure_ (i := 21) (N := some 130) (v := undef) (a' := ?_) bs22_ rfl rfl (any_of HT_.out (by kernel_rfl)) (fun _ _ _ h => h) (Or.inr ⟨by rfl, rfl⟩) ?_ ?_
                    rotate_left
                    · simp only [Act.put, List.setIfInBounds_toArray, List.set_cons_zero, List.set_cons_succ, i64_w, i32_w]
                      rfl
                    refine pure_ (i := 22) (N := some 131) (v := undef) (a' := ?_) bs23_ rfl rfl (any_of HT_.out (by kernel_rfl)) (fun _ _ _ h => h) (Or.inr ⟨by rfl, rfl⟩) ?_ ?_
                    rotate_left
                    · simp only [Act.put, List.setIfInBounds_toArray, List.set_cons_zero, List.set_cons_succ, i64_w, i32_w]
                      rfl
                    refine pure_ (i := 23) (N := some 132) (v := undef) (a' := ?_) bs24_ rfl rfl (any_of HT_.out (by kernel_rfl)) (fun _ _ _ h => h) (Or.inr ⟨by rfl, rfl⟩) ?_ ?_
                    rotate_left
                    · simp only [Act.put, List.setIfInBounds_toArray, List.set_cons_zero, List.set_cons_succ, i64_w, i32_w]
                      rfl
                    refine pure_ (i := 24) (N := some 133) (v := undef) (a' := ?_) bs25_ rfl rfl (any_of HT_.out (by kernel_rfl)) (fun _ _ _ h => h) (Or.inr ⟨by rfl, rfl⟩) ?_ ?_
                    rotate_left
                    · simp only [Act.put, List.setIfInBounds_toArray, List.set_cons_zero, List.set_cons_succ, i64_w, i32_w]
                      rfl
                    refine pure_ (i := 25) (N := some 134) (v := undef) (a' := ?_) bs26_ rfl rfl (any_of HT_.out (by kernel_rfl)) (fun _ _ _ h => h) (Or.inr ⟨by rfl, rfl⟩) ?_ ?_
                    rotate_left
                    · simp only [Act.put, List.setIfInBounds_toArray, List.set_cons_zero, List.set_cons_succ, i64_w, i32_w]
                      rfl
                    refine pure_ (i := 26) (N := some 135) (v := undef) (a' := ?_) bs27_ rfl rfl (any_of HT_.out (by kernel_rfl)) (fun _ _ _ h => h) (Or.inr ⟨by rfl, rfl⟩) ?_ ?_
                    rotate_left
                    · simp only [Act.put, List.setIfInBounds_toArray, List.set_cons_zero, List.set_cons_succ, i64_w, i32_w]
                      rfl
                    refine pure_ (i := 27) (N := some 136) (v := undef) (a' := ?_) bs28_ rfl rfl (any_of HT_.out (by kernel_rfl)) (fun _ _ _ h => h) (Or.inr ⟨by rfl, rfl⟩) ?_ ?_
                    rotate_left
                    · simp only [Act.put, List.setIfInBounds_toArray, List.set_cons_zero, List.set_cons_succ, i64_w, i32_w]
                      rfl
                    refine pure_ (i := 28) (N := some 137) (v := undef) (a' := ?_) bs29_ rfl rfl (any_of HT_.out (by kernel_rfl)) (fun _ _ _ h => h) (Or.inr ⟨by rfl, rfl⟩) ?_ ?_
                    rotate_left
                    · simp only [Act.put, List.setIfInBounds_toArray, List.set_cons_zero, List.set_cons_succ, i64_w, i32_w]
                      rfl
                    refine pure_ (i := 29) (N := some 138) (v := undef) (a' := ?_) bs30_ rfl rfl (any_of HT_.out (by kernel_rfl)) (fun _ _ _ h => h) (Or.inr ⟨by rfl, rfl⟩) ?_ ?_
                    rotate_left
                    · simp only [Act.put, List.setIfInBounds_toArray, List.set_cons_zero, List.set_cons_succ, i64_w, i32_w]
                      rfl
                    refine pure_ (i := 30) (N := some 139) (v := undef) (a' := ?_) bs31_ rfl rfl (any_of HT_.out (by kernel_rfl)) (fun _ _ _ h => h) (Or.inr ⟨by rfl, rfl⟩) ?_ ?_
                    rotate_left
                    · simp only [Act.put, List.setIfInBounds_toArray, List.set_cons_zero, List.set_cons_succ, i64_w, i32_w]
                      rfl
                    refine pure_ (i := 31) (N := some 140) (v := undef) (a' := ?_) bs32_ rfl rfl (any_of HT_.out (by kernel_rfl)) (fun _ _ _ h => h) (Or.inr ⟨by rfl, rfl⟩) ?_ ?_
                    rotate_left
                    · simp only [Act.put, List.setIfInBounds_toArray, List.set_cons_zero, List.set_cons_succ, i64_w, i32_w]
                      rfl
                    refine pure_ (i := 32) (N := some 141) (v := undef) (a' := ?_) bs33_ rfl rfl (any_of HT_.out (by kernel_rfl)) (fun _ _ _ h => h) (Or.inr ⟨by rfl, rfl⟩) ?_ ?_
                    rotate_left
                    · simp only [Act.put, List.setIfInBounds_toArray, List.set_cons_zero, List.set_cons_succ, i64_w, i32_w]
                      rfl
                    refine pure_ (i := 33) (N := some 142) (v := undef) (a' := ?_) bs34_ rfl rfl (any_of HT_.out (by kernel_rfl)) (fun _ _ _ h => h) (Or.inr ⟨by rfl, rfl⟩) ?_ ?_
                    rotate_left
                    · simp only [Act.put, List.setIfInBounds_toArray, List.set_cons_zero, List.set_cons_succ, i64_w, i32_w]
                      rfl
                    refine pure_ (i := 34) (N := some 143) (v := undef) (a' := ?_) bs35_ rfl rfl (any_of HT_.out (by kernel_rfl)) (fun _ _ _ h => h) (Or.inr ⟨by rfl, rfl⟩) ?_ ?_
                    rotate_left
                    · simp only [Act.put, List.setIfInBounds_toArray, List.set_cons_zero, List.set_cons_succ, i64_w, i32_w]
                      rfl
                    refine pure_ (i := 35) (N := some 144) (v := undef) (a' := ?_) bs36_ rfl rfl (any_of HT_.out (by kernel_rfl)) (fun _ _ _ h => h) (Or.inr ⟨by rfl, rfl⟩) ?_ ?_
                    rotate_left
                    · simp only [Act.put, List.setIfInBounds_toArray, List.set_cons_zero, List.set_cons_succ, i64_w, i32_w]
                      rfl
                    refine pure_ (i := 36) (N := some 145) (v := undef) (a' := ?_) bs37_ rfl rfl (any_of HT_.out (by kernel_rfl)) (fun _ _ _ h => h) (Or.inr ⟨by rfl, rfl⟩) ?_ ?_
                    rotate_left
                    · simp only [Act.put, List.setIfInBounds_toArray, List.set_cons_zero, List.set_cons_succ, i64_w, i32_w]
                      rfl
                    refine pure_ (i := 37) (N := some 146) (v := undef) (a' := ?_) bs38_ rfl rfl (any_of HT_.out (by kernel_rfl)) (fun _ _ _ h => h) (Or.inr ⟨by rfl, rfl⟩) ?_ ?_
                    rotate_left
                    · simp only [Act.put, List.setIfInBounds_toArray, List.set_cons_zero, List.set_cons_succ, i64_w, i32_w]
                      rfl
                    refine pure_ (i := 38) (N := some 147) (v := undef) (a' := ?_) bs39_ rfl rfl (any_of HT_.out (by kernel_rfl)) (fun _ _ _ h => h) (Or.inr ⟨by rfl, rfl⟩) ?_ ?_
                    rotate_left
                    · simp only [Act.put, List.setIfInBounds_toArray, List.set_cons_zero, List.set_cons_succ, i64_w, i32_w]
                      rfl
                    refine pure_ (i := 39) (N := some 148) (v := undef) (a' := ?_) bs40_ rfl rfl (any_of HT_.out (by kernel_rfl)) (fun _ _ _ h => h) (Or.inr ⟨by rfl, rfl⟩) ?_ ?_
                    rotate_left
                    · simp only [Act.put, List.setIfInBounds_toArray, List.set_cons_zero, List.set_cons_succ, i64_w, i32_w]
                      rfl
                    refine p1_ 40 149 bs41_ ?_
                    refine p1_ 41 4 bs42_ ?_
                    refine done_ (done_of HT_.out (by kernel_rfl)) ?_
                    try go_wp2
                    go_ret
                    exact ⟨z72_, z44_⟩
                  rw [if_pos c65] at H
                  have c65b0 : ((t235 == 0) == (t234 == a1)) = true := c65
                  (try (have c65b1 : decide ((t235 == 0) = (t234 == a1)) = true := by simpa using c65))
                  (try (have c65b2 : ((t235 == 0) == (t234 == a1)) = true := by simpa using c65))
                  clear c65
                  by_cases c66 : x12_47 = 0
                  rotate_left
                  · rw [if_neg c66] at H
                    have c66b0 : (x12_47 == 0) = false := beq_eq_false_iff_ne.mpr c66
                    have c66b1 : (x12_47 != 0) = true := bne_iff_ne.mpr c66
                    by_cases c103 : x12_47 > 0
                    rotate_left
                    · rw [if_neg c103] at H
                      have c103b0 : decide (0 < x12_47) = false := decide_eq_false c103
                      clear c103
                      obtain rfl := Option.some.inj H
                      have q118 : (a1 : Int) ≤ ((x6_1.length : Int) : Int) := of_decide_eq_true z80_
                      obtain ⟨i0118, hi0118, _, hsz118, _⟩ := info_parts info5
                      have hroom118 : x6_1.length ≤ co31 := (Kd.R_reads' HO_6.out).2.1
                      have hC118 : Kd.C (Kd.int .u8) _ Ao31 x6_1.length x6_1 := (Kd.R_reads' HO_6.out).2.2
                      have hcut118 := cut_to (P := Try.prog) 22 5 .i64 Try.underlying22 hi0118 Ao31 x6_1.length co31 a1 (of_decide_eq_true z80_) q118 hroom118
                      have hr118 := Kd.C_take (m := (a1 : Int).toNat) hC118 (by omega)
                      have hy118 : y229.length = (a1 : Int).toNat := z83_
                      rw [← Ny229.out] at hr118
                      rw [← hy118] at hcut118
                      have HR232 := Aside0.mk hr118
                      have HC232 := Aside0.mk (show y229.length ≤ co31 from by omega)
                      clear hr118 hC118 hroom118 hi0118 hsz118
                      have KY118 := Aside0.mk hy118
                      clear hy118
                      have KL118 := Aside0.mk (show (a1 : Int).toNat ≤ x6_1.length from by omega)
                      replace q118 := eq_true q118
                      try go_wp2_with (first | ((with_reducible refine gate_callee (f := 12) rfl ?_); refine goesL_ (some 105) rfl rfl Try.func12 (by kernel_rfl) rfl #[.slice Ao31 y229.length co31] rfl z41_ ?_; (with_reducible refine (journal_Parse.calls kj47 _ _ y229 t233 t234 t235 _ ?side1 ?side2 A57.out).mono ?_); (case side1 => exact z5_); (case side2 => exact HC232.out); rintro e w119 ⟨v236, rfl, ho0, hb⟩; refine ⟨_, rfl, ?_⟩; replace HO_6 := Aside0.mk (Kd.R_below z69_ hb); replace HO_7 := Aside0.mk (Kd.R_below z70_ hb); have HO237 := Aside0.mk (Kd.R_lower (Kd.R_new' ho0 (Kd.R_lt z68_)) (below_size z44_)); replace HO_5 := Aside0.mk (Kd.R_elder' z68_ (Kd.R_base ho0) hb); replace HR232 := Aside0.mk (Kd.C_below z16_ hb); replace HB := Aside0.mk (below_step z44_ hb); (try clear hb); (try clear hb2); (try clear hk); (try clear hi); (try clear ho0)))
                      replace HO_5 := Aside0.mk (Kd.R_drew HO_5.out)
                      replace HO_6 := Aside0.mk (Kd.R_drew HO_6.out)
                      replace HO_7 := Aside0.mk (Kd.R_drew HO_7.out)
                      replace HO237 := Aside0.mk (Kd.R_drew HO237.out)
                      replace HR232 := Aside0.mk (Kd.C_drew HR232.out)
                      replace HB := Aside0.mk (below_drew1 HB.out)
                      obtain ⟨Ao122, co122, eo122⟩ := Kd.R_slice HO_5.out
                      (first | subst eo122 | (injection eo122 with f1_ f2_ f3_; have f4_ := f1_.symm; have f5_ := f3_.symm; clear f1_ f2_ f3_; subst f4_; subst f5_))
                      have q121 : (x12_47 : Int) ≤ ((x5_1.length : Int) : Int) := of_decide_eq_true z80_
                      obtain ⟨i0121, hi0121, _, hsz121, _⟩ := info_parts info24
                      have hroom121 : x5_1.length ≤ co122 := (Kd.R_reads' HO_5.out).2.1
                      have hC121 : Kd.C k24 _ Ao122 x5_1.length x5_1 := (Kd.R_reads' HO_5.out).2.2
                      have hcut121 := cut_to (P := Try.prog) 35 24 .i64 Try.underlying35 hi0121 Ao122 x5_1.length co122 x12_47 (of_decide_eq_true z80_) q121 hroom121
                      have hr121 := Kd.C_take (m := (x12_47 : Int).toNat) hC121 (by omega)
                      have hy121 : y241.length = (x12_47 : Int).toNat := z84_
                      rw [← Ny241.out] at hr121
                      rw [← hy121] at hcut121
                      have HR244 := Aside0.mk hr121
                      have HC244 := Aside0.mk (show y241.length ≤ co122 from by omega)
                      clear hr121 hC121 hroom121 hi0121 hsz121
                      have KY121 := Aside0.mk hy121
                      clear hy121
                      have KL121 := Aside0.mk (show (x12_47 : Int).toNat ≤ x5_1.length from by omega)
                      replace q121 := eq_true q121
                      obtain ⟨Ao123, co123, eo123⟩ := Kd.R_slice HO237.out
                      (first | subst eo123 | (injection eo123 with f1_ f2_ f3_; have f4_ := f1_.symm; have f5_ := f3_.symm; clear f1_ f2_ f3_; subst f4_; subst f5_))
                      refine start_ (n := 42) (S := fun w' => True) (ds := []) bs0_ (by kernel_rfl) rfl rfl trivial (fun hHeld => ?_); refine with_tabW regletlaw23_JournalBack.tab26 regletlaw23_JournalBack.bits26 (fun HT_ HW_ => ?_)
                      generalize w119.drew = w120 at HO_5 HO_6 HO_7 HO237 HR232 HB HR244 hHeld ⊢
                      refine p1_ 0 109 bs1_ ?_
                      refine p1_ 2 111 bs2_ ?_
                      refine p1_ 3 112 bs3_ ?_
                      refine p1_ 4 113 bs4_ ?_
                      refine one_ (i := 1) (N := some 110) bs5_ rfl rfl (one_of HT_.out (by kernel_rfl)) (by decide) (fun K hK => ?_)
                      refine goes_ Try.func15 (by kernel_rfl) rfl #[.slice Ao123 t233.length co123] (by rfl) rfl rfl z41_ ?_
                      with_reducible refine (regletlaw23_refs.calls kj47 _ _ t233 t238 _ ?side1 ?side2 A58.out).mono ?_
                      (case side1 => exact z23_)
                      (case side2 => exact z86_)
                      rintro e w124 ⟨v239, rfl, ho0, hb⟩
                      refine ⟨_, rfl, ?_⟩
                      replace HO_5 := Aside0.mk (Kd.R_below z68_ hb)
                      replace HO_6 := Aside0.mk (Kd.R_below z69_ hb)
                      replace HO_7 := Aside0.mk (Kd.R_below z70_ hb)
                      replace HO237 := Aside0.mk (Kd.R_below z64_ hb)
                      have HO240 := Aside0.mk (Kd.R_lower ho0 (below_size z44_))
                      replace HR232 := Aside0.mk (Kd.C_below z16_ hb)
                      replace HR244 := Aside0.mk (Kd.C_below z17_ hb)
                      replace HB := Aside0.mk (below_step z44_ hb)
                      (try clear hb)
                      (try clear hb2)
                      (try clear hk)
                      (try clear hi)
                      (try clear ho0)
                      refine hK.out _ _ trivial (fun hHeld => ?_)
                      clear hK K
                      refine norm_ (a' := ?_) ?_ ?_
                      rotate_left
                      · show Act.put _ (some 110) _ = _
                        simp only [Act.put, List.setIfInBounds_toArray, List.set_cons_zero, List.set_cons_succ, i64_w, i32_w]
                        rfl
                      refine one_ (i := 5) (N := some 114) bs6_ rfl rfl (one_of HT_.out (by kernel_rfl)) (by decide) (fun K hK => ?_)
                      refine goes_ Try.func15 (by kernel_rfl) rfl #[.slice Ao122 y241.length co122] (by rfl) rfl rfl z41_ ?_
                      with_reducible refine (regletlaw23_refs.calls kj47 _ _ y241 t245 _ ?side1 ?side2 A61.out).mono ?_
                      (case side1 => exact z6_)
                      (case side2 => exact HC244.out)
                      rintro e w125 ⟨v246, rfl, ho0, hb⟩
                      refine ⟨_, rfl, ?_⟩
                      replace HO_5 := Aside0.mk (Kd.R_below z68_ hb)
                      replace HO_6 := Aside0.mk (Kd.R_below z69_ hb)
                      replace HO_7 := Aside0.mk (Kd.R_below z70_ hb)
                      replace HO237 := Aside0.mk (Kd.R_below z64_ hb)
                      have HO247 := Aside0.mk (Kd.R_lower (Kd.R_new' ho0 (Kd.R_lt z65_)) (below_size z44_))
                      replace HO240 := Aside0.mk (Kd.R_elder' z65_ (Kd.R_base ho0) hb)
                      replace HR232 := Aside0.mk (Kd.C_below z16_ hb)
                      replace HR244 := Aside0.mk (Kd.C_below z17_ hb)
                      replace HB := Aside0.mk (below_step z44_ hb)
                      (try clear hb)
                      (try clear hb2)
                      (try clear hk)
                      (try clear hi)
                      (try clear ho0)
                      obtain ⟨Ao126, co126, eo126⟩ := Kd.R_slice HO240.out
                      (first | subst eo126 | (injection eo126 with f1_ f2_ f3_; have f4_ := f1_.symm; have f5_ := f3_.symm; clear f1_ f2_ f3_; subst f4_; subst f5_))
                      obtain ⟨Ao127, co127, eo127⟩ := Kd.R_slice HO247.out
                      (first | subst eo127 | (injection eo127 with f1_ f2_ f3_; have f4_ := f1_.symm; have f5_ := f3_.symm; clear f1_ f2_ f3_; subst f4_; subst f5_))
                      refine hK.out _ _ trivial (fun hHeld => ?_)
                      clear hK K
                      refine norm_ (a' := ?_) ?_ ?_
                      rotate_left
                      · show Act.put _ (some 114) _ = _
                        simp only [Act.put, List.setIfInBounds_toArray, List.set_cons_zero, List.set_cons_succ, i64_w, i32_w]
                        rfl
                      refine one_ (i := 6) (N := some 115) bs7_ rfl rfl (one_of HT_.out (by kernel_rfl)) (by decide) (fun K hK => ?_)
                      refine goes_ Try.func14 (by kernel_rfl) rfl #[.slice Ao126 t238.length co126, .slice Ao127 t245.length co127] (by rfl) rfl rfl z41_ ?_
                      with_reducible refine (regletref23_Same.calls kj47 _ _ t238 _ _ t245 true _ ?side1 ?side2 ?side3 ?side4 A62.out).mono ?_
                      (case side1 => exact z24_)
                      (case side2 => exact z87_)
                      (case side3 => exact z25_)
                      (case side4 => exact z88_)
                      rintro e w' ⟨rfl, ⟨nd, rfl⟩⟩
                      refine ⟨_, rfl, ?_⟩
                      refine hK.out _ _ trivial (fun hHeld => ?_)
                      clear hK K
                      refine norm_ (a' := ?_) ?_ ?_
                      rotate_left
                      · show Act.put _ (some 115) _ = _
                        simp only [Act.put, List.setIfInBounds_toArray, List.set_cons_zero, List.set_cons_succ, i64_w, i32_w]
                        rfl
                      refine p1_ 7 116 bs8_ ?_
                      refine p1_ 8 117 bs9_ ?_
                      refine p1_ 9 118 bs10_ ?_
                      refine p1_ 10 119 bs11_ ?_
                      refine p1_ 11 120 bs12_ ?_
                      refine p1_ 12 121 bs13_ ?_
                      refine p1_ 13 122 bs14_ ?_
                      refine p1_ 14 123 bs15_ ?_
                      refine p1_ 15 124 bs16_ ?_
                      refine p1_ 16 125 bs17_ ?_
                      refine p1_ 17 126 bs18_ ?_
                      refine p1_ 18 127 bs19_ ?_
                      refine p1_ 19 128 bs20_ ?_
                      refine p1_ 20 129 bs21_ ?_
                      refine p1_ 21 130 bs22_ ?_
                      refine p1_ 22 131 bs23_ ?_
                      refine p1_ 23 132 bs24_ ?_
                      refine pure_ (i := 24) (N := some 133) (v := undef) (a' := ?_) bs25_ rfl rfl (any_of HT_.out (by kernel_rfl)) (fun _ _ _ h => h) (Or.inr ⟨by rfl, rfl⟩) ?_ ?_
                      rotate_left
                      · simp only [Act.put, List.setIfInBounds_toArray, List.set_cons_zero, List.set_cons_succ, i64_w, i32_w]
                        rfl
                      refine pure_ (i := 25) (N := some 134) (v := undef) (a' := ?_) bs26_ rfl rfl (any_of HT_.out (by kernel_rfl)) (fun _ _ _ h => h) (Or.inr ⟨by rfl, rfl⟩) ?_ ?_
                      rotate_left
                      · simp only [Act.put, List.setIfInBounds_toArray, List.set_cons_zero, List.set_cons_succ, i64_w, i32_w]
                        rfl
                      refine p1_ 26 135 bs27_ ?_
                      refine p1_ 27 136 bs28_ ?_
                      refine p1_ 28 137 bs29_ ?_
                      refine p1_ 29 138 bs30_ ?_
                      refine p1_ 30 139 bs31_ ?_
                      refine pure_ (i := 31) (N := some 140) (v := undef) (a' := ?_) bs32_ rfl rfl (any_of HT_.out (by kernel_rfl)) (fun _ _ _ h => h) (Or.inr ⟨by rfl, rfl⟩) ?_ ?_
                      rotate_left
                      · simp only [Act.put, List.setIfInBounds_toArray, List.set_cons_zero, List.set_cons_succ, i64_w, i32_w]
                        rfl
                      refine pure_ (i := 32) (N := some 141) (v := undef) (a' := ?_) bs33_ rfl rfl (any_of HT_.out (by kernel_rfl)) (fun _ _ _ h => h) (Or.inr ⟨by rfl, rfl⟩) ?_ ?_
                      rotate_left
                      · simp only [Act.put, List.setIfInBounds_toArray, List.set_cons_zero, List.set_cons_succ, i64_w, i32_w]
                        rfl
                      refine pure_ (i := 33) (N := some 142) (v := undef) (a' := ?_) bs34_ rfl rfl (any_of HT_.out (by kernel_rfl)) (fun _ _ _ h => h) (Or.inr ⟨by rfl, rfl⟩) ?_ ?_
                      rotate_left
                      · simp only [Act.put, List.setIfInBounds_toArray, List.set_cons_zero, List.set_cons_succ, i64_w, i32_w]
                        rfl
                      refine pure_ (i := 34) (N := some 143) (v := undef) (a' := ?_) bs35_ rfl rfl (any_of HT_.out (by kernel_rfl)) (fun _ _ _ h => h) (Or.inr ⟨by rfl, rfl⟩) ?_ ?_
                      rotate_left
                      · simp only [Act.put, List.setIfInBounds_toArray, List.set_cons_zero, List.set_cons_succ, i64_w, i32_w]
                        rfl
                      refine pure_ (i := 35) (N := some 144) (v := undef) (a' := ?_) bs36_ rfl rfl (any_of HT_.out (by kernel_rfl)) (fun _ _ _ h => h) (Or.inr ⟨by rfl, rfl⟩) ?_ ?_
                      rotate_left
                      · simp only [Act.put, List.setIfInBounds_toArray, List.set_cons_zero, List.set_cons_succ, i64_w, i32_w]
                        rfl
                      refine pure_ (i := 36) (N := some 145) (v := undef) (a' := ?_) bs37_ rfl rfl (any_of HT_.out (by kernel_rfl)) (fun _ _ _ h => h) (Or.inr ⟨by rfl, rfl⟩) ?_ ?_
                      rotate_left
                      · simp only [Act.put, List.setIfInBounds_toArray, List.set_cons_zero, List.set_cons_succ, i64_w, i32_w]
                        rfl
                      refine pure_ (i := 37) (N := some 146) (v := undef) (a' := ?_) bs38_ rfl rfl (any_of HT_.out (by kernel_rfl)) (fun _ _ _ h => h) (Or.inr ⟨by rfl, rfl⟩) ?_ ?_
                      rotate_left
                      · simp only [Act.put, List.setIfInBounds_toArray, List.set_cons_zero, List.set_cons_succ, i64_w, i32_w]
                        rfl
                      refine p1_ 38 147 bs39_ ?_
                      refine p1_ 39 148 bs40_ ?_
                      refine p1_ 40 149 bs41_ ?_
                      refine p1_ 41 4 bs42_ ?_
                      refine done_ (done_of HT_.out (by kernel_rfl)) ?_
                      try go_wp2
                      go_ret
                      exact ⟨z72_, z44_⟩
                    rw [if_pos c103] at H
                    have c103b0 : decide (0 < x12_47) = true := decide_eq_true c103
                    clear c103
                    obtain ⟨ji104, hji104⟩ : ∃ j_ : Int, (wrap64 (x12_47 - 1)) = j_ := ⟨_, rfl⟩
                    replace H : (if 0 ≤ (ji104) then (if (ji104) < (x7_1.length : Int) then (some (t234 == (rd x7_1 (ji104)))) else (none)) else (none)) = some r := by first | (rw [hji104] at H; exact H) | (simp only [hji104] at H ⊢; exact H)
                    (try rw [hji104] at A57)
                    (try rw [hji104] at A58)
                    (try rw [hji104] at A61)
                    (try rw [hji104] at A62)
                    have hji104w : (IntKind.i64.wrap (x12_47 - 1)) = ji104 := (i64_w _).trans hji104
                    by_cases c105 : 0 ≤ (ji104)
                    rotate_left
                    · rw [if_neg c105] at H
                      exact absurd H (by simp)
                    rw [if_pos c105] at H
                    have c105b0 : decide (0 ≤ (ji104)) = true := decide_eq_true c105
                    clear c105
                    by_cases c106 : (ji104) < (x7_1.length : Int)
                    rotate_left
                    · rw [if_neg c106] at H
                      exact absurd H (by simp)
                    rw [if_pos c106] at H
                    have c106b0 : decide ((ji104) < (x7_1.length : Int)) = true := decide_eq_true c106
                    clear c106
                    obtain rfl := Option.some.inj H
                    have q107 : (a1 : Int) ≤ ((x6_1.length : Int) : Int) := of_decide_eq_true z80_
                    obtain ⟨i0107, hi0107, _, hsz107, _⟩ := info_parts info5
                    have hroom107 : x6_1.length ≤ co31 := (Kd.R_reads' HO_6.out).2.1
                    have hC107 : Kd.C (Kd.int .u8) _ Ao31 x6_1.length x6_1 := (Kd.R_reads' HO_6.out).2.2
                    have hcut107 := cut_to (P := Try.prog) 22 5 .i64 Try.underlying22 hi0107 Ao31 x6_1.length co31 a1 (of_decide_eq_true z80_) q107 hroom107
                    have hr107 := Kd.C_take (m := (a1 : Int).toNat) hC107 (by omega)
                    have hy107 : y229.length = (a1 : Int).toNat := z83_
                    rw [← Ny229.out] at hr107
                    rw [← hy107] at hcut107
                    have HR232 := Aside0.mk hr107
                    have HC232 := Aside0.mk (show y229.length ≤ co31 from by omega)
                    clear hr107 hC107 hroom107 hi0107 hsz107
                    have KY107 := Aside0.mk hy107
                    clear hy107
                    have KL107 := Aside0.mk (show (a1 : Int).toNat ≤ x6_1.length from by omega)
                    replace q107 := eq_true q107
                    try go_wp2_with (first | ((with_reducible refine gate_callee (f := 12) rfl ?_); refine goesL_ (some 105) rfl rfl Try.func12 (by kernel_rfl) rfl #[.slice Ao31 y229.length co31] rfl z41_ ?_; (with_reducible refine (journal_Parse.calls kj47 _ _ y229 t233 t234 t235 _ ?side1 ?side2 A57.out).mono ?_); (case side1 => exact z5_); (case side2 => exact HC232.out); rintro e w108 ⟨v236, rfl, ho0, hb⟩; refine ⟨_, rfl, ?_⟩; replace HO_6 := Aside0.mk (Kd.R_below z69_ hb); replace HO_7 := Aside0.mk (Kd.R_below z70_ hb); have HO237 := Aside0.mk (Kd.R_lower (Kd.R_new' ho0 (Kd.R_lt z68_)) (below_size z44_)); replace HO_5 := Aside0.mk (Kd.R_elder' z68_ (Kd.R_base ho0) hb); replace HR232 := Aside0.mk (Kd.C_below z16_ hb); replace HB := Aside0.mk (below_step z44_ hb); (try clear hb); (try clear hb2); (try clear hk); (try clear hi); (try clear ho0)))
                    replace HO_5 := Aside0.mk (Kd.R_drew HO_5.out)
                    replace HO_6 := Aside0.mk (Kd.R_drew HO_6.out)
                    replace HO_7 := Aside0.mk (Kd.R_drew HO_7.out)
                    replace HO237 := Aside0.mk (Kd.R_drew HO237.out)
                    replace HR232 := Aside0.mk (Kd.C_drew HR232.out)
                    replace HB := Aside0.mk (below_drew1 HB.out)
                    obtain ⟨Ao111, co111, eo111⟩ := Kd.R_slice HO_5.out
                    (first | subst eo111 | (injection eo111 with f1_ f2_ f3_; have f4_ := f1_.symm; have f5_ := f3_.symm; clear f1_ f2_ f3_; subst f4_; subst f5_))
                    have q110 : (x12_47 : Int) ≤ ((x5_1.length : Int) : Int) := of_decide_eq_true z80_
                    obtain ⟨i0110, hi0110, _, hsz110, _⟩ := info_parts info24
                    have hroom110 : x5_1.length ≤ co111 := (Kd.R_reads' HO_5.out).2.1
                    have hC110 : Kd.C k24 _ Ao111 x5_1.length x5_1 := (Kd.R_reads' HO_5.out).2.2
                    have hcut110 := cut_to (P := Try.prog) 35 24 .i64 Try.underlying35 hi0110 Ao111 x5_1.length co111 x12_47 (of_decide_eq_true z80_) q110 hroom110
                    have hr110 := Kd.C_take (m := (x12_47 : Int).toNat) hC110 (by omega)
                    have hy110 : y241.length = (x12_47 : Int).toNat := z84_
                    rw [← Ny241.out] at hr110
                    rw [← hy110] at hcut110
                    have HR244 := Aside0.mk hr110
                    have HC244 := Aside0.mk (show y241.length ≤ co111 from by omega)
                    clear hr110 hC110 hroom110 hi0110 hsz110
                    have KY110 := Aside0.mk hy110
                    clear hy110
                    have KL110 := Aside0.mk (show (x12_47 : Int).toNat ≤ x5_1.length from by omega)
                    replace q110 := eq_true q110
                    obtain ⟨Ao112, co112, eo112⟩ := Kd.R_slice HO237.out
                    (first | subst eo112 | (injection eo112 with f1_ f2_ f3_; have f4_ := f1_.symm; have f5_ := f3_.symm; clear f1_ f2_ f3_; subst f4_; subst f5_))
                    have p250 : 0 ≤ ((ji104) : Int) := of_decide_eq_true z80_
                    have q250 : (ji104) < (x7_1.length : Int) := of_decide_eq_true z80_
                    (first | (have tst_ := Kd.R_reads' HO_7.out; clear tst_) | (obtain ⟨As250, cs250, es250⟩ := Kd.R_slice HO_7.out; subst es250))
                    obtain ⟨ad250, e250, hx250_0⟩ := Kd.at_int (Kd.R_reads' HO_7.out).2.2 (ji104) p250 q250
                    cases e250
                    replace p250 := eq_true p250
                    replace q250 := eq_true q250
                    refine start_ (n := 42) (S := fun w' => w'.cell? (ad250.add ((ji104)).toNat) = some (.int .i64 (rd x7_1 (ji104)))) (ds := []) bs0_ (by kernel_rfl) rfl rfl (hx250_0) (fun hHeld => ?_); refine with_tabW regletlaw23_JournalBack.tab26 regletlaw23_JournalBack.bits26 (fun HT_ HW_ => ?_)
                    generalize w108.drew = w109 at HO_5 HO_6 HO_7 HO237 HR232 HB HR244 hx250_0 hHeld ⊢
                    refine p1_ 0 109 bs1_ ?_
                    refine p1_ 2 111 bs2_ ?_
                    refine p1_ 3 112 bs3_ ?_
                    refine p1_ 4 113 bs4_ ?_
                    refine one_ (i := 1) (N := some 110) bs5_ rfl rfl (one_of HT_.out (by kernel_rfl)) (by decide) (fun K hK => ?_)
                    refine goes_ Try.func15 (by kernel_rfl) rfl #[.slice Ao112 t233.length co112] (by rfl) rfl rfl z41_ ?_
                    with_reducible refine (regletlaw23_refs.calls kj47 _ _ t233 t238 _ ?side1 ?side2 A58.out).mono ?_
                    (case side1 => exact z23_)
                    (case side2 => exact z86_)
                    rintro e w113 ⟨v239, rfl, ho0, hb⟩
                    have HS0_ := (hb.cell (World.block_lt_of_cell? _ _ (hHeld))).trans (hHeld)
                    refine ⟨_, rfl, ?_⟩
                    replace HO_5 := Aside0.mk (Kd.R_below z68_ hb)
                    replace HO_6 := Aside0.mk (Kd.R_below z69_ hb)
                    replace HO_7 := Aside0.mk (Kd.R_below z70_ hb)
                    replace HO237 := Aside0.mk (Kd.R_below z64_ hb)
                    have HO240 := Aside0.mk (Kd.R_lower ho0 (below_size z44_))
                    replace HR232 := Aside0.mk (Kd.C_below z16_ hb)
                    replace HR244 := Aside0.mk (Kd.C_below z17_ hb)
                    replace HB := Aside0.mk (below_step z44_ hb)
                    (try clear hb)
                    (try clear hb2)
                    (try clear hk)
                    (try clear hi)
                    (try clear ho0)
                    refine hK.out _ _ (HS0_) (fun hHeld => ?_)
                    clear hK K
                    refine norm_ (a' := ?_) ?_ ?_
                    rotate_left
                    · show Act.put _ (some 110) _ = _
                      simp only [Act.put, List.setIfInBounds_toArray, List.set_cons_zero, List.set_cons_succ, i64_w, i32_w]
                      rfl
                    refine one_ (i := 5) (N := some 114) bs6_ rfl rfl (one_of HT_.out (by kernel_rfl)) (by decide) (fun K hK => ?_)
                    refine goes_ Try.func15 (by kernel_rfl) rfl #[.slice Ao111 y241.length co111] (by rfl) rfl rfl z41_ ?_
                    with_reducible refine (regletlaw23_refs.calls kj47 _ _ y241 t245 _ ?side1 ?side2 A61.out).mono ?_
                    (case side1 => exact z6_)
                    (case side2 => exact HC244.out)
                    rintro e w114 ⟨v246, rfl, ho0, hb⟩
                    have HS0_ := (hb.cell (World.block_lt_of_cell? _ _ (hHeld))).trans (hHeld)
                    refine ⟨_, rfl, ?_⟩
                    replace HO_5 := Aside0.mk (Kd.R_below z68_ hb)
                    replace HO_6 := Aside0.mk (Kd.R_below z69_ hb)
                    replace HO_7 := Aside0.mk (Kd.R_below z70_ hb)
                    replace HO237 := Aside0.mk (Kd.R_below z64_ hb)
                    have HO247 := Aside0.mk (Kd.R_lower (Kd.R_new' ho0 (Kd.R_lt z65_)) (below_size z44_))
                    replace HO240 := Aside0.mk (Kd.R_elder' z65_ (Kd.R_base ho0) hb)
                    replace HR232 := Aside0.mk (Kd.C_below z16_ hb)
                    replace HR244 := Aside0.mk (Kd.C_below z17_ hb)
                    replace HB := Aside0.mk (below_step z44_ hb)
                    (try clear hb)
                    (try clear hb2)
                    (try clear hk)
                    (try clear hi)
                    (try clear ho0)
                    obtain ⟨Ao115, co115, eo115⟩ := Kd.R_slice HO240.out
                    (first | subst eo115 | (injection eo115 with f1_ f2_ f3_; have f4_ := f1_.symm; have f5_ := f3_.symm; clear f1_ f2_ f3_; subst f4_; subst f5_))
                    obtain ⟨Ao116, co116, eo116⟩ := Kd.R_slice HO247.out
                    (first | subst eo116 | (injection eo116 with f1_ f2_ f3_; have f4_ := f1_.symm; have f5_ := f3_.symm; clear f1_ f2_ f3_; subst f4_; subst f5_))
                    refine hK.out _ _ (HS0_) (fun hHeld => ?_)
                    clear hK K
                    refine norm_ (a' := ?_) ?_ ?_
                    rotate_left
                    · show Act.put _ (some 114) _ = _
                      simp only [Act.put, List.setIfInBounds_toArray, List.set_cons_zero, List.set_cons_succ, i64_w, i32_w]
                      rfl
                    refine one_ (i := 6) (N := some 115) bs7_ rfl rfl (one_of HT_.out (by kernel_rfl)) (by decide) (fun K hK => ?_)
                    refine goes_ Try.func14 (by kernel_rfl) rfl #[.slice Ao115 t238.length co115, .slice Ao116 t245.length co116] (by rfl) rfl rfl z41_ ?_
                    with_reducible refine (regletref23_Same.calls kj47 _ _ t238 _ _ t245 true _ ?side1 ?side2 ?side3 ?side4 A62.out).mono ?_
                    (case side1 => exact z24_)
                    (case side2 => exact z87_)
                    (case side3 => exact z25_)
                    (case side4 => exact z88_)
                    rintro e w' ⟨rfl, ⟨nd, rfl⟩⟩
                    refine ⟨_, rfl, ?_⟩
                    obtain ⟨Ao117, co117, eo117⟩ := Kd.R_slice HO_7.out
                    (first | subst eo117 | (injection eo117 with f1_ f2_ f3_; have f4_ := f1_.symm; have f5_ := f3_.symm; clear f1_ f2_ f3_; subst f4_; subst f5_))
                    refine hK.out _ _ (hHeld) (fun hHeld => ?_)
                    clear hK K
                    refine norm_ (a' := ?_) ?_ ?_
                    rotate_left
                    · show Act.put _ (some 115) _ = _
                      simp only [Act.put, List.setIfInBounds_toArray, List.set_cons_zero, List.set_cons_succ, i64_w, i32_w]
                      rfl
                    refine p1_ 7 116 bs8_ ?_
                    refine p1_ 8 117 bs9_ ?_
                    refine p1_ 9 118 bs10_ ?_
                    refine p1_ 10 119 bs11_ ?_
                    refine p1_ 11 120 bs12_ ?_
                    refine p1_ 12 121 bs13_ ?_
                    refine p1_ 13 122 bs14_ ?_
                    refine p1_ 14 123 bs15_ ?_
                    refine p1_ 15 124 bs16_ ?_
                    refine p1_ 16 125 bs17_ ?_
                    refine p1_ 17 126 bs18_ ?_
                    refine p1_ 18 127 bs19_ ?_
                    refine p1_ 19 128 bs20_ ?_
                    refine p1_ 20 129 bs21_ ?_
                    refine p1_ 21 130 bs22_ ?_
                    refine p1_ 22 131 bs23_ ?_
                    refine p1_ 23 132 bs24_ ?_
                    refine pure_ (i := 24) (N := some 133) (v := undef) (a' := ?_) bs25_ rfl rfl (any_of HT_.out (by kernel_rfl)) (fun _ _ _ h => h) (Or.inr ⟨by rfl, rfl⟩) ?_ ?_
                    rotate_left
                    · simp only [Act.put, List.setIfInBounds_toArray, List.set_cons_zero, List.set_cons_succ, i64_w, i32_w]
                      rfl
                    refine pure_ (i := 25) (N := some 134) (v := undef) (a' := ?_) bs26_ rfl rfl (any_of HT_.out (by kernel_rfl)) (fun _ _ _ h => h) (Or.inr ⟨by rfl, rfl⟩) ?_ ?_
                    rotate_left
                    · simp only [Act.put, List.setIfInBounds_toArray, List.set_cons_zero, List.set_cons_succ, i64_w, i32_w]
                      rfl
                    refine p1_ 26 135 bs27_ ?_
                    refine p1_ 27 136 bs28_ ?_
                    refine p1_ 28 137 bs29_ ?_
                    refine p1_ 29 138 bs30_ ?_
                    refine p1_ 30 139 bs31_ ?_
                    refine p1_ 31 140 bs32_ ?_
                    refine p1_ 32 141 bs33_ ?_
                    refine p1_ 33 142 bs34_ ?_
                    refine p1_ 34 143 bs35_ ?_
                    refine p1_ 35 144 bs36_ ?_
                    refine take_ (i := 36) (N := some 145) (v := ?_) (a' := ?_) bs37_ rfl rfl (take_ofW HT_.out HW_.out (by kernel_rfl)) (fun _ _ _ h => h) (Or.inl ⟨by rfl, ?_⟩) hHeld ?_ ?_
                    rotate_left
                    · intro w' s0
                      go_simp
                      with_reducible rfl
                    rotate_left
                    · simp only [Act.put, List.setIfInBounds_toArray, List.set_cons_zero, List.set_cons_succ, i64_w, i32_w]
                      rfl
                    refine p1_ 37 146 bs38_ ?_
                    refine p1_ 38 147 bs39_ ?_
                    refine p1_ 39 148 bs40_ ?_
                    refine p1_ 40 149 bs41_ ?_
                    refine p1_ 41 4 bs42_ ?_
                    refine done_ (done_of HT_.out (by kernel_rfl)) ?_
                    try go_wp2
                    go_ret
                    exact ⟨by first | rfl | (simp [errW_none, errW_some] <;> rfl) | (simp only [← hji104]; first | rfl | (simp [errW_none, errW_some] <;> rfl)) | (simp [*, errW_none, errW_some] <;> rfl), z44_⟩
                  rw [if_pos c66] at H
                  have c66b0 : (x12_47 == 0) = true := beq_iff_eq.mpr c66
                  have c66b1 : (x12_47 != 0) = false := bne_eq_false_iff_eq.mpr c66
                  clear c66
                  by_cases c67 : t234 = 0
                  · rw [if_pos c67] at H
                    have c67b0 : (t234 == 0) = true := beq_iff_eq.mpr c67
                    have c67b1 : (t234 != 0) = false := bne_eq_false_iff_eq.mpr c67
                    clear c67
                    obtain rfl := Option.some.inj H
                    have q68 : (a1 : Int) ≤ ((x6_1.length : Int) : Int) := of_decide_eq_true z80_
                    obtain ⟨i068, hi068, _, hsz68, _⟩ := info_parts info5
                    have hroom68 : x6_1.length ≤ co31 := (Kd.R_reads' HO_6.out).2.1
                    have hC68 : Kd.C (Kd.int .u8) _ Ao31 x6_1.length x6_1 := (Kd.R_reads' HO_6.out).2.2
                    have hcut68 := cut_to (P := Try.prog) 22 5 .i64 Try.underlying22 hi068 Ao31 x6_1.length co31 a1 (of_decide_eq_true z80_) q68 hroom68
                    have hr68 := Kd.C_take (m := (a1 : Int).toNat) hC68 (by omega)
                    have hy68 : y229.length = (a1 : Int).toNat := z83_
                    rw [← Ny229.out] at hr68
                    rw [← hy68] at hcut68
                    have HR232 := Aside0.mk hr68
                    have HC232 := Aside0.mk (show y229.length ≤ co31 from by omega)
                    clear hr68 hC68 hroom68 hi068 hsz68
                    have KY68 := Aside0.mk hy68
                    clear hy68
                    have KL68 := Aside0.mk (show (a1 : Int).toNat ≤ x6_1.length from by omega)
                    replace q68 := eq_true q68
                    try go_wp2_with (first | ((with_reducible refine gate_callee (f := 12) rfl ?_); refine goesL_ (some 105) rfl rfl Try.func12 (by kernel_rfl) rfl #[.slice Ao31 y229.length co31] rfl z41_ ?_; (with_reducible refine (journal_Parse.calls kj47 _ _ y229 t233 t234 t235 _ ?side1 ?side2 A57.out).mono ?_); (case side1 => exact z5_); (case side2 => exact HC232.out); rintro e w69 ⟨v236, rfl, ho0, hb⟩; refine ⟨_, rfl, ?_⟩; replace HO_6 := Aside0.mk (Kd.R_below z69_ hb); replace HO_7 := Aside0.mk (Kd.R_below z70_ hb); have HO237 := Aside0.mk (Kd.R_lower (Kd.R_new' ho0 (Kd.R_lt z68_)) (below_size z44_)); replace HO_5 := Aside0.mk (Kd.R_elder' z68_ (Kd.R_base ho0) hb); replace HR232 := Aside0.mk (Kd.C_below z16_ hb); replace HB := Aside0.mk (below_step z44_ hb); (try clear hb); (try clear hb2); (try clear hk); (try clear hi); (try clear ho0)))
                    replace HO_5 := Aside0.mk (Kd.R_drew HO_5.out)
                    replace HO_6 := Aside0.mk (Kd.R_drew HO_6.out)
                    replace HO_7 := Aside0.mk (Kd.R_drew HO_7.out)
                    replace HO237 := Aside0.mk (Kd.R_drew HO237.out)
                    replace HR232 := Aside0.mk (Kd.C_drew HR232.out)
                    replace HB := Aside0.mk (below_drew1 HB.out)
                    obtain ⟨Ao72, co72, eo72⟩ := Kd.R_slice HO_5.out
                    (first | subst eo72 | (injection eo72 with f1_ f2_ f3_; have f4_ := f1_.symm; have f5_ := f3_.symm; clear f1_ f2_ f3_; subst f4_; subst f5_))
                    have q71 : (x12_47 : Int) ≤ ((x5_1.length : Int) : Int) := of_decide_eq_true z80_
                    obtain ⟨i071, hi071, _, hsz71, _⟩ := info_parts info24
                    have hroom71 : x5_1.length ≤ co72 := (Kd.R_reads' HO_5.out).2.1
                    have hC71 : Kd.C k24 _ Ao72 x5_1.length x5_1 := (Kd.R_reads' HO_5.out).2.2
                    have hcut71 := cut_to (P := Try.prog) 35 24 .i64 Try.underlying35 hi071 Ao72 x5_1.length co72 x12_47 (of_decide_eq_true z80_) q71 hroom71
                    have hr71 := Kd.C_take (m := (x12_47 : Int).toNat) hC71 (by omega)
                    have hy71 : y241.length = (x12_47 : Int).toNat := z84_
                    rw [← Ny241.out] at hr71
                    rw [← hy71] at hcut71
                    have HR244 := Aside0.mk hr71
                    have HC244 := Aside0.mk (show y241.length ≤ co72 from by omega)
                    clear hr71 hC71 hroom71 hi071 hsz71
                    have KY71 := Aside0.mk hy71
                    clear hy71
                    have KL71 := Aside0.mk (show (x12_47 : Int).toNat ≤ x5_1.length from by omega)
                    replace q71 := eq_true q71
                    obtain ⟨Ao73, co73, eo73⟩ := Kd.R_slice HO237.out
                    (first | subst eo73 | (injection eo73 with f1_ f2_ f3_; have f4_ := f1_.symm; have f5_ := f3_.symm; clear f1_ f2_ f3_; subst f4_; subst f5_))
                    refine start_ (n := 42) (S := fun w' => True) (ds := []) bs0_ (by kernel_rfl) rfl rfl trivial (fun hHeld => ?_); refine with_tabW regletlaw23_JournalBack.tab26 regletlaw23_JournalBack.bits26 (fun HT_ HW_ => ?_)
                    generalize w69.drew = w70 at HO_5 HO_6 HO_7 HO237 HR232 HB HR244 hHeld ⊢
                    refine p1_ 0 109 bs1_ ?_
                    refine p1_ 2 111 bs2_ ?_
                    refine p1_ 3 112 bs3_ ?_
                    refine p1_ 4 113 bs4_ ?_
                    refine one_ (i := 1) (N := some 110) bs5_ rfl rfl (one_of HT_.out (by kernel_rfl)) (by decide) (fun K hK => ?_)
                    refine goes_ Try.func15 (by kernel_rfl) rfl #[.slice Ao73 t233.length co73] (by rfl) rfl rfl z41_ ?_
                    with_reducible refine (regletlaw23_refs.calls kj47 _ _ t233 t238 _ ?side1 ?side2 A58.out).mono ?_
                    (case side1 => exact z23_)
                    (case side2 => exact z86_)
                    rintro e w74 ⟨v239, rfl, ho0, hb⟩
                    refine ⟨_, rfl, ?_⟩
                    replace HO_5 := Aside0.mk (Kd.R_below z68_ hb)
                    replace HO_6 := Aside0.mk (Kd.R_below z69_ hb)
                    replace HO_7 := Aside0.mk (Kd.R_below z70_ hb)
                    replace HO237 := Aside0.mk (Kd.R_below z64_ hb)
                    have HO240 := Aside0.mk (Kd.R_lower ho0 (below_size z44_))
                    replace HR232 := Aside0.mk (Kd.C_below z16_ hb)
                    replace HR244 := Aside0.mk (Kd.C_below z17_ hb)
                    replace HB := Aside0.mk (below_step z44_ hb)
                    (try clear hb)
                    (try clear hb2)
                    (try clear hk)
                    (try clear hi)
                    (try clear ho0)
                    refine hK.out _ _ trivial (fun hHeld => ?_)
                    clear hK K
                    refine norm_ (a' := ?_) ?_ ?_
                    rotate_left
                    · show Act.put _ (some 110) _ = _
                      simp only [Act.put, List.setIfInBounds_toArray, List.set_cons_zero, List.set_cons_succ, i64_w, i32_w]
                      rfl
                    refine one_ (i := 5) (N := some 114) bs6_ rfl rfl (one_of HT_.out (by kernel_rfl)) (by decide) (fun K hK => ?_)
                    refine goes_ Try.func15 (by kernel_rfl) rfl #[.slice Ao72 y241.length co72] (by rfl) rfl rfl z41_ ?_
                    with_reducible refine (regletlaw23_refs.calls kj47 _ _ y241 t245 _ ?side1 ?side2 A61.out).mono ?_
                    (case side1 => exact z6_)
                    (case side2 => exact HC244.out)
                    rintro e w75 ⟨v246, rfl, ho0, hb⟩
                    refine ⟨_, rfl, ?_⟩
                    replace HO_5 := Aside0.mk (Kd.R_below z68_ hb)
                    replace HO_6 := Aside0.mk (Kd.R_below z69_ hb)
                    replace HO_7 := Aside0.mk (Kd.R_below z70_ hb)
                    replace HO237 := Aside0.mk (Kd.R_below z64_ hb)
                    have HO247 := Aside0.mk (Kd.R_lower (Kd.R_new' ho0 (Kd.R_lt z65_)) (below_size z44_))
                    replace HO240 := Aside0.mk (Kd.R_elder' z65_ (Kd.R_base ho0) hb)
                    replace HR232 := Aside0.mk (Kd.C_below z16_ hb)
                    replace HR244 := Aside0.mk (Kd.C_below z17_ hb)
                    replace HB := Aside0.mk (below_step z44_ hb)
                    (try clear hb)
                    (try clear hb2)
                    (try clear hk)
                    (try clear hi)
                    (try clear ho0)
                    obtain ⟨Ao76, co76, eo76⟩ := Kd.R_slice HO240.out
                    (first | subst eo76 | (injection eo76 with f1_ f2_ f3_; have f4_ := f1_.symm; have f5_ := f3_.symm; clear f1_ f2_ f3_; subst f4_; subst f5_))
                    obtain ⟨Ao77, co77, eo77⟩ := Kd.R_slice HO247.out
                    (first | subst eo77 | (injection eo77 with f1_ f2_ f3_; have f4_ := f1_.symm; have f5_ := f3_.symm; clear f1_ f2_ f3_; subst f4_; subst f5_))
                    refine hK.out _ _ trivial (fun hHeld => ?_)
                    clear hK K
                    refine norm_ (a' := ?_) ?_ ?_
                    rotate_left
                    · show Act.put _ (some 114) _ = _
                      simp only [Act.put, List.setIfInBounds_toArray, List.set_cons_zero, List.set_cons_succ, i64_w, i32_w]
                      rfl
                    refine one_ (i := 6) (N := some 115) bs7_ rfl rfl (one_of HT_.out (by kernel_rfl)) (by decide) (fun K hK => ?_)
                    refine goes_ Try.func14 (by kernel_rfl) rfl #[.slice Ao76 t238.length co76, .slice Ao77 t245.length co77] (by rfl) rfl rfl z41_ ?_
                    with_reducible refine (regletref23_Same.calls kj47 _ _ t238 _ _ t245 true _ ?side1 ?side2 ?side3 ?side4 A62.out).mono ?_
                    (case side1 => exact z24_)
                    (case side2 => exact z87_)
                    (case side3 => exact z25_)
                    (case side4 => exact z88_)
                    rintro e w' ⟨rfl, ⟨nd, rfl⟩⟩
                    refine ⟨_, rfl, ?_⟩
                    refine hK.out _ _ trivial (fun hHeld => ?_)
                    clear hK K
                    refine norm_ (a' := ?_) ?_ ?_
                    rotate_left
                    · show Act.put _ (some 115) _ = _
                      simp only [Act.put, List.setIfInBounds_toArray, List.set_cons_zero, List.set_cons_succ, i64_w, i32_w]
                      rfl
                    refine p1_ 7 116 bs8_ ?_
                    refine p1_ 8 117 bs9_ ?_
                    refine p1_ 9 118 bs10_ ?_
                    refine p1_ 10 119 bs11_ ?_
                    refine p1_ 11 120 bs12_ ?_
                    refine p1_ 12 121 bs13_ ?_
                    refine p1_ 13 122 bs14_ ?_
                    refine p1_ 14 123 bs15_ ?_
                    refine p1_ 15 124 bs16_ ?_
                    refine p1_ 16 125 bs17_ ?_
                    refine p1_ 17 126 bs18_ ?_
                    refine p1_ 18 127 bs19_ ?_
                    refine p1_ 19 128 bs20_ ?_
                    refine p1_ 20 129 bs21_ ?_
                    refine p1_ 21 130 bs22_ ?_
                    refine p1_ 22 131 bs23_ ?_
                    refine p1_ 23 132 bs24_ ?_
                    refine p1_ 24 133 bs25_ ?_
                    refine p1_ 25 134 bs26_ ?_
                    refine p1_ 26 135 bs27_ ?_
                    refine p1_ 27 136 bs28_ ?_
                    refine pure_ (i := 28) (N := some 137) (v := undef) (a' := ?_) bs29_ rfl rfl (any_of HT_.out (by kernel_rfl)) (fun _ _ _ h => h) (Or.inr ⟨by rfl, rfl⟩) ?_ ?_
                    rotate_left
                    · simp only [Act.put, List.setIfInBounds_toArray, List.set_cons_zero, List.set_cons_succ, i64_w, i32_w]
                      rfl
                    refine pure_ (i := 29) (N := some 138) (v := undef) (a' := ?_) bs30_ rfl rfl (any_of HT_.out (by kernel_rfl)) (fun _ _ _ h => h) (Or.inr ⟨by rfl, rfl⟩) ?_ ?_
                    rotate_left
                    · simp only [Act.put, List.setIfInBounds_toArray, List.set_cons_zero, List.set_cons_succ, i64_w, i32_w]
                      rfl
                    refine pure_ (i := 30) (N := some 139) (v := undef) (a' := ?_) bs31_ rfl rfl (any_of HT_.out (by kernel_rfl)) (fun _ _ _ h => h) (Or.inr ⟨by rfl, rfl⟩) ?_ ?_
                    rotate_left
                    · simp only [Act.put, List.setIfInBounds_toArray, List.set_cons_zero, List.set_cons_succ, i64_w, i32_w]
                      rfl
                    refine pure_ (i := 31) (N := some 140) (v := undef) (a' := ?_) bs32_ rfl rfl (any_of HT_.out (by kernel_rfl)) (fun _ _ _ h => h) (Or.inr ⟨by rfl, rfl⟩) ?_ ?_
                    rotate_left
                    · simp only [Act.put, List.setIfInBounds_toArray, List.set_cons_zero, List.set_cons_succ, i64_w, i32_w]
                      rfl
                    refine pure_ (i := 32) (N := some 141) (v := undef) (a' := ?_) bs33_ rfl rfl (any_of HT_.out (by kernel_rfl)) (fun _ _ _ h => h) (Or.inr ⟨by rfl, rfl⟩) ?_ ?_
                    rotate_left
                    · simp only [Act.put, List.setIfInBounds_toArray, List.set_cons_zero, List.set_cons_succ, i64_w, i32_w]
                      rfl
                    refine pure_ (i := 33) (N := some 142) (v := undef) (a' := ?_) bs34_ rfl rfl (any_of HT_.out (by kernel_rfl)) (fun _ _ _ h => h) (Or.inr ⟨by rfl, rfl⟩) ?_ ?_
                    rotate_left
                    · simp only [Act.put, List.setIfInBounds_toArray, List.set_cons_zero, List.set_cons_succ, i64_w, i32_w]
                      rfl
                    refine pure_ (i := 34) (N := some 143) (v := undef) (a' := ?_) bs35_ rfl rfl (any_of HT_.out (by kernel_rfl)) (fun _ _ _ h => h) (Or.inr ⟨by rfl, rfl⟩) ?_ ?_
                    rotate_left
                    · simp only [Act.put, List.setIfInBounds_toArray, List.set_cons_zero, List.set_cons_succ, i64_w, i32_w]
                      rfl
                    refine pure_ (i := 35) (N := some 144) (v := undef) (a' := ?_) bs36_ rfl rfl (any_of HT_.out (by kernel_rfl)) (fun _ _ _ h => h) (Or.inr ⟨by rfl, rfl⟩) ?_ ?_
                    rotate_left
                    · simp only [Act.put, List.setIfInBounds_toArray, List.set_cons_zero, List.set_cons_succ, i64_w, i32_w]
                      rfl
                    refine pure_ (i := 36) (N := some 145) (v := undef) (a' := ?_) bs37_ rfl rfl (any_of HT_.out (by kernel_rfl)) (fun _ _ _ h => h) (Or.inr ⟨by rfl, rfl⟩) ?_ ?_
                    rotate_left
                    · simp only [Act.put, List.setIfInBounds_toArray, List.set_cons_zero, List.set_cons_succ, i64_w, i32_w]
                      rfl
                    refine pure_ (i := 37) (N := some 146) (v := undef) (a' := ?_) bs38_ rfl rfl (any_of HT_.out (by kernel_rfl)) (fun _ _ _ h => h) (Or.inr ⟨by rfl, rfl⟩) ?_ ?_
                    rotate_left
                    · simp only [Act.put, List.setIfInBounds_toArray, List.set_cons_zero, List.set_cons_succ, i64_w, i32_w]
                      rfl
                    refine pure_ (i := 38) (N := some 147) (v := undef) (a' := ?_) bs39_ rfl rfl (any_of HT_.out (by kernel_rfl)) (fun _ _ _ h => h) (Or.inr ⟨by rfl, rfl⟩) ?_ ?_
                    rotate_left
                    · simp only [Act.put, List.setIfInBounds_toArray, List.set_cons_zero, List.set_cons_succ, i64_w, i32_w]
                      rfl
                    refine p1_ 39 148 bs40_ ?_
                    refine p1_ 40 149 bs41_ ?_
                    refine p1_ 41 4 bs42_ ?_
                    refine done_ (done_of HT_.out (by kernel_rfl)) ?_
                    try go_wp2
                    go_ret
                    exact ⟨z72_, z44_⟩
                  rw [if_neg c67] at H
                  have c67b0 : (t234 == 0) = false := beq_eq_false_iff_ne.mpr c67
                  have c67b1 : (t234 != 0) = true := bne_iff_ne.mpr c67
                  by_cases c78 : x12_47 > 0
                  rotate_left
                  · rw [if_neg c78] at H
                    have c78b0 : decide (0 < x12_47) = false := decide_eq_false c78
                    clear c78
                    obtain rfl := Option.some.inj H
                    have q93 : (a1 : Int) ≤ ((x6_1.length : Int) : Int) := of_decide_eq_true z80_
                    obtain ⟨i093, hi093, _, hsz93, _⟩ := info_parts info5
                    have hroom93 : x6_1.length ≤ co31 := (Kd.R_reads' HO_6.out).2.1
                    have hC93 : Kd.C (Kd.int .u8) _ Ao31 x6_1.length x6_1 := (Kd.R_reads' HO_6.out).2.2
                    have hcut93 := cut_to (P := Try.prog) 22 5 .i64 Try.underlying22 hi093 Ao31 x6_1.length co31 a1 (of_decide_eq_true z80_) q93 hroom93
                    have hr93 := Kd.C_take (m := (a1 : Int).toNat) hC93 (by omega)
                    have hy93 : y229.length = (a1 : Int).toNat := z83_
                    rw [← Ny229.out] at hr93
                    rw [← hy93] at hcut93
                    have HR232 := Aside0.mk hr93
                    have HC232 := Aside0.mk (show y229.length ≤ co31 from by omega)
                    clear hr93 hC93 hroom93 hi093 hsz93
                    have KY93 := Aside0.mk hy93
                    clear hy93
                    have KL93 := Aside0.mk (show (a1 : Int).toNat ≤ x6_1.length from by omega)
                    replace q93 := eq_true q93
                    try go_wp2_with (first | ((with_reducible refine gate_callee (f := 12) rfl ?_); refine goesL_ (some 105) rfl rfl Try.func12 (by kernel_rfl) rfl #[.slice Ao31 y229.length co31] rfl z41_ ?_; (with_reducible refine (journal_Parse.calls kj47 _ _ y229 t233 t234 t235 _ ?side1 ?side2 A57.out).mono ?_); (case side1 => exact z5_); (case side2 => exact HC232.out); rintro e w94 ⟨v236, rfl, ho0, hb⟩; refine ⟨_, rfl, ?_⟩; replace HO_6 := Aside0.mk (Kd.R_below z69_ hb); replace HO_7 := Aside0.mk (Kd.R_below z70_ hb); have HO237 := Aside0.mk (Kd.R_lower (Kd.R_new' ho0 (Kd.R_lt z68_)) (below_size z44_)); replace HO_5 := Aside0.mk (Kd.R_elder' z68_ (Kd.R_base ho0) hb); replace HR232 := Aside0.mk (Kd.C_below z16_ hb); replace HB := Aside0.mk (below_step z44_ hb); (try clear hb); (try clear hb2); (try clear hk); (try clear hi); (try clear ho0)))
                    replace HO_5 := Aside0.mk (Kd.R_drew HO_5.out)
                    replace HO_6 := Aside0.mk (Kd.R_drew HO_6.out)
                    replace HO_7 := Aside0.mk (Kd.R_drew HO_7.out)
                    replace HO237 := Aside0.mk (Kd.R_drew HO237.out)
                    replace HR232 := Aside0.mk (Kd.C_drew HR232.out)
                    replace HB := Aside0.mk (below_drew1 HB.out)
                    obtain ⟨Ao97, co97, eo97⟩ := Kd.R_slice HO_5.out
                    (first | subst eo97 | (injection eo97 with f1_ f2_ f3_; have f4_ := f1_.symm; have f5_ := f3_.symm; clear f1_ f2_ f3_; subst f4_; subst f5_))
                    have q96 : (x12_47 : Int) ≤ ((x5_1.length : Int) : Int) := of_decide_eq_true z80_
                    obtain ⟨i096, hi096, _, hsz96, _⟩ := info_parts info24
                    have hroom96 : x5_1.length ≤ co97 := (Kd.R_reads' HO_5.out).2.1
                    have hC96 : Kd.C k24 _ Ao97 x5_1.length x5_1 := (Kd.R_reads' HO_5.out).2.2
                    have hcut96 := cut_to (P := Try.prog) 35 24 .i64 Try.underlying35 hi096 Ao97 x5_1.length co97 x12_47 (of_decide_eq_true z80_) q96 hroom96
                    have hr96 := Kd.C_take (m := (x12_47 : Int).toNat) hC96 (by omega)
                    have hy96 : y241.length = (x12_47 : Int).toNat := z84_
                    rw [← Ny241.out] at hr96
                    rw [← hy96] at hcut96
                    have HR244 := Aside0.mk hr96
                    have HC244 := Aside0.mk (show y241.length ≤ co97 from by omega)
                    clear hr96 hC96 hroom96 hi096 hsz96
                    have KY96 := Aside0.mk hy96
                    clear hy96
                    have KL96 := Aside0.mk (show (x12_47 : Int).toNat ≤ x5_1.length from by omega)
                    replace q96 := eq_true q96
                    obtain ⟨Ao98, co98, eo98⟩ := Kd.R_slice HO237.out
                    (first | subst eo98 | (injection eo98 with f1_ f2_ f3_; have f4_ := f1_.symm; have f5_ := f3_.symm; clear f1_ f2_ f3_; subst f4_; subst f5_))
                    refine start_ (n := 42) (S := fun w' => True) (ds := []) bs0_ (by kernel_rfl) rfl rfl trivial (fun hHeld => ?_); refine with_tabW regletlaw23_JournalBack.tab26 regletlaw23_JournalBack.bits26 (fun HT_ HW_ => ?_)
                    generalize w94.drew = w95 at HO_5 HO_6 HO_7 HO237 HR232 HB HR244 hHeld ⊢
                    refine p1_ 0 109 bs1_ ?_
                    refine p1_ 2 111 bs2_ ?_
                    refine p1_ 3 112 bs3_ ?_
                    refine p1_ 4 113 bs4_ ?_
                    refine one_ (i := 1) (N := some 110) bs5_ rfl rfl (one_of HT_.out (by kernel_rfl)) (by decide) (fun K hK => ?_)
                    refine goes_ Try.func15 (by kernel_rfl) rfl #[.slice Ao98 t233.length co98] (by rfl) rfl rfl z41_ ?_
                    with_reducible refine (regletlaw23_refs.calls kj47 _ _ t233 t238 _ ?side1 ?side2 A58.out).mono ?_
                    (case side1 => exact z23_)
                    (case side2 => exact z86_)
                    rintro e w99 ⟨v239, rfl, ho0, hb⟩
                    refine ⟨_, rfl, ?_⟩
                    replace HO_5 := Aside0.mk (Kd.R_below z68_ hb)
                    replace HO_6 := Aside0.mk (Kd.R_below z69_ hb)
                    replace HO_7 := Aside0.mk (Kd.R_below z70_ hb)
                    replace HO237 := Aside0.mk (Kd.R_below z64_ hb)
                    have HO240 := Aside0.mk (Kd.R_lower ho0 (below_size z44_))
                    replace HR232 := Aside0.mk (Kd.C_below z16_ hb)
                    replace HR244 := Aside0.mk (Kd.C_below z17_ hb)
                    replace HB := Aside0.mk (below_step z44_ hb)
                    (try clear hb)
                    (try clear hb2)
                    (try clear hk)
                    (try clear hi)
                    (try clear ho0)
                    refine hK.out _ _ trivial (fun hHeld => ?_)
                    clear hK K
                    refine norm_ (a' := ?_) ?_ ?_
                    rotate_left
                    · show Act.put _ (some 110) _ = _
                      simp only [Act.put, List.setIfInBounds_toArray, List.set_cons_zero, List.set_cons_succ, i64_w, i32_w]
                      rfl
                    refine one_ (i := 5) (N := some 114) bs6_ rfl rfl (one_of HT_.out (by kernel_rfl)) (by decide) (fun K hK => ?_)
                    refine goes_ Try.func15 (by kernel_rfl) rfl #[.slice Ao97 y241.length co97] (by rfl) rfl rfl z41_ ?_
                    with_reducible refine (regletlaw23_refs.calls kj47 _ _ y241 t245 _ ?side1 ?side2 A61.out).mono ?_
                    (case side1 => exact z6_)
                    (case side2 => exact HC244.out)
                    rintro e w100 ⟨v246, rfl, ho0, hb⟩
                    refine ⟨_, rfl, ?_⟩
                    replace HO_5 := Aside0.mk (Kd.R_below z68_ hb)
                    replace HO_6 := Aside0.mk (Kd.R_below z69_ hb)
                    replace HO_7 := Aside0.mk (Kd.R_below z70_ hb)
                    replace HO237 := Aside0.mk (Kd.R_below z64_ hb)
                    have HO247 := Aside0.mk (Kd.R_lower (Kd.R_new' ho0 (Kd.R_lt z65_)) (below_size z44_))
                    replace HO240 := Aside0.mk (Kd.R_elder' z65_ (Kd.R_base ho0) hb)
                    replace HR232 := Aside0.mk (Kd.C_below z16_ hb)
                    replace HR244 := Aside0.mk (Kd.C_below z17_ hb)
                    replace HB := Aside0.mk (below_step z44_ hb)
                    (try clear hb)
                    (try clear hb2)
                    (try clear hk)
                    (try clear hi)
                    (try clear ho0)
                    obtain ⟨Ao101, co101, eo101⟩ := Kd.R_slice HO240.out
                    (first | subst eo101 | (injection eo101 with f1_ f2_ f3_; have f4_ := f1_.symm; have f5_ := f3_.symm; clear f1_ f2_ f3_; subst f4_; subst f5_))
                    obtain ⟨Ao102, co102, eo102⟩ := Kd.R_slice HO247.out
                    (first | subst eo102 | (injection eo102 with f1_ f2_ f3_; have f4_ := f1_.symm; have f5_ := f3_.symm; clear f1_ f2_ f3_; subst f4_; subst f5_))
                    refine hK.out _ _ trivial (fun hHeld => ?_)
                    clear hK K
                    refine norm_ (a' := ?_) ?_ ?_
                    rotate_left
                    · show Act.put _ (some 114) _ = _
                      simp only [Act.put, List.setIfInBounds_toArray, List.set_cons_zero, List.set_cons_succ, i64_w, i32_w]
                      rfl
                    refine one_ (i := 6) (N := some 115) bs7_ rfl rfl (one_of HT_.out (by kernel_rfl)) (by decide) (fun K hK => ?_)
                    refine goes_ Try.func14 (by kernel_rfl) rfl #[.slice Ao101 t238.length co101, .slice Ao102 t245.length co102] (by rfl) rfl rfl z41_ ?_
                    with_reducible refine (regletref23_Same.calls kj47 _ _ t238 _ _ t245 true _ ?side1 ?side2 ?side3 ?side4 A62.out).mono ?_
                    (case side1 => exact z24_)
                    (case side2 => exact z87_)
                    (case side3 => exact z25_)
                    (case side4 => exact z88_)
                    rintro e w' ⟨rfl, ⟨nd, rfl⟩⟩
                    refine ⟨_, rfl, ?_⟩
                    refine hK.out _ _ trivial (fun hHeld => ?_)
                    clear hK K
                    refine norm_ (a' := ?_) ?_ ?_
                    rotate_left
                    · show Act.put _ (some 115) _ = _
                      simp only [Act.put, List.setIfInBounds_toArray, List.set_cons_zero, List.set_cons_succ, i64_w, i32_w]
                      rfl
                    refine p1_ 7 116 bs8_ ?_
                    refine p1_ 8 117 bs9_ ?_
                    refine p1_ 9 118 bs10_ ?_
                    refine p1_ 10 119 bs11_ ?_
                    refine p1_ 11 120 bs12_ ?_
                    refine p1_ 12 121 bs13_ ?_
                    refine p1_ 13 122 bs14_ ?_
                    refine p1_ 14 123 bs15_ ?_
                    refine p1_ 15 124 bs16_ ?_
                    refine p1_ 16 125 bs17_ ?_
                    refine p1_ 17 126 bs18_ ?_
                    refine p1_ 18 127 bs19_ ?_
                    refine p1_ 19 128 bs20_ ?_
                    refine p1_ 20 129 bs21_ ?_
                    refine p1_ 21 130 bs22_ ?_
                    refine p1_ 22 131 bs23_ ?_
                    refine p1_ 23 132 bs24_ ?_
                    refine p1_ 24 133 bs25_ ?_
                    refine p1_ 25 134 bs26_ ?_
                    refine p1_ 26 135 bs27_ ?_
                    refine p1_ 27 136 bs28_ ?_
                    refine p1_ 28 137 bs29_ ?_
                    refine p1_ 29 138 bs30_ ?_
                    refine p1_ 30 139 bs31_ ?_
                    refine pure_ (i := 31) (N := some 140) (v := undef) (a' := ?_) bs32_ rfl rfl (any_of HT_.out (by kernel_rfl)) (fun _ _ _ h => h) (Or.inr ⟨by rfl, rfl⟩) ?_ ?_
                    rotate_left
                    · simp only [Act.put, List.setIfInBounds_toArray, List.set_cons_zero, List.set_cons_succ, i64_w, i32_w]
                      rfl
                    refine pure_ (i := 32) (N := some 141) (v := undef) (a' := ?_) bs33_ rfl rfl (any_of HT_.out (by kernel_rfl)) (fun _ _ _ h => h) (Or.inr ⟨by rfl, rfl⟩) ?_ ?_
                    rotate_left
                    · simp only [Act.put, List.setIfInBounds_toArray, List.set_cons_zero, List.set_cons_succ, i64_w, i32_w]
                      rfl
                    refine pure_ (i := 33) (N := some 142) (v := undef) (a' := ?_) bs34_ rfl rfl (any_of HT_.out (by kernel_rfl)) (fun _ _ _ h => h) (Or.inr ⟨by rfl, rfl⟩) ?_ ?_
                    rotate_left
                    · simp only [Act.put, List.setIfInBounds_toArray, List.set_cons_zero, List.set_cons_succ, i64_w, i32_w]
                      rfl
                    refine pure_ (i := 34) (N := some 143) (v := undef) (a' := ?_) bs35_ rfl rfl (any_of HT_.out (by kernel_rfl)) (fun _ _ _ h => h) (Or.inr ⟨by rfl, rfl⟩) ?_ ?_
                    rotate_left
                    · simp only [Act.put, List.setIfInBounds_toArray, List.set_cons_zero, List.set_cons_succ, i64_w, i32_w]
                      rfl
                    refine pure_ (i := 35) (N := some 144) (v := undef) (a' := ?_) bs36_ rfl rfl (any_of HT_.out (by kernel_rfl)) (fun _ _ _ h => h) (Or.inr ⟨by rfl, rfl⟩) ?_ ?_
                    rotate_left
                    · simp only [Act.put, List.setIfInBounds_toArray, List.set_cons_zero, List.set_cons_succ, i64_w, i32_w]
                      rfl
                    refine pure_ (i := 36) (N := some 145) (v := undef) (a' := ?_) bs37_ rfl rfl (any_of HT_.out (by kernel_rfl)) (fun _ _ _ h => h) (Or.inr ⟨by rfl, rfl⟩) ?_ ?_
                    rotate_left
                    · simp only [Act.put, List.setIfInBounds_toArray, List.set_cons_zero, List.set_cons_succ, i64_w, i32_w]
                      rfl
                    refine pure_ (i := 37) (N := some 146) (v := undef) (a' := ?_) bs38_ rfl rfl (any_of HT_.out (by kernel_rfl)) (fun _ _ _ h => h) (Or.inr ⟨by rfl, rfl⟩) ?_ ?_
                    rotate_left
                    · simp only [Act.put, List.setIfInBounds_toArray, List.set_cons_zero, List.set_cons_succ, i64_w, i32_w]
                      rfl
                    refine p1_ 38 147 bs39_ ?_
                    refine p1_ 39 148 bs40_ ?_
                    refine p1_ 40 149 bs41_ ?_
                    refine p1_ 41 4 bs42_ ?_
                    refine done_ (done_of HT_.out (by kernel_rfl)) ?_
                    try go_wp2
                    go_ret
                    exact ⟨z72_, z44_⟩
                  rw [if_pos c78] at H
                  have c78b0 : decide (0 < x12_47) = true := decide_eq_true c78
                  clear c78
                  obtain ⟨ji79, hji79⟩ : ∃ j_ : Int, (wrap64 (x12_47 - 1)) = j_ := ⟨_, rfl⟩
                  replace H : (if 0 ≤ (ji79) then (if (ji79) < (x7_1.length : Int) then (some (t234 == (rd x7_1 (ji79)))) else (none)) else (none)) = some r := by first | (rw [hji79] at H; exact H) | (simp only [hji79] at H ⊢; exact H)
                  (try rw [hji79] at A57)
                  (try rw [hji79] at A58)
                  (try rw [hji79] at A61)
                  (try rw [hji79] at A62)
                  have hji79w : (IntKind.i64.wrap (x12_47 - 1)) = ji79 := (i64_w _).trans hji79
                  by_cases c80 : 0 ≤ (ji79)
                  rotate_left
                  · rw [if_neg c80] at H
                    exact absurd H (by simp)
                  rw [if_pos c80] at H
                  have c80b0 : decide (0 ≤ (ji79)) = true := decide_eq_true c80
                  clear c80
                  by_cases c81 : (ji79) < (x7_1.length : Int)
                  rotate_left
                  · rw [if_neg c81] at H
                    exact absurd H (by simp)
                  rw [if_pos c81] at H
                  have c81b0 : decide ((ji79) < (x7_1.length : Int)) = true := decide_eq_true c81
                  clear c81
                  obtain rfl := Option.some.inj H
                  have q82 : (a1 : Int) ≤ ((x6_1.length : Int) : Int) := of_decide_eq_true z80_
                  obtain ⟨i082, hi082, _, hsz82, _⟩ := info_parts info5
                  have hroom82 : x6_1.length ≤ co31 := (Kd.R_reads' HO_6.out).2.1
                  have hC82 : Kd.C (Kd.int .u8) _ Ao31 x6_1.length x6_1 := (Kd.R_reads' HO_6.out).2.2
                  have hcut82 := cut_to (P := Try.prog) 22 5 .i64 Try.underlying22 hi082 Ao31 x6_1.length co31 a1 (of_decide_eq_true z80_) q82 hroom82
                  have hr82 := Kd.C_take (m := (a1 : Int).toNat) hC82 (by omega)
                  have hy82 : y229.length = (a1 : Int).toNat := z83_
                  rw [← Ny229.out] at hr82
                  rw [← hy82] at hcut82
                  have HR232 := Aside0.mk hr82
                  have HC232 := Aside0.mk (show y229.length ≤ co31 from by omega)
                  clear hr82 hC82 hroom82 hi082 hsz82
                  have KY82 := Aside0.mk hy82
                  clear hy82
                  have KL82 := Aside0.mk (show (a1 : Int).toNat ≤ x6_1.length from by omega)
                  replace q82 := eq_true q82
                  try go_wp2_with (first | ((with_reducible refine gate_callee (f := 12) rfl ?_); refine goesL_ (some 105) rfl rfl Try.func12 (by kernel_rfl) rfl #[.slice Ao31 y229.length co31] rfl z41_ ?_; (with_reducible refine (journal_Parse.calls kj47 _ _ y229 t233 t234 t235 _ ?side1 ?side2 A57.out).mono ?_); (case side1 => exact z5_); (case side2 => exact HC232.out); rintro e w83 ⟨v236, rfl, ho0, hb⟩; refine ⟨_, rfl, ?_⟩; replace HO_6 := Aside0.mk (Kd.R_below z69_ hb); replace HO_7 := Aside0.mk (Kd.R_below z70_ hb); have HO237 := Aside0.mk (Kd.R_lower (Kd.R_new' ho0 (Kd.R_lt z68_)) (below_size z44_)); replace HO_5 := Aside0.mk (Kd.R_elder' z68_ (Kd.R_base ho0) hb); replace HR232 := Aside0.mk (Kd.C_below z16_ hb); replace HB := Aside0.mk (below_step z44_ hb); (try clear hb); (try clear hb2); (try clear hk); (try clear hi); (try clear ho0)))
                  replace HO_5 := Aside0.mk (Kd.R_drew HO_5.out)
                  replace HO_6 := Aside0.mk (Kd.R_drew HO_6.out)
                  replace HO_7 := Aside0.mk (Kd.R_drew HO_7.out)
                  replace HO237 := Aside0.mk (Kd.R_drew HO237.out)
                  replace HR232 := Aside0.mk (Kd.C_drew HR232.out)
                  replace HB := Aside0.mk (below_drew1 HB.out)
                  obtain ⟨Ao86, co86, eo86⟩ := Kd.R_slice HO_5.out
                  (first | subst eo86 | (injection eo86 with f1_ f2_ f3_; have f4_ := f1_.symm; have f5_ := f3_.symm; clear f1_ f2_ f3_; subst f4_; subst f5_))
                  have q85 : (x12_47 : Int) ≤ ((x5_1.length : Int) : Int) := of_decide_eq_true z80_
                  obtain ⟨i085, hi085, _, hsz85, _⟩ := info_parts info24
                  have hroom85 : x5_1.length ≤ co86 := (Kd.R_reads' HO_5.out).2.1
                  have hC85 : Kd.C k24 _ Ao86 x5_1.length x5_1 := (Kd.R_reads' HO_5.out).2.2
                  have hcut85 := cut_to (P := Try.prog) 35 24 .i64 Try.underlying35 hi085 Ao86 x5_1.length co86 x12_47 (of_decide_eq_true z80_) q85 hroom85
                  have hr85 := Kd.C_take (m := (x12_47 : Int).toNat) hC85 (by omega)
                  have hy85 : y241.length = (x12_47 : Int).toNat := z84_
                  rw [← Ny241.out] at hr85
                  rw [← hy85] at hcut85
                  have HR244 := Aside0.mk hr85
                  have HC244 := Aside0.mk (show y241.length ≤ co86 from by omega)
                  clear hr85 hC85 hroom85 hi085 hsz85
                  have KY85 := Aside0.mk hy85
                  clear hy85
                  have KL85 := Aside0.mk (show (x12_47 : Int).toNat ≤ x5_1.length from by omega)
                  replace q85 := eq_true q85
                  obtain ⟨Ao87, co87, eo87⟩ := Kd.R_slice HO237.out
                  (first | subst eo87 | (injection eo87 with f1_ f2_ f3_; have f4_ := f1_.symm; have f5_ := f3_.symm; clear f1_ f2_ f3_; subst f4_; subst f5_))
                  have p249 : 0 ≤ ((ji79) : Int) := of_decide_eq_true z80_
                  have q249 : (ji79) < (x7_1.length : Int) := of_decide_eq_true z80_
                  (first | (have tst_ := Kd.R_reads' HO_7.out; clear tst_) | (obtain ⟨As249, cs249, es249⟩ := Kd.R_slice HO_7.out; subst es249))
                  obtain ⟨ad249, e249, hx249_0⟩ := Kd.at_int (Kd.R_reads' HO_7.out).2.2 (ji79) p249 q249
                  cases e249
                  replace p249 := eq_true p249
                  replace q249 := eq_true q249
                  refine start_ (n := 42) (S := fun w' => w'.cell? (ad249.add ((ji79)).toNat) = some (.int .i64 (rd x7_1 (ji79)))) (ds := []) bs0_ (by kernel_rfl) rfl rfl (hx249_0) (fun hHeld => ?_); refine with_tabW regletlaw23_JournalBack.tab26 regletlaw23_JournalBack.bits26 (fun HT_ HW_ => ?_)
                  generalize w83.drew = w84 at HO_5 HO_6 HO_7 HO237 HR232 HB HR244 hx249_0 hHeld ⊢
                  refine p1_ 0 109 bs1_ ?_
                  refine p1_ 2 111 bs2_ ?_
                  refine p1_ 3 112 bs3_ ?_
                  refine p1_ 4 113 bs4_ ?_
                  refine one_ (i := 1) (N := some 110) bs5_ rfl rfl (one_of HT_.out (by kernel_rfl)) (by decide) (fun K hK => ?_)
                  refine goes_ Try.func15 (by kernel_rfl) rfl #[.slice Ao87 t233.length co87] (by rfl) rfl rfl z41_ ?_
                  with_reducible refine (regletlaw23_refs.calls kj47 _ _ t233 t238 _ ?side1 ?side2 A58.out).mono ?_
                  (case side1 => exact z23_)
                  (case side2 => exact z86_)
                  rintro e w88 ⟨v239, rfl, ho0, hb⟩
                  have HS0_ := (hb.cell (World.block_lt_of_cell? _ _ (hHeld))).trans (hHeld)
                  refine ⟨_, rfl, ?_⟩
                  replace HO_5 := Aside0.mk (Kd.R_below z68_ hb)
                  replace HO_6 := Aside0.mk (Kd.R_below z69_ hb)
                  replace HO_7 := Aside0.mk (Kd.R_below z70_ hb)
                  replace HO237 := Aside0.mk (Kd.R_below z64_ hb)
                  have HO240 := Aside0.mk (Kd.R_lower ho0 (below_size z44_))
                  replace HR232 := Aside0.mk (Kd.C_below z16_ hb)
                  replace HR244 := Aside0.mk (Kd.C_below z17_ hb)
                  replace HB := Aside0.mk (below_step z44_ hb)
                  (try clear hb)
                  (try clear hb2)
                  (try clear hk)
                  (try clear hi)
                  (try clear ho0)
                  refine hK.out _ _ (HS0_) (fun hHeld => ?_)
                  clear hK K
                  refine norm_ (a' := ?_) ?_ ?_
                  rotate_left
                  · show Act.put _ (some 110) _ = _
                    simp only [Act.put, List.setIfInBounds_toArray, List.set_cons_zero, List.set_cons_succ, i64_w, i32_w]
                    rfl
                  refine one_ (i := 5) (N := some 114) bs6_ rfl rfl (one_of HT_.out (by kernel_rfl)) (by decide) (fun K hK => ?_)
                  refine goes_ Try.func15 (by kernel_rfl) rfl #[.slice Ao86 y241.length co86] (by rfl) rfl rfl z41_ ?_
                  with_reducible refine (regletlaw23_refs.calls kj47 _ _ y241 t245 _ ?side1 ?side2 A61.out).mono ?_
                  (case side1 => exact z6_)
                  (case side2 => exact HC244.out)
                  rintro e w89 ⟨v246, rfl, ho0, hb⟩
                  have HS0_ := (hb.cell (World.block_lt_of_cell? _ _ (hHeld))).trans (hHeld)
                  refine ⟨_, rfl, ?_⟩
                  replace HO_5 := Aside0.mk (Kd.R_below z68_ hb)
                  replace HO_6 := Aside0.mk (Kd.R_below z69_ hb)
                  replace HO_7 := Aside0.mk (Kd.R_below z70_ hb)
                  replace HO237 := Aside0.mk (Kd.R_below z64_ hb)
                  have HO247 := Aside0.mk (Kd.R_lower (Kd.R_new' ho0 (Kd.R_lt z65_)) (below_size z44_))
                  replace HO240 := Aside0.mk (Kd.R_elder' z65_ (Kd.R_base ho0) hb)
                  replace HR232 := Aside0.mk (Kd.C_below z16_ hb)
                  replace HR244 := Aside0.mk (Kd.C_below z17_ hb)
                  replace HB := Aside0.mk (below_step z44_ hb)
                  (try clear hb)
                  (try clear hb2)
                  (try clear hk)
                  (try clear hi)
                  (try clear ho0)
                  obtain ⟨Ao90, co90, eo90⟩ := Kd.R_slice HO240.out
                  (first | subst eo90 | (injection eo90 with f1_ f2_ f3_; have f4_ := f1_.symm; have f5_ := f3_.symm; clear f1_ f2_ f3_; subst f4_; subst f5_))
                  obtain ⟨Ao91, co91, eo91⟩ := Kd.R_slice HO247.out
                  (first | subst eo91 | (injection eo91 with f1_ f2_ f3_; have f4_ := f1_.symm; have f5_ := f3_.symm; clear f1_ f2_ f3_; subst f4_; subst f5_))
                  refine hK.out _ _ (HS0_) (fun hHeld => ?_)
                  clear hK K
                  refine norm_ (a' := ?_) ?_ ?_
                  rotate_left
                  · show Act.put _ (some 114) _ = _
                    simp only [Act.put, List.setIfInBounds_toArray, List.set_cons_zero, List.set_cons_succ, i64_w, i32_w]
                    rfl
                  refine one_ (i := 6) (N := some 115) bs7_ rfl rfl (one_of HT_.out (by kernel_rfl)) (by decide) (fun K hK => ?_)
                  refine goes_ Try.func14 (by kernel_rfl) rfl #[.slice Ao90 t238.length co90, .slice Ao91 t245.length co91] (by rfl) rfl rfl z41_ ?_
                  with_reducible refine (regletref23_Same.calls kj47 _ _ t238 _ _ t245 true _ ?side1 ?side2 ?side3 ?side4 A62.out).mono ?_
                  (case side1 => exact z24_)
                  (case side2 => exact z87_)
                  (case side3 => exact z25_)
                  (case side4 => exact z88_)
                  rintro e w' ⟨rfl, ⟨nd, rfl⟩⟩
                  refine ⟨_, rfl, ?_⟩
                  obtain ⟨Ao92, co92, eo92⟩ := Kd.R_slice HO_7.out
                  (first | subst eo92 | (injection eo92 with f1_ f2_ f3_; have f4_ := f1_.symm; have f5_ := f3_.symm; clear f1_ f2_ f3_; subst f4_; subst f5_))
                  refine hK.out _ _ (hHeld) (fun hHeld => ?_)
                  clear hK K
                  refine norm_ (a' := ?_) ?_ ?_
                  rotate_left
                  · show Act.put _ (some 115) _ = _
                    simp only [Act.put, List.setIfInBounds_toArray, List.set_cons_zero, List.set_cons_succ, i64_w, i32_w]
                    rfl
                  refine p1_ 7 116 bs8_ ?_
                  refine p1_ 8 117 bs9_ ?_
                  refine p1_ 9 118 bs10_ ?_
                  refine p1_ 10 119 bs11_ ?_
                  refine p1_ 11 120 bs12_ ?_
                  refine p1_ 12 121 bs13_ ?_
                  refine p1_ 13 122 bs14_ ?_
                  refine p1_ 14 123 bs15_ ?_
                  refine p1_ 15 124 bs16_ ?_
                  refine p1_ 16 125 bs17_ ?_
                  refine p1_ 17 126 bs18_ ?_
                  refine p1_ 18 127 bs19_ ?_
                  refine p1_ 19 128 bs20_ ?_
                  refine p1_ 20 129 bs21_ ?_
                  refine p1_ 21 130 bs22_ ?_
                  refine p1_ 22 131 bs23_ ?_
                  refine p1_ 23 132 bs24_ ?_
                  refine p1_ 24 133 bs25_ ?_
                  refine p1_ 25 134 bs26_ ?_
                  refine p1_ 26 135 bs27_ ?_
                  refine p1_ 27 136 bs28_ ?_
                  refine p1_ 28 137 bs29_ ?_
                  refine p1_ 29 138 bs30_ ?_
                  refine p1_ 30 139 bs31_ ?_
                  refine p1_ 31 140 bs32_ ?_
                  refine p1_ 32 141 bs33_ ?_
                  refine p1_ 33 142 bs34_ ?_
                  refine p1_ 34 143 bs35_ ?_
                  refine p1_ 35 144 bs36_ ?_
                  refine take_ (i := 36) (N := some 145) (v := ?_) (a' := ?_) bs37_ rfl rfl (take_ofW HT_.out HW_.out (by kernel_rfl)) (fun _ _ _ h => h) (Or.inl ⟨by rfl, ?_⟩) hHeld ?_ ?_
                  rotate_left
                  · intro w' s0
                    go_simp
                    with_reducible rfl
                  rotate_left
                  · simp only [Act.put, List.setIfInBounds_toArray, List.set_cons_zero, List.set_cons_succ, i64_w, i32_w]
                    rfl
                  refine p1_ 37 146 bs38_ ?_
                  refine p1_ 38 147 bs39_ ?_
                  refine p1_ 39 148 bs40_ ?_
                  refine p1_ 40 149 bs41_ ?_
                  refine p1_ 41 4 bs42_ ?_
                  refine done_ (done_of HT_.out (by kernel_rfl)) ?_
                  try go_wp2
                  go_ret
                  exact ⟨by first | rfl | (simp [errW_none, errW_some] <;> rfl) | (simp only [← hji79]; first | rfl | (simp [errW_none, errW_some] <;> rfl)) | (simp [*, errW_none, errW_some] <;> rfl), z44_⟩
end Go.Proofs.Ytkgpnegebpkhlaa.PJournalBack
