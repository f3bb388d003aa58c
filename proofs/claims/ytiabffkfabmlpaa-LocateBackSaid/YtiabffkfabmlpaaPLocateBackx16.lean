-- WRITTEN BY wip/xprint.py of this repo, over the kit's print; functions the print does not take are by hand
import Derived.Test.YtiabffkfabmlpaaPLocateBackx0
import Derived.Test.YtiabffkfabmlpaaPLocateBackx6
import Derived.Test.YtiabffkfabmlpaaPLocateBackx11
import Derived.Test.YtiabffkfabmlpaaPLocateBackx13
import Derived.Test.YtiabffkfabmlpaaPLocateBackx14
import Derived.Test.YtiabffkfabmlpaaPLocateBackx15
namespace Go.Proofs.Ytiabffkfabmlpaa.PLocateBack
open Go.RowKit Go.Proofs.YtiabffkfabmlpaaW.PrintWords Go.Proofs.YtiabffkfabmlpaaW.PrintLast Go.Proofs.YtiabffkfabmlpaaW.PrintMore
attribute [local go_sem] max2_int min2_int max_two min_two max_three min_three max_four min_four   -- for this text's walks alone
set_option linter.unusedVariables false
set_option linter.unusedSimpArgs false
/-! ### regletlaw15_LocateBack: function 8 -/
mutual
def regletlaw15_LocateBack.j0 : Nat → List (S24) → List (S98) → Bool → Option (Bool)
  | 0, _, _, _ => none
  | k + 1, x1, x5, x32 => if x32 = true then (some true) else (regletlaw15_LocateBack.l0 k x1 x5 0)
def regletlaw15_LocateBack.l0 : Nat → List (S24) → List (S98) → Int → Option (Bool)
  | 0, _, _, _ => none
  | k + 1, x1, x5, x6 => if x6 < (x1.length : Int) then (regletlaw15_LocateBack.l1 k x1 x5 x6 0) else (some true)
def regletlaw15_LocateBack.l1 : Nat → List (S24) → List (S98) → Int → Int → Option (Bool)
  | 0, _, _, _, _ => none
  | k + 1, x1, x5, x6, x7 => if 0 ≤ x6 then (if x6 < (x1.length : Int) then (if x7 < (((rd_T24 x1 x6).f0).length : Int) then (if 0 ≤ x7 then ((locate_Offset.f k x1 x6 x7).bind fun bt346 => (if bt346.2 = true then (regletlaw15_LocateBack.j3 k x1 x5 x6 x7 bt346.1 bt346.2 (((rd_T28 ((rd_T24 x1 x6).f0) x7).f2) != 0) ((rd_T28 ((rd_T24 x1 x6).f0) x7).f0) ((rd_T28 ((rd_T24 x1 x6).f0) x7).f1) ((rd_T28 ((rd_T24 x1 x6).f0) x7).f2) ((rd_T28 ((rd_T24 x1 x6).f0) x7).f3) ((rd_T28 ((rd_T24 x1 x6).f0) x7).f4) ((rd_T28 ((rd_T24 x1 x6).f0) x7).f5) ((rd_T28 ((rd_T24 x1 x6).f0) x7).f6) ((rd_T28 ((rd_T24 x1 x6).f0) x7).f7) ((rd_T28 ((rd_T24 x1 x6).f0) x7).f8)) else (regletlaw15_LocateBack.j3 k x1 x5 x6 x7 bt346.1 bt346.2 true ((rd_T28 ((rd_T24 x1 x6).f0) x7).f0) ((rd_T28 ((rd_T24 x1 x6).f0) x7).f1) ((rd_T28 ((rd_T24 x1 x6).f0) x7).f2) ((rd_T28 ((rd_T24 x1 x6).f0) x7).f3) ((rd_T28 ((rd_T24 x1 x6).f0) x7).f4) ((rd_T28 ((rd_T24 x1 x6).f0) x7).f5) ((rd_T28 ((rd_T24 x1 x6).f0) x7).f6) ((rd_T28 ((rd_T24 x1 x6).f0) x7).f7) ((rd_T28 ((rd_T24 x1 x6).f0) x7).f8)))) else (none)) else (regletlaw15_LocateBack.l0 k x1 x5 (wrap64 (x6 + 1)))) else (none)) else (none)
def regletlaw15_LocateBack.j3 : Nat → List (S24) → List (S98) → Int → Int → Int → Bool → Bool → ByteArray → List (S75) → Int → Int → Int → Bool → Int → Bool → Bool → Option (Bool)
  | 0, _, _, _, _, _, _, _, _, _, _, _, _, _, _, _, _ => none
  | k + 1, x1, x5, x6, x7, x9, x10, x70, x346000, x346001, x346002, x346003, x346004, x346005, x346006, x346007, x346008 => if x70 = true then (some x10) else (regletlaw15_LocateBack.l2 k x1 x5 x6 x7 x9 0 x346000 x346001 x346002 x346003 x346004 x346005 x346006 x346007 x346008)
def regletlaw15_LocateBack.l2 : Nat → List (S24) → List (S98) → Int → Int → Int → Int → ByteArray → List (S75) → Int → Int → Int → Bool → Int → Bool → Bool → Option (Bool)
  | 0, _, _, _, _, _, _, _, _, _, _, _, _, _, _, _ => none
  | k + 1, x1, x5, x6, x7, x9, x11, x346000, x346001, x346002, x346003, x346004, x346005, x346006, x346007, x346008 => if x11 < (x346000.size : Int) then ((locate_Line.f k x1 (wrap64 (x9 + x11))).bind fun bt348 => (if bt348.2.2.2 = true then (if bt348.1 = x6 then (if bt348.2.1 = x7 then (if bt348.2.2.1 = x11 then (regletlaw15_LocateBack.l2 k x1 x5 x6 x7 x9 (wrap64 (x11 + 1)) x346000 x346001 x346002 x346003 x346004 x346005 x346006 x346007 x346008) else (some false)) else (some false)) else (some false)) else (some false))) else ((locate_Stops.f k x5 x346000 x346001 x346002 x346003 x346004 x346005 x346006 x346007 x346008).bind fun t352 => (regletlaw15_LocateBack.l3 k x1 x5 x6 x7 x9 t352 0))
def regletlaw15_LocateBack.l3 : Nat → List (S24) → List (S98) → Int → Int → Int → List (S43) → Int → Option (Bool)
  | 0, _, _, _, _, _, _, _ => none
  | k + 1, x1, x5, x6, x7, x9, x16, x17 => if (wrap64 (x17 + 1)) < (x16.length : Int) then (if 0 ≤ x17 then (if x17 < (x16.length : Int) then ((locate_Spot.f k x5 x1 (wrap64 (x9 + ((rd_T43 x16 x17).f0)))).bind fun bt356 => (if bt356.2.2.2 = 0 then (if bt356.1 = x6 then (if bt356.2.1 = x7 then (if bt356.2.2.1 = ((rd_T43 x16 x17).f1) then (if x17 = 0 then (regletlaw15_LocateBack.j6 k x1 x5 x6 x7 x9 x16 x17 (bt356.2.2.1 != 0) bt356.1 bt356.2.1 bt356.2.2.1) else (regletlaw15_LocateBack.j6 k x1 x5 x6 x7 x9 x16 x17 false bt356.1 bt356.2.1 bt356.2.2.1)) else (regletlaw15_LocateBack.j6 k x1 x5 x6 x7 x9 x16 x17 true bt356.1 bt356.2.1 bt356.2.2.1)) else (regletlaw15_LocateBack.j6 k x1 x5 x6 x7 x9 x16 x17 true bt356.1 bt356.2.1 bt356.2.2.1)) else (regletlaw15_LocateBack.j6 k x1 x5 x6 x7 x9 x16 x17 true bt356.1 bt356.2.1 bt356.2.2.1)) else (regletlaw15_LocateBack.j6 k x1 x5 x6 x7 x9 x16 x17 true bt356.1 bt356.2.1 bt356.2.2.1))) else (none)) else (none)) else (regletlaw15_LocateBack.l1 k x1 x5 x6 (wrap64 (x7 + 1)))
def regletlaw15_LocateBack.j6 : Nat → List (S24) → List (S98) → Int → Int → Int → List (S43) → Int → Bool → Int → Int → Int → Option (Bool)
  | 0, _, _, _, _, _, _, _, _, _, _, _ => none
  | k + 1, x1, x5, x6, x7, x9, x16, x17, x161, x361000, x361001, x361002 => if x161 = true then (some false) else ((locate_Hit.f k x5 x1 x361000 x361001 x361002).bind fun bt362 => (if bt362.2 = 0 then (if 0 ≤ (wrap64 (x17 + 1)) then (if (wrap64 (x17 + 1)) < (x16.length : Int) then (if 0 ≤ x17 then (if x17 < (x16.length : Int) then (if ((rd_T43 x16 (wrap64 (x17 + 1))).f1) > ((rd_T43 x16 x17).f1) then (if bt362.1 = (wrap64 (x9 + ((rd_T43 x16 x17).f0))) then (regletlaw15_LocateBack.l3 k x1 x5 x6 x7 x9 x16 (wrap64 (x17 + 1))) else (some false)) else (regletlaw15_LocateBack.l3 k x1 x5 x6 x7 x9 x16 (wrap64 (x17 + 1)))) else (none)) else (none)) else (none)) else (none)) else (some false)))
end
def regletlaw15_LocateBack.f (k : Nat) (l0 : List (S73)) (l1 : List (S24)) : Option (Bool) := (regletlaw15_awake.f k).bind fun t337 => (if t337 = true then ((regletlaw15_table.f k l0).bind fun t338 => (if (t338.length : Int) = 0 then (regletlaw15_LocateBack.j0 k l1 t338 true) else ((regletlaw15_few.f k l1).bind fun t341 => (regletlaw15_LocateBack.j0 k l1 t338 (!t341))))) else (some false))
theorem regletlaw15_LocateBack.mono_l : ∀ k, (∀ y0 y1 y2, LeO (regletlaw15_LocateBack.j0 k y0 y1 y2) (regletlaw15_LocateBack.j0 (k + 1) y0 y1 y2)) ∧ (∀ y0 y1 y2, LeO (regletlaw15_LocateBack.l0 k y0 y1 y2) (regletlaw15_LocateBack.l0 (k + 1) y0 y1 y2)) ∧ (∀ y0 y1 y2 y3, LeO (regletlaw15_LocateBack.l1 k y0 y1 y2 y3) (regletlaw15_LocateBack.l1 (k + 1) y0 y1 y2 y3)) ∧ (∀ y0 y1 y2 y3 y4 y5 y6 y7 y8 y9 y10 y11 y12 y13 y14 y15, LeO (regletlaw15_LocateBack.j3 k y0 y1 y2 y3 y4 y5 y6 y7 y8 y9 y10 y11 y12 y13 y14 y15) (regletlaw15_LocateBack.j3 (k + 1) y0 y1 y2 y3 y4 y5 y6 y7 y8 y9 y10 y11 y12 y13 y14 y15)) ∧ (∀ y0 y1 y2 y3 y4 y5 y6 y7 y8 y9 y10 y11 y12 y13 y14, LeO (regletlaw15_LocateBack.l2 k y0 y1 y2 y3 y4 y5 y6 y7 y8 y9 y10 y11 y12 y13 y14) (regletlaw15_LocateBack.l2 (k + 1) y0 y1 y2 y3 y4 y5 y6 y7 y8 y9 y10 y11 y12 y13 y14)) ∧ (∀ y0 y1 y2 y3 y4 y5 y6, LeO (regletlaw15_LocateBack.l3 k y0 y1 y2 y3 y4 y5 y6) (regletlaw15_LocateBack.l3 (k + 1) y0 y1 y2 y3 y4 y5 y6)) ∧ (∀ y0 y1 y2 y3 y4 y5 y6 y7 y8 y9 y10, LeO (regletlaw15_LocateBack.j6 k y0 y1 y2 y3 y4 y5 y6 y7 y8 y9 y10) (regletlaw15_LocateBack.j6 (k + 1) y0 y1 y2 y3 y4 y5 y6 y7 y8 y9 y10))
  | 0 => ⟨fun _ _ _ r h => by simp [regletlaw15_LocateBack.j0] at h, fun _ _ _ r h => by simp [regletlaw15_LocateBack.l0] at h, fun _ _ _ _ r h => by simp [regletlaw15_LocateBack.l1] at h, fun _ _ _ _ _ _ _ _ _ _ _ _ _ _ _ _ r h => by simp [regletlaw15_LocateBack.j3] at h, fun _ _ _ _ _ _ _ _ _ _ _ _ _ _ _ r h => by simp [regletlaw15_LocateBack.l2] at h, fun _ _ _ _ _ _ _ r h => by simp [regletlaw15_LocateBack.l3] at h, fun _ _ _ _ _ _ _ _ _ _ _ r h => by simp [regletlaw15_LocateBack.j6] at h⟩
  | k + 1 => by
    obtain ⟨ih0, ih1, ih2, ih3, ih4, ih5, ih6⟩ := regletlaw15_LocateBack.mono_l k
    refine ⟨?_, ?_, ?_, ?_, ?_, ?_, ?_⟩
    · intro y0 y1 y2
      unfold regletlaw15_LocateBack.j0
      repeat' first | (with_reducible first | exact ih0 _ _ _ | exact ih1 _ _ _ | exact ih2 _ _ _ _ | exact ih3 _ _ _ _ _ _ _ _ _ _ _ _ _ _ _ _ | exact ih4 _ _ _ _ _ _ _ _ _ _ _ _ _ _ _ | exact ih5 _ _ _ _ _ _ _ | exact ih6 _ _ _ _ _ _ _ _ _ _ _ | exact locate_Hit.mono _ _ _ _ _ _ | exact locate_Line.mono _ _ _ | exact locate_Offset.mono _ _ _ _ | exact locate_Spot.mono _ _ _ _ | exact locate_Stops.mono _ _ _ _ _ _ _ _ _ _ _ | exact regletlaw15_awake.mono _ | exact regletlaw15_few.mono _ _ | exact regletlaw15_table.mono _ _ | exact LeO.refl _ | exact LeO.none _ | refine LeO.ite ?_ ?_ | refine LeO.bind ?_ (fun _ => ?_)) | exact ih0 _ _ _ | exact ih1 _ _ _ | exact ih2 _ _ _ _ | exact ih3 _ _ _ _ _ _ _ _ _ _ _ _ _ _ _ _ | exact ih4 _ _ _ _ _ _ _ _ _ _ _ _ _ _ _ | exact ih5 _ _ _ _ _ _ _ | exact ih6 _ _ _ _ _ _ _ _ _ _ _ | exact locate_Hit.mono _ _ _ _ _ _ | exact locate_Line.mono _ _ _ | exact locate_Offset.mono _ _ _ _ | exact locate_Spot.mono _ _ _ _ | exact locate_Stops.mono _ _ _ _ _ _ _ _ _ _ _ | exact regletlaw15_awake.mono _ | exact regletlaw15_few.mono _ _ | exact regletlaw15_table.mono _ _ | exact LeO.none _ | refine LeO.ite ?_ ?_ | refine LeO.bind ?_ (fun _ => ?_)
    · intro y0 y1 y2
      unfold regletlaw15_LocateBack.l0
      repeat' first | (with_reducible first | exact ih0 _ _ _ | exact ih1 _ _ _ | exact ih2 _ _ _ _ | exact ih3 _ _ _ _ _ _ _ _ _ _ _ _ _ _ _ _ | exact ih4 _ _ _ _ _ _ _ _ _ _ _ _ _ _ _ | exact ih5 _ _ _ _ _ _ _ | exact ih6 _ _ _ _ _ _ _ _ _ _ _ | exact locate_Hit.mono _ _ _ _ _ _ | exact locate_Line.mono _ _ _ | exact locate_Offset.mono _ _ _ _ | exact locate_Spot.mono _ _ _ _ | exact locate_Stops.mono _ _ _ _ _ _ _ _ _ _ _ | exact regletlaw15_awake.mono _ | exact regletlaw15_few.mono _ _ | exact regletlaw15_table.mono _ _ | exact LeO.refl _ | exact LeO.none _ | refine LeO.ite ?_ ?_ | refine LeO.bind ?_ (fun _ => ?_)) | exact ih0 _ _ _ | exact ih1 _ _ _ | exact ih2 _ _ _ _ | exact ih3 _ _ _ _ _ _ _ _ _ _ _ _ _ _ _ _ | exact ih4 _ _ _ _ _ _ _ _ _ _ _ _ _ _ _ | exact ih5 _ _ _ _ _ _ _ | exact ih6 _ _ _ _ _ _ _ _ _ _ _ | exact locate_Hit.mono _ _ _ _ _ _ | exact locate_Line.mono _ _ _ | exact locate_Offset.mono _ _ _ _ | exact locate_Spot.mono _ _ _ _ | exact locate_Stops.mono _ _ _ _ _ _ _ _ _ _ _ | exact regletlaw15_awake.mono _ | exact regletlaw15_few.mono _ _ | exact regletlaw15_table.mono _ _ | exact LeO.none _ | refine LeO.ite ?_ ?_ | refine LeO.bind ?_ (fun _ => ?_)
    · intro y0 y1 y2 y3
      unfold regletlaw15_LocateBack.l1
      repeat' first | (with_reducible first | exact ih0 _ _ _ | exact ih1 _ _ _ | exact ih2 _ _ _ _ | exact ih3 _ _ _ _ _ _ _ _ _ _ _ _ _ _ _ _ | exact ih4 _ _ _ _ _ _ _ _ _ _ _ _ _ _ _ | exact ih5 _ _ _ _ _ _ _ | exact ih6 _ _ _ _ _ _ _ _ _ _ _ | exact locate_Hit.mono _ _ _ _ _ _ | exact locate_Line.mono _ _ _ | exact locate_Offset.mono _ _ _ _ | exact locate_Spot.mono _ _ _ _ | exact locate_Stops.mono _ _ _ _ _ _ _ _ _ _ _ | exact regletlaw15_awake.mono _ | exact regletlaw15_few.mono _ _ | exact regletlaw15_table.mono _ _ | exact LeO.refl _ | exact LeO.none _ | refine LeO.ite ?_ ?_ | refine LeO.bind ?_ (fun _ => ?_)) | exact ih0 _ _ _ | exact ih1 _ _ _ | exact ih2 _ _ _ _ | exact ih3 _ _ _ _ _ _ _ _ _ _ _ _ _ _ _ _ | exact ih4 _ _ _ _ _ _ _ _ _ _ _ _ _ _ _ | exact ih5 _ _ _ _ _ _ _ | exact ih6 _ _ _ _ _ _ _ _ _ _ _ | exact locate_Hit.mono _ _ _ _ _ _ | exact locate_Line.mono _ _ _ | exact locate_Offset.mono _ _ _ _ | exact locate_Spot.mono _ _ _ _ | exact locate_Stops.mono _ _ _ _ _ _ _ _ _ _ _ | exact regletlaw15_awake.mono _ | exact regletlaw15_few.mono _ _ | exact regletlaw15_table.mono _ _ | exact LeO.none _ | refine LeO.ite ?_ ?_ | refine LeO.bind ?_ (fun _ => ?_)
    · intro y0 y1 y2 y3 y4 y5 y6 y7 y8 y9 y10 y11 y12 y13 y14 y15
      unfold regletlaw15_LocateBack.j3
      repeat' first | (with_reducible first | exact ih0 _ _ _ | exact ih1 _ _ _ | exact ih2 _ _ _ _ | exact ih3 _ _ _ _ _ _ _ _ _ _ _ _ _ _ _ _ | exact ih4 _ _ _ _ _ _ _ _ _ _ _ _ _ _ _ | exact ih5 _ _ _ _ _ _ _ | exact ih6 _ _ _ _ _ _ _ _ _ _ _ | exact locate_Hit.mono _ _ _ _ _ _ | exact locate_Line.mono _ _ _ | exact locate_Offset.mono _ _ _ _ | exact locate_Spot.mono _ _ _ _ | exact locate_Stops.mono _ _ _ _ _ _ _ _ _ _ _ | exact regletlaw15_awake.mono _ | exact regletlaw15_few.mono _ _ | exact regletlaw15_table.mono _ _ | exact LeO.refl _ | exact LeO.none _ | refine LeO.ite ?_ ?_ | refine LeO.bind ?_ (fun _ => ?_)) | exact ih0 _ _ _ | exact ih1 _ _ _ | exact ih2 _ _ _ _ | exact ih3 _ _ _ _ _ _ _ _ _ _ _ _ _ _ _ _ | exact ih4 _ _ _ _ _ _ _ _ _ _ _ _ _ _ _ | exact ih5 _ _ _ _ _ _ _ | exact ih6 _ _ _ _ _ _ _ _ _ _ _ | exact locate_Hit.mono _ _ _ _ _ _ | exact locate_Line.mono _ _ _ | exact locate_Offset.mono _ _ _ _ | exact locate_Spot.mono _ _ _ _ | exact locate_Stops.mono _ _ _ _ _ _ _ _ _ _ _ | exact regletlaw15_awake.mono _ | exact regletlaw15_few.mono _ _ | exact regletlaw15_table.mono _ _ | exact LeO.none _ | refine LeO.ite ?_ ?_ | refine LeO.bind ?_ (fun _ => ?_)
    · intro y0 y1 y2 y3 y4 y5 y6 y7 y8 y9 y10 y11 y12 y13 y14
      unfold regletlaw15_LocateBack.l2
      repeat' first | (with_reducible first | exact ih0 _ _ _ | exact ih1 _ _ _ | exact ih2 _ _ _ _ | exact ih3 _ _ _ _ _ _ _ _ _ _ _ _ _ _ _ _ | exact ih4 _ _ _ _ _ _ _ _ _ _ _ _ _ _ _ | exact ih5 _ _ _ _ _ _ _ | exact ih6 _ _ _ _ _ _ _ _ _ _ _ | exact locate_Hit.mono _ _ _ _ _ _ | exact locate_Line.mono _ _ _ | exact locate_Offset.mono _ _ _ _ | exact locate_Spot.mono _ _ _ _ | exact locate_Stops.mono _ _ _ _ _ _ _ _ _ _ _ | exact regletlaw15_awake.mono _ | exact regletlaw15_few.mono _ _ | exact regletlaw15_table.mono _ _ | exact LeO.refl _ | exact LeO.none _ | refine LeO.ite ?_ ?_ | refine LeO.bind ?_ (fun _ => ?_)) | exact ih0 _ _ _ | exact ih1 _ _ _ | exact ih2 _ _ _ _ | exact ih3 _ _ _ _ _ _ _ _ _ _ _ _ _ _ _ _ | exact ih4 _ _ _ _ _ _ _ _ _ _ _ _ _ _ _ | exact ih5 _ _ _ _ _ _ _ | exact ih6 _ _ _ _ _ _ _ _ _ _ _ | exact locate_Hit.mono _ _ _ _ _ _ | exact locate_Line.mono _ _ _ | exact locate_Offset.mono _ _ _ _ | exact locate_Spot.mono _ _ _ _ | exact locate_Stops.mono _ _ _ _ _ _ _ _ _ _ _ | exact regletlaw15_awake.mono _ | exact regletlaw15_few.mono _ _ | exact regletlaw15_table.mono _ _ | exact LeO.none _ | refine LeO.ite ?_ ?_ | refine LeO.bind ?_ (fun _ => ?_)
    · intro y0 y1 y2 y3 y4 y5 y6
      unfold regletlaw15_LocateBack.l3
      repeat' first | (with_reducible first | exact ih0 _ _ _ | exact ih1 _ _ _ | exact ih2 _ _ _ _ | exact ih3 _ _ _ _ _ _ _ _ _ _ _ _ _ _ _ _ | exact ih4 _ _ _ _ _ _ _ _ _ _ _ _ _ _ _ | exact ih5 _ _ _ _ _ _ _ | exact ih6 _ _ _ _ _ _ _ _ _ _ _ | exact locate_Hit.mono _ _ _ _ _ _ | exact locate_Line.mono _ _ _ | exact locate_Offset.mono _ _ _ _ | exact locate_Spot.mono _ _ _ _ | exact locate_Stops.mono _ _ _ _ _ _ _ _ _ _ _ | exact regletlaw15_awake.mono _ | exact regletlaw15_few.mono _ _ | exact regletlaw15_table.mono _ _ | exact LeO.refl _ | exact LeO.none _ | refine LeO.ite ?_ ?_ | refine LeO.bind ?_ (fun _ => ?_)) | exact ih0 _ _ _ | exact ih1 _ _ _ | exact ih2 _ _ _ _ | exact ih3 _ _ _ _ _ _ _ _ _ _ _ _ _ _ _ _ | exact ih4 _ _ _ _ _ _ _ _ _ _ _ _ _ _ _ | exact ih5 _ _ _ _ _ _ _ | exact ih6 _ _ _ _ _ _ _ _ _ _ _ | exact locate_Hit.mono _ _ _ _ _ _ | exact locate_Line.mono _ _ _ | exact locate_Offset.mono _ _ _ _ | exact locate_Spot.mono _ _ _ _ | exact locate_Stops.mono _ _ _ _ _ _ _ _ _ _ _ | exact regletlaw15_awake.mono _ | exact regletlaw15_few.mono _ _ | exact regletlaw15_table.mono _ _ | exact LeO.none _ | refine LeO.ite ?_ ?_ | refine LeO.bind ?_ (fun _ => ?_)
    · intro y0 y1 y2 y3 y4 y5 y6 y7 y8 y9 y10
      unfold regletlaw15_LocateBack.j6
      repeat' first | (with_reducible first | exact ih0 _ _ _ | exact ih1 _ _ _ | exact ih2 _ _ _ _ | exact ih3 _ _ _ _ _ _ _ _ _ _ _ _ _ _ _ _ | exact ih4 _ _ _ _ _ _ _ _ _ _ _ _ _ _ _ | exact ih5 _ _ _ _ _ _ _ | exact ih6 _ _ _ _ _ _ _ _ _ _ _ | exact locate_Hit.mono _ _ _ _ _ _ | exact locate_Line.mono _ _ _ | exact locate_Offset.mono _ _ _ _ | exact locate_Spot.mono _ _ _ _ | exact locate_Stops.mono _ _ _ _ _ _ _ _ _ _ _ | exact regletlaw15_awake.mono _ | exact regletlaw15_few.mono _ _ | exact regletlaw15_table.mono _ _ | exact LeO.refl _ | exact LeO.none _ | refine LeO.ite ?_ ?_ | refine LeO.bind ?_ (fun _ => ?_)) | exact ih0 _ _ _ | exact ih1 _ _ _ | exact ih2 _ _ _ _ | exact ih3 _ _ _ _ _ _ _ _ _ _ _ _ _ _ _ _ | exact ih4 _ _ _ _ _ _ _ _ _ _ _ _ _ _ _ | exact ih5 _ _ _ _ _ _ _ | exact ih6 _ _ _ _ _ _ _ _ _ _ _ | exact locate_Hit.mono _ _ _ _ _ _ | exact locate_Line.mono _ _ _ | exact locate_Offset.mono _ _ _ _ | exact locate_Spot.mono _ _ _ _ | exact locate_Stops.mono _ _ _ _ _ _ _ _ _ _ _ | exact regletlaw15_awake.mono _ | exact regletlaw15_few.mono _ _ | exact regletlaw15_table.mono _ _ | exact LeO.none _ | refine LeO.ite ?_ ?_ | refine LeO.bind ?_ (fun _ => ?_)
theorem regletlaw15_LocateBack.mono : ∀ a0 a1 k, LeO (regletlaw15_LocateBack.f k a0 a1) (regletlaw15_LocateBack.f (k + 1) a0 a1) := by
  intro a0 a1 k
  obtain ⟨ih0, ih1, ih2, ih3, ih4, ih5, ih6⟩ := regletlaw15_LocateBack.mono_l k
  unfold regletlaw15_LocateBack.f
  repeat' first | (with_reducible first | exact ih0 _ _ _ | exact ih1 _ _ _ | exact ih2 _ _ _ _ | exact ih3 _ _ _ _ _ _ _ _ _ _ _ _ _ _ _ _ | exact ih4 _ _ _ _ _ _ _ _ _ _ _ _ _ _ _ | exact ih5 _ _ _ _ _ _ _ | exact ih6 _ _ _ _ _ _ _ _ _ _ _ | exact locate_Hit.mono _ _ _ _ _ _ | exact locate_Line.mono _ _ _ | exact locate_Offset.mono _ _ _ _ | exact locate_Spot.mono _ _ _ _ | exact locate_Stops.mono _ _ _ _ _ _ _ _ _ _ _ | exact regletlaw15_awake.mono _ | exact regletlaw15_few.mono _ _ | exact regletlaw15_table.mono _ _ | exact LeO.refl _ | exact LeO.none _ | refine LeO.ite ?_ ?_ | refine LeO.bind ?_ (fun _ => ?_)) | exact ih0 _ _ _ | exact ih1 _ _ _ | exact ih2 _ _ _ _ | exact ih3 _ _ _ _ _ _ _ _ _ _ _ _ _ _ _ _ | exact ih4 _ _ _ _ _ _ _ _ _ _ _ _ _ _ _ | exact ih5 _ _ _ _ _ _ _ | exact ih6 _ _ _ _ _ _ _ _ _ _ _ | exact locate_Hit.mono _ _ _ _ _ _ | exact locate_Line.mono _ _ _ | exact locate_Offset.mono _ _ _ _ | exact locate_Spot.mono _ _ _ _ | exact locate_Stops.mono _ _ _ _ _ _ _ _ _ _ _ | exact regletlaw15_awake.mono _ | exact regletlaw15_few.mono _ _ | exact regletlaw15_table.mono _ _ | exact LeO.none _ | refine LeO.ite ?_ ?_ | refine LeO.bind ?_ (fun _ => ?_)
set_option maxHeartbeats 100000000 in
set_option maxRecDepth 100000 in
theorem regletlaw15_LocateBack.calls (k : Nat) (A0 : Option Addr) (c0 : Nat) (l0 : List (S73)) (A1 : Option Addr) (c1 : Nat) (l1 : List (S24)) (r : Bool) (w : World) (hr0 : Kd.C k73 w A0 l0.length l0) (hc0 : l0.length ≤ c0) (hr1 : Kd.C k24 w A1 l1.length l1) (hc1 : l1.length ≤ c1) (h : regletlaw15_LocateBack.f k l0 l1 = some r) :
    Calls Try.prog 8 #[.slice A0 l0.length c0, .slice A1 l1.length c1] w fun e w' => e = .returned (.bool r) ∧ Below w.heap.size w w' := by
  have hu28 := Try.underlying28
  have hu49 := Try.underlying49
  have HR0 := Aside0.mk hr0
  have HC0 := Aside0.mk hc0
  clear hr0 hc0
  have HR1 := Aside0.mk hr1
  have HC1 := Aside0.mk hc1
  clear hr1 hc1
  have HB := Aside0.mk (Below.refl w.heap.size w)
  have H : ((regletlaw15_awake.f k).bind fun t337 => (if t337 = true then ((regletlaw15_table.f k l0).bind fun t338 => (if (t338.length : Int) = 0 then (regletlaw15_LocateBack.j0 k l1 t338 true) else ((regletlaw15_few.f k l1).bind fun t341 => (regletlaw15_LocateBack.j0 k l1 t338 (!t341))))) else (some false))) = some r := h
  clear h
  replace H := Option.bind_eq_some_iff.mp H
  obtain ⟨t337, A30, H⟩ := H
  replace H : (if t337 = true then ((regletlaw15_table.f k l0).bind fun t338 => (if (t338.length : Int) = 0 then (regletlaw15_LocateBack.j0 k l1 t338 true) else ((regletlaw15_few.f k l1).bind fun t341 => (regletlaw15_LocateBack.j0 k l1 t338 (!t341))))) else (some false)) = some r := H
  have A3 := Aside0.mk A30
  clear A30
  by_cases c4 : t337 = true
  rotate_left
  · replace c4 := Bool.eq_false_iff.mpr c4
    subst c4
    have H1 : (some false) = some r := by rw [if_neg (show ¬ (false = true) by decide)] at H; exact H
    clear H
    have H := H1
    clear H1
    obtain rfl := Option.some.inj H
    go_enter Try.func8, Try.ntmps8
    go_wp2_with (first | (go_at_call 9; (with_reducible refine (regletlaw15_awake.calls k  false _ A3.out).mono ?_); rintro e w98 ⟨rfl, hb⟩; replace HB := Aside0.mk (below_step z103_ hb); (try clear hb); (try clear hb2); (try clear hk); (try clear hi)))
    repeat (go_quiet (first | (go_at_call 9; (with_reducible refine (regletlaw15_awake.calls k  false _ A3.out).mono ?_); rintro e w98 ⟨rfl, hb⟩; replace HB := Aside0.mk (below_step z103_ hb); (try clear hb); (try clear hb2); (try clear hk); (try clear hi))); try go_wp2_with (first | (go_at_call 9; (with_reducible refine (regletlaw15_awake.calls k  false _ A3.out).mono ?_); rintro e w98 ⟨rfl, hb⟩; replace HB := Aside0.mk (below_step z103_ hb); (try clear hb); (try clear hb2); (try clear hk); (try clear hi))))
    go_ret
    exact ⟨z155_, z103_⟩
  subst c4
  have H1 : ((regletlaw15_table.f k l0).bind fun t338 => (if (t338.length : Int) = 0 then (regletlaw15_LocateBack.j0 k l1 t338 true) else ((regletlaw15_few.f k l1).bind fun t341 => (regletlaw15_LocateBack.j0 k l1 t338 (!t341))))) = some r := by rw [if_pos rfl] at H; exact H
  clear H
  have H := H1
  clear H1
  replace H := Option.bind_eq_some_iff.mp H
  obtain ⟨t338, A50, H⟩ := H
  replace H : (if (t338.length : Int) = 0 then (regletlaw15_LocateBack.j0 k l1 t338 true) else ((regletlaw15_few.f k l1).bind fun t341 => (regletlaw15_LocateBack.j0 k l1 t338 (!t341)))) = some r := H
  have A5 := Aside0.mk A50
  clear A50
  have HC6 := Aside0.mk H
  clear H
  go_enter Try.func8, Try.ntmps8
  go_upto_region 4 with (first | (go_at_call 9; (with_reducible refine (regletlaw15_awake.calls k  true _ A3.out).mono ?_); rintro e w7 ⟨rfl, hb⟩; replace HB := Aside0.mk (below_step z103_ hb); (try clear hb); (try clear hb2); (try clear hk); (try clear hi)) | (go_at_call 11; (with_reducible refine (regletlaw15_table.calls k _ _ l0 t338 _ ?side1 ?side2 A5.out).mono ?_); (case side1 => exact z67_); (case side2 => exact HC0.out); rintro e w8 ⟨v339, rfl, ho0, hb⟩; have HO340 := Aside0.mk (Kd.V_lower (Kd.V_mono (ok' := fun k_ => True) ho0 (fun k_ hk_ => trivial)) (below_size z103_)); replace HB := Aside0.mk (below_step z103_ hb); (try clear hb); (try clear hb2); (try clear hk); (try clear hi); (try clear ho0)))
  repeat (go_quiet (first | (go_at_call 9; (with_reducible refine (regletlaw15_awake.calls k  true _ A3.out).mono ?_); rintro e w7 ⟨rfl, hb⟩; replace HB := Aside0.mk (below_step z103_ hb); (try clear hb); (try clear hb2); (try clear hk); (try clear hi)) | (go_at_call 11; (with_reducible refine (regletlaw15_table.calls k _ _ l0 t338 _ ?side1 ?side2 A5.out).mono ?_); (case side1 => exact z67_); (case side2 => exact HC0.out); rintro e w8 ⟨v339, rfl, ho0, hb⟩; have HO340 := Aside0.mk (Kd.V_lower (Kd.V_mono (ok' := fun k_ => True) ho0 (fun k_ hk_ => trivial)) (below_size z103_)); replace HB := Aside0.mk (below_step z103_ hb); (try clear hb); (try clear hb2); (try clear hk); (try clear hi); (try clear ho0))); go_upto_region 4 with (first | (go_at_call 9; (with_reducible refine (regletlaw15_awake.calls k  true _ A3.out).mono ?_); rintro e w7 ⟨rfl, hb⟩; replace HB := Aside0.mk (below_step z103_ hb); (try clear hb); (try clear hb2); (try clear hk); (try clear hi)) | (go_at_call 11; (with_reducible refine (regletlaw15_table.calls k _ _ l0 t338 _ ?side1 ?side2 A5.out).mono ?_); (case side1 => exact z67_); (case side2 => exact HC0.out); rintro e w8 ⟨v339, rfl, ho0, hb⟩; have HO340 := Aside0.mk (Kd.V_lower (Kd.V_mono (ok' := fun k_ => True) ho0 (fun k_ hk_ => trivial)) (below_size z103_)); replace HB := Aside0.mk (below_step z103_ hb); (try clear hb); (try clear hb2); (try clear hk); (try clear hi); (try clear ho0))))
  (try simp only [Act.put, List.setIfInBounds_toArray, List.set_cons_zero, List.set_cons_succ])
  go_cut [32] (fun v32 wc => ∃ (kq : Nat) (x32_5 : Bool), v32 = .bool x32_5 ∧ Aside0 (regletlaw15_LocateBack.j0 kq l1 t338 x32_5 = some r) ∧ Aside0 (kq ≤ k) ∧ Aside0 (Kd.V k98 98 wc w.heap.size (fun _ => True) v339 t338) ∧ Aside0 (Below w.heap.size w wc))
  case first =>
    have H := HC6.out
    clear HC6
    by_cases c9 : (t338.length : Int) = 0
    · rw [if_pos c9] at H
      have c9b0 : ((t338.length : Int) == 0) = true := beq_iff_eq.mpr c9
      have c9b1 : ((t338.length : Int) != 0) = false := bne_eq_false_iff_eq.mpr c9
      clear c9
      (first | rw [c9b0] | (simp only [i64_w, i32_w]; rw [c9b0]) | skip)
      have H' := Aside0.mk H
      clear H
      obtain ⟨Ao10, co10, eo10⟩ := Kd.V_slice HO340.out
      subst eo10
      have hzq11 : ((t338.length : Int) == 0) = true := z178_
      have hpq11 : ptrV (.slice Ao10 t338.length co10) t338 = .pointer none := ptrV_nil hzq11
      go_wp2
      repeat (go_quiet (fail); try go_wp2)
      first | go_meet | (rw [← hpq11]; go_meet)
      case rel => exact ⟨_, (true), z180_, H', ⟨z183_⟩, ⟨z148_⟩, ⟨z103_⟩⟩
    rw [if_neg c9] at H
    have c9b0 : ((t338.length : Int) == 0) = false := beq_eq_false_iff_ne.mpr c9
    have c9b1 : ((t338.length : Int) != 0) = true := bne_iff_ne.mpr c9
    have c9b2 : ¬ (t338 = []) := fun h_ => c9 (by rw [h_]; rfl)
    (first | rw [c9b0] | (simp only [i64_w, i32_w]; rw [c9b0]) | skip)
    replace H := Option.bind_eq_some_iff.mp H
    obtain ⟨t341, A120, H⟩ := H
    replace H : (regletlaw15_LocateBack.j0 k l1 t338 (!t341)) = some r := H
    have A12 := Aside0.mk A120
    clear A120
    have H' := Aside0.mk H
    clear H
    obtain ⟨Ao13, co13, eo13⟩ := Kd.V_slice HO340.out
    subst eo13
    have hzq14 : ((t338.length : Int) == 0) = false := z178_
    have hpq14 : ptrV (.slice Ao13 t338.length co13) t338 = .pointer Ao13 := ptrV_ne hzq14
    have hsq14 : Option.isNone Ao13 = false := ptr_some (Kd.V_reads' HO340.out).2.2 hzq14
    go_wp2_with (first | (go_at_call 17; (with_reducible refine (regletlaw15_few.calls k _ _ l1 t341 _ ?side1 ?side2 A12.out).mono ?_); (case side1 => exact z68_); (case side2 => exact HC1.out); rintro e w15 ⟨rfl, hb⟩; replace HO340 := Aside0.mk (Kd.V_below z148_ hb); replace HB := Aside0.mk (below_step z103_ hb); (try clear hb); (try clear hb2); (try clear hk); (try clear hi)))
    repeat (go_quiet (first | (go_at_call 17; (with_reducible refine (regletlaw15_few.calls k _ _ l1 t341 _ ?side1 ?side2 A12.out).mono ?_); (case side1 => exact z68_); (case side2 => exact HC1.out); rintro e w15 ⟨rfl, hb⟩; replace HO340 := Aside0.mk (Kd.V_below z148_ hb); replace HB := Aside0.mk (below_step z103_ hb); (try clear hb); (try clear hb2); (try clear hk); (try clear hi))); try go_wp2_with (first | (go_at_call 17; (with_reducible refine (regletlaw15_few.calls k _ _ l1 t341 _ ?side1 ?side2 A12.out).mono ?_); (case side1 => exact z68_); (case side2 => exact HC1.out); rintro e w15 ⟨rfl, hb⟩; replace HO340 := Aside0.mk (Kd.V_below z148_ hb); replace HB := Aside0.mk (below_step z103_ hb); (try clear hb); (try clear hb2); (try clear hk); (try clear hi))))
    first | go_meet | (rw [← hpq14]; go_meet)
    case rel => exact ⟨_, (!t341), z180_, H', ⟨z183_⟩, ⟨z148_⟩, ⟨z103_⟩⟩
  case rest =>
    clear HC6; (try clear c1); (try clear q1); (try clear p2); (try clear c4); (try clear c8); (try clear c9); (try clear c9b0); (try clear c9b1); (try clear c9b2); (try clear q11); (try clear q14)
    obtain ⟨kq, x32_5, rfl, HA, HJ5, HO_5, HB⟩ := hcut
    cases kq with
    | zero => exact absurd HA.out (by simp [regletlaw15_LocateBack.j0])
    | succ kj5 =>
      have H := HA.out
      clear HA
      simp only [regletlaw15_LocateBack.j0] at H
      by_cases c16 : x32_5 = true
      · subst c16
        have H1 : (some true) = some r := by rw [if_pos rfl] at H; exact H
        clear H
        have H := H1
        clear H1
        obtain rfl := Option.some.inj H
        go_wp2
        repeat (go_quiet (fail); try go_wp2)
        go_ret
        exact ⟨z155_, z103_⟩
      replace c16 := Bool.eq_false_iff.mpr c16
      subst c16
      have H1 : (regletlaw15_LocateBack.l0 kj5 l1 t338 0) = some r := by rw [if_neg (show ¬ (false = true) by decide)] at H; exact H
      clear H
      have H := H1
      clear H1
      have H' := Aside0.mk H
      clear H
      go_wp2
      repeat (go_quiet (fail); try go_wp2)
      go_loopg [6] kj5 (fun kq v6 w' => ∃ (x6_2 : Int), v6 = .int .i64 x6_2 ∧ Aside0 (regletlaw15_LocateBack.l0 kq l1 t338 x6_2 = some r) ∧ Aside0 (kq ≤ kj5) ∧ Aside0 (Kd.V k98 98 w' w.heap.size (fun _ => True) v339 t338) ∧ Aside0 (Below w.heap.size w w'))
      case atStart => exact ⟨(0), z180_, H', ⟨Nat.le_refl _⟩, ⟨z151_⟩, ⟨z103_⟩⟩
      case round =>
        clear H'; (try clear c1); (try clear q1); (try clear p2); (try clear c4); (try clear c8); (try clear c9); (try clear c9b0); (try clear c9b1); (try clear c9b2); (try clear q11); (try clear q14); (try clear c16); (try clear p2); (try clear q1); (try clear q11); (try clear q14)
        obtain ⟨x6_2, rfl, HA, HK2, HO_5, HB⟩ := hrel
        cases gk with
        | zero => exact absurd HA.out (by simp [regletlaw15_LocateBack.l0])
        | succ k2 =>
          have H := HA.out
          clear HA
          simp only [regletlaw15_LocateBack.l0] at H
          by_cases c17 : x6_2 < (l1.length : Int)
          rotate_left
          · rw [if_neg c17] at H
            have c17b0 : decide (x6_2 < (l1.length : Int)) = false := decide_eq_false c17
            clear c17
            obtain rfl := Option.some.inj H
            go_wp2
            repeat (go_quiet (fail); try go_wp2)
            go_ret
            exact ⟨z155_, z103_⟩
          rw [if_pos c17] at H
          have c17b0 : decide (x6_2 < (l1.length : Int)) = true := decide_eq_true c17
          clear c17
          have H' := Aside0.mk H
          clear H
          go_wp2
          repeat (go_quiet (fail); try go_wp2)
          go_loopg [7] k2 (fun kq v7 w' => ∃ (x7_3 : Int), v7 = .int .i64 x7_3 ∧ Aside0 (regletlaw15_LocateBack.l1 kq l1 t338 x6_2 x7_3 = some r) ∧ Aside0 (kq ≤ k2) ∧ Aside0 (Kd.V k98 98 w' w.heap.size (fun _ => True) v339 t338) ∧ Aside0 (Below w.heap.size w w'))
          case atStart => exact ⟨(0), z180_, H', ⟨Nat.le_refl _⟩, ⟨z151_⟩, ⟨z103_⟩⟩
          case round =>
            clear H'; (try clear c1); (try clear q1); (try clear p2); (try clear c4); (try clear c8); (try clear c9); (try clear c9b0); (try clear c9b1); (try clear c9b2); (try clear q11); (try clear q14); (try clear c16); (try clear c17); (try clear c17b0); (try clear p2); (try clear q1); (try clear q11); (try clear q14)
            obtain ⟨x7_3, rfl, HA, HK3, HO_5, HB⟩ := hrel
            cases gk with
            | zero => exact absurd HA.out (by simp [regletlaw15_LocateBack.l1])
            | succ k3 =>
              have H := HA.out
              clear HA
              simp only [regletlaw15_LocateBack.l1] at H
              by_cases c18 : 0 ≤ x6_2
              rotate_left
              · rw [if_neg c18] at H
                exact absurd H (by simp)
              rw [if_pos c18] at H
              have c18b0 : decide (0 ≤ x6_2) = true := decide_eq_true c18
              clear c18
              by_cases c19 : x6_2 < (l1.length : Int)
              rotate_left
              · rw [if_neg c19] at H
                exact absurd H (by simp)
              rw [if_pos c19] at H
              have c19b0 : decide (x6_2 < (l1.length : Int)) = true := decide_eq_true c19
              clear c19
              by_cases c20 : x7_3 < (((rd_T24 l1 x6_2).f0).length : Int)
              rotate_left
              · rw [if_neg c20] at H
                have c20b0 : decide (x7_3 < (((rd_T24 l1 x6_2).f0).length : Int)) = false := decide_eq_false c20
                clear c20
                have H' := Aside0.mk H
                clear H
                have p342 : 0 ≤ (x6_2 : Int) := of_decide_eq_true z178_
                have q342 : x6_2 < (l1.length : Int) := of_decide_eq_true z178_
                obtain ⟨ad342, A342_0, c342_0, e342, hx342_0, hl342_0, hi342_0⟩ := at_T24 HR1.out x6_2 p342 q342
                cases e342
                replace hx342_0 := (HB.out.cell (World.block_lt_of_cell? w _ hx342_0)).trans hx342_0
                have HR342_0 := Aside0.mk hi342_0
                have HC342_0 := Aside0.mk hl342_0
                clear hi342_0 hl342_0
                replace p342 := eq_true p342
                replace q342 := eq_true q342
                go_wp2
                repeat (go_quiet (fail); try go_wp2)
                go_roundg k3
                case measure => have := HJ5.out; have := HK2.out; have := HK3.out; omega
                case rel => exact ⟨(wrap64 (x6_2 + 1)), z180_, H', ⟨by have := HJ5.out; have := HK2.out; have := HK3.out; omega⟩, ⟨z151_⟩, ⟨z103_⟩⟩
              rw [if_pos c20] at H
              have c20b0 : decide (x7_3 < (((rd_T24 l1 x6_2).f0).length : Int)) = true := decide_eq_true c20
              clear c20
              by_cases c21 : 0 ≤ x7_3
              rotate_left
              · rw [if_neg c21] at H
                exact absurd H (by simp)
              rw [if_pos c21] at H
              have c21b0 : decide (0 ≤ x7_3) = true := decide_eq_true c21
              clear c21
              replace H := Option.bind_eq_some_iff.mp H
              obtain ⟨⟨t346, t347⟩, A220, H⟩ := H
              replace H : (if t347 = true then (regletlaw15_LocateBack.j3 k3 l1 t338 x6_2 x7_3 t346 t347 (((rd_T28 ((rd_T24 l1 x6_2).f0) x7_3).f2) != 0) ((rd_T28 ((rd_T24 l1 x6_2).f0) x7_3).f0) ((rd_T28 ((rd_T24 l1 x6_2).f0) x7_3).f1) ((rd_T28 ((rd_T24 l1 x6_2).f0) x7_3).f2) ((rd_T28 ((rd_T24 l1 x6_2).f0) x7_3).f3) ((rd_T28 ((rd_T24 l1 x6_2).f0) x7_3).f4) ((rd_T28 ((rd_T24 l1 x6_2).f0) x7_3).f5) ((rd_T28 ((rd_T24 l1 x6_2).f0) x7_3).f6) ((rd_T28 ((rd_T24 l1 x6_2).f0) x7_3).f7) ((rd_T28 ((rd_T24 l1 x6_2).f0) x7_3).f8)) else (regletlaw15_LocateBack.j3 k3 l1 t338 x6_2 x7_3 t346 t347 true ((rd_T28 ((rd_T24 l1 x6_2).f0) x7_3).f0) ((rd_T28 ((rd_T24 l1 x6_2).f0) x7_3).f1) ((rd_T28 ((rd_T24 l1 x6_2).f0) x7_3).f2) ((rd_T28 ((rd_T24 l1 x6_2).f0) x7_3).f3) ((rd_T28 ((rd_T24 l1 x6_2).f0) x7_3).f4) ((rd_T28 ((rd_T24 l1 x6_2).f0) x7_3).f5) ((rd_T28 ((rd_T24 l1 x6_2).f0) x7_3).f6) ((rd_T28 ((rd_T24 l1 x6_2).f0) x7_3).f7) ((rd_T28 ((rd_T24 l1 x6_2).f0) x7_3).f8))) = some r := H
              have A22 := Aside0.mk A220
              clear A220
              have HC23 := Aside0.mk H
              clear H
              have p342 : 0 ≤ (x6_2 : Int) := of_decide_eq_true z178_
              have q342 : x6_2 < (l1.length : Int) := of_decide_eq_true z178_
              obtain ⟨ad342, A342_0, c342_0, e342, hx342_0, hl342_0, hi342_0⟩ := at_T24 HR1.out x6_2 p342 q342
              cases e342
              replace hx342_0 := (HB.out.cell (World.block_lt_of_cell? w _ hx342_0)).trans hx342_0
              have HR342_0 := Aside0.mk hi342_0
              have HC342_0 := Aside0.mk hl342_0
              clear hi342_0 hl342_0
              replace p342 := eq_true p342
              replace q342 := eq_true q342
              have p343 : 0 ≤ (x6_2 : Int) := of_decide_eq_true z178_
              have q343 : x6_2 < (l1.length : Int) := of_decide_eq_true z178_
              obtain ⟨ad343, A343_0, c343_0, e343, hx343_0, hl343_0, hi343_0⟩ := at_T24 HR1.out x6_2 p343 q343
              obtain rfl : ad342 = ad343 := (by injection e343)
              replace hx343_0 := (HB.out.cell (World.block_lt_of_cell? w _ hx343_0)).trans hx343_0
              have HR343_0 := Aside0.mk hi343_0
              have HC343_0 := Aside0.mk hl343_0
              clear hi343_0 hl343_0
              replace p343 := eq_true p343
              replace q343 := eq_true q343
              have ea_ := Option.some.inj (hx342_0.symm.trans hx343_0)
              injection ea_ with ea_ en_ ec_
              subst ea_
              subst ec_
              clear en_
              have p344 : 0 ≤ (x7_3 : Int) := of_decide_eq_true z178_
              have q344 : x7_3 < (((rd_T24 l1 x6_2).f0).length : Int) := of_decide_eq_true z178_
              obtain ⟨ad344, A344_1, c344_1, e344, hx344_0, hx344_1, hx344_2, hx344_3, hx344_4, hx344_5, hx344_6, hx344_7, hx344_8, hl344_1, hi344_1⟩ := at_T28 HR343_0.out x7_3 p344 q344
              cases e344
              replace hx344_0 := (HB.out.cell (World.block_lt_of_cell? w _ hx344_0)).trans hx344_0
              replace hx344_1 := (HB.out.cell (World.block_lt_of_cell? w _ hx344_1)).trans hx344_1
              replace hx344_2 := (HB.out.cell (World.block_lt_of_cell? w _ hx344_2)).trans hx344_2
              replace hx344_3 := (HB.out.cell (World.block_lt_of_cell? w _ hx344_3)).trans hx344_3
              replace hx344_4 := (HB.out.cell (World.block_lt_of_cell? w _ hx344_4)).trans hx344_4
              replace hx344_5 := (HB.out.cell (World.block_lt_of_cell? w _ hx344_5)).trans hx344_5
              replace hx344_6 := (HB.out.cell (World.block_lt_of_cell? w _ hx344_6)).trans hx344_6
              replace hx344_7 := (HB.out.cell (World.block_lt_of_cell? w _ hx344_7)).trans hx344_7
              replace hx344_8 := (HB.out.cell (World.block_lt_of_cell? w _ hx344_8)).trans hx344_8
              have HR344_1 := Aside0.mk hi344_1
              have HC344_1 := Aside0.mk hl344_1
              clear hi344_1 hl344_1
              replace p344 := eq_true p344
              replace q344 := eq_true q344
              go_upto_region 14 with (first | ((with_reducible refine gate_dst (N := 8) rfl ?_); refine box_event ?hg (N := 8) ?hd (cs := #[.string (⟨#[]⟩ : ByteArray), .slice none 0 0, .int .i64 0, .int .i64 0, .int .i64 0, .bool false, .int .i64 0, .bool false, .bool false]) (t := 28) ?hr ?_; (case hd => rfl); (case hg => rfl); (case hr => exact z181_); intro gb345 hg w24 hbox hb; replace HO_5 := Aside0.mk (Kd.V_below (Kd.V_elderB z151_ gb345 (Nat.le_of_eq hg.symm)) hb); have BK345 := Aside0.mk (hbox); have GW345 := Aside0.mk ((z74_ : w.heap.size ≤ gb345)); have GE345 := Aside0.mk ((z74_ : w.heap.size ≤ gb345)); replace HB := Aside0.mk (below_step z103_ hb); clear hb hbox hg; have hcz25_0 : w24.cell? ⟨gb345, 0, none⟩ = some (.string (⟨#[]⟩ : ByteArray)) := (blk_cell BK345.out 0).trans rfl; have hcz25_1 : w24.cell? ⟨gb345, 1, none⟩ = some (.slice none 0 0) := (blk_cell BK345.out 1).trans rfl; have hcz25_2 : w24.cell? ⟨gb345, 2, none⟩ = some (.int .i64 0) := (blk_cell BK345.out 2).trans rfl; have hcz25_3 : w24.cell? ⟨gb345, 3, none⟩ = some (.int .i64 0) := (blk_cell BK345.out 3).trans rfl; have hcz25_4 : w24.cell? ⟨gb345, 4, none⟩ = some (.int .i64 0) := (blk_cell BK345.out 4).trans rfl; have hcz25_5 : w24.cell? ⟨gb345, 5, none⟩ = some (.bool false) := (blk_cell BK345.out 5).trans rfl; have hcz25_6 : w24.cell? ⟨gb345, 6, none⟩ = some (.int .i64 0) := (blk_cell BK345.out 6).trans rfl; have hcz25_7 : w24.cell? ⟨gb345, 7, none⟩ = some (.bool false) := (blk_cell BK345.out 7).trans rfl; have hcz25_8 : w24.cell? ⟨gb345, 8, none⟩ = some (.bool false) := (blk_cell BK345.out 8).trans rfl; have hfz25_0 := blk_frozen BK345.out 0; have hfz25_1 := blk_frozen BK345.out 1; have hfz25_2 := blk_frozen BK345.out 2; have hfz25_3 := blk_frozen BK345.out 3; have hfz25_4 := blk_frozen BK345.out 4; have hfz25_5 := blk_frozen BK345.out 5; have hfz25_6 := blk_frozen BK345.out 6; have hfz25_7 := blk_frozen BK345.out 7; have hfz25_8 := blk_frozen BK345.out 8) | (go_at_call 25; (with_reducible refine (locate_Offset.calls k3 _ _ l1 x6_2 x7_3 t346 t347 _ ?side1 ?side2 A22.out).mono ?_); (case side1 => exact z59_); (case side2 => exact HC1.out); rintro e w26 ⟨rfl, hb⟩; replace HO_5 := Aside0.mk (Kd.V_below z6_ hb); replace BK345 := Aside0.mk (blk_below (g := gb345) (o := .cells #[.string ((rd_T28 ((rd_T24 l1 x6_2).f0) x7_3).f0), .slice A344_1 ((rd_T28 ((rd_T24 l1 x6_2).f0) x7_3).f1).length c344_1, .int .i64 ((rd_T28 ((rd_T24 l1 x6_2).f0) x7_3).f2), .int .i64 ((rd_T28 ((rd_T24 l1 x6_2).f0) x7_3).f3), .int .i64 ((rd_T28 ((rd_T24 l1 x6_2).f0) x7_3).f4), .bool ((rd_T28 ((rd_T24 l1 x6_2).f0) x7_3).f5), .int .i64 ((rd_T28 ((rd_T24 l1 x6_2).f0) x7_3).f6), .bool ((rd_T28 ((rd_T24 l1 x6_2).f0) x7_3).f7), .bool ((rd_T28 ((rd_T24 l1 x6_2).f0) x7_3).f8)] 28 (0, 0)) z1_ hb); replace HB := Aside0.mk (below_step z92_ hb); (try clear hb); (try clear hb2); (try clear hk); (try clear hi)))
              repeat (go_quiet (first | ((with_reducible refine gate_dst (N := 8) rfl ?_); refine box_event ?hg (N := 8) ?hd (cs := #[.string (⟨#[]⟩ : ByteArray), .slice none 0 0, .int .i64 0, .int .i64 0, .int .i64 0, .bool false, .int .i64 0, .bool false, .bool false]) (t := 28) ?hr ?_; (case hd => rfl); (case hg => rfl); (case hr => exact z181_); intro gb345 hg w24 hbox hb; replace HO_5 := Aside0.mk (Kd.V_below (Kd.V_elderB z151_ gb345 (Nat.le_of_eq hg.symm)) hb); have BK345 := Aside0.mk (hbox); have GW345 := Aside0.mk ((z74_ : w.heap.size ≤ gb345)); have GE345 := Aside0.mk ((z74_ : w.heap.size ≤ gb345)); replace HB := Aside0.mk (below_step z103_ hb); clear hb hbox hg; have hcz25_0 : w24.cell? ⟨gb345, 0, none⟩ = some (.string (⟨#[]⟩ : ByteArray)) := (blk_cell BK345.out 0).trans rfl; have hcz25_1 : w24.cell? ⟨gb345, 1, none⟩ = some (.slice none 0 0) := (blk_cell BK345.out 1).trans rfl; have hcz25_2 : w24.cell? ⟨gb345, 2, none⟩ = some (.int .i64 0) := (blk_cell BK345.out 2).trans rfl; have hcz25_3 : w24.cell? ⟨gb345, 3, none⟩ = some (.int .i64 0) := (blk_cell BK345.out 3).trans rfl; have hcz25_4 : w24.cell? ⟨gb345, 4, none⟩ = some (.int .i64 0) := (blk_cell BK345.out 4).trans rfl; have hcz25_5 : w24.cell? ⟨gb345, 5, none⟩ = some (.bool false) := (blk_cell BK345.out 5).trans rfl; have hcz25_6 : w24.cell? ⟨gb345, 6, none⟩ = some (.int .i64 0) := (blk_cell BK345.out 6).trans rfl; have hcz25_7 : w24.cell? ⟨gb345, 7, none⟩ = some (.bool false) := (blk_cell BK345.out 7).trans rfl; have hcz25_8 : w24.cell? ⟨gb345, 8, none⟩ = some (.bool false) := (blk_cell BK345.out 8).trans rfl; have hfz25_0 := blk_frozen BK345.out 0; have hfz25_1 := blk_frozen BK345.out 1; have hfz25_2 := blk_frozen BK345.out 2; have hfz25_3 := blk_frozen BK345.out 3; have hfz25_4 := blk_frozen BK345.out 4; have hfz25_5 := blk_frozen BK345.out 5; have hfz25_6 := blk_frozen BK345.out 6; have hfz25_7 := blk_frozen BK345.out 7; have hfz25_8 := blk_frozen BK345.out 8) | (go_at_call 25; (with_reducible refine (locate_Offset.calls k3 _ _ l1 x6_2 x7_3 t346 t347 _ ?side1 ?side2 A22.out).mono ?_); (case side1 => exact z59_); (case side2 => exact HC1.out); rintro e w26 ⟨rfl, hb⟩; replace HO_5 := Aside0.mk (Kd.V_below z6_ hb); replace BK345 := Aside0.mk (blk_below (g := gb345) (o := .cells #[.string ((rd_T28 ((rd_T24 l1 x6_2).f0) x7_3).f0), .slice A344_1 ((rd_T28 ((rd_T24 l1 x6_2).f0) x7_3).f1).length c344_1, .int .i64 ((rd_T28 ((rd_T24 l1 x6_2).f0) x7_3).f2), .int .i64 ((rd_T28 ((rd_T24 l1 x6_2).f0) x7_3).f3), .int .i64 ((rd_T28 ((rd_T24 l1 x6_2).f0) x7_3).f4), .bool ((rd_T28 ((rd_T24 l1 x6_2).f0) x7_3).f5), .int .i64 ((rd_T28 ((rd_T24 l1 x6_2).f0) x7_3).f6), .bool ((rd_T28 ((rd_T24 l1 x6_2).f0) x7_3).f7), .bool ((rd_T28 ((rd_T24 l1 x6_2).f0) x7_3).f8)] 28 (0, 0)) z1_ hb); replace HB := Aside0.mk (below_step z92_ hb); (try clear hb); (try clear hb2); (try clear hk); (try clear hi))); go_upto_region 14 with (first | ((with_reducible refine gate_dst (N := 8) rfl ?_); refine box_event ?hg (N := 8) ?hd (cs := #[.string (⟨#[]⟩ : ByteArray), .slice none 0 0, .int .i64 0, .int .i64 0, .int .i64 0, .bool false, .int .i64 0, .bool false, .bool false]) (t := 28) ?hr ?_; (case hd => rfl); (case hg => rfl); (case hr => exact z181_); intro gb345 hg w24 hbox hb; replace HO_5 := Aside0.mk (Kd.V_below (Kd.V_elderB z151_ gb345 (Nat.le_of_eq hg.symm)) hb); have BK345 := Aside0.mk (hbox); have GW345 := Aside0.mk ((z74_ : w.heap.size ≤ gb345)); have GE345 := Aside0.mk ((z74_ : w.heap.size ≤ gb345)); replace HB := Aside0.mk (below_step z103_ hb); clear hb hbox hg; have hcz25_0 : w24.cell? ⟨gb345, 0, none⟩ = some (.string (⟨#[]⟩ : ByteArray)) := (blk_cell BK345.out 0).trans rfl; have hcz25_1 : w24.cell? ⟨gb345, 1, none⟩ = some (.slice none 0 0) := (blk_cell BK345.out 1).trans rfl; have hcz25_2 : w24.cell? ⟨gb345, 2, none⟩ = some (.int .i64 0) := (blk_cell BK345.out 2).trans rfl; have hcz25_3 : w24.cell? ⟨gb345, 3, none⟩ = some (.int .i64 0) := (blk_cell BK345.out 3).trans rfl; have hcz25_4 : w24.cell? ⟨gb345, 4, none⟩ = some (.int .i64 0) := (blk_cell BK345.out 4).trans rfl; have hcz25_5 : w24.cell? ⟨gb345, 5, none⟩ = some (.bool false) := (blk_cell BK345.out 5).trans rfl; have hcz25_6 : w24.cell? ⟨gb345, 6, none⟩ = some (.int .i64 0) := (blk_cell BK345.out 6).trans rfl; have hcz25_7 : w24.cell? ⟨gb345, 7, none⟩ = some (.bool false) := (blk_cell BK345.out 7).trans rfl; have hcz25_8 : w24.cell? ⟨gb345, 8, none⟩ = some (.bool false) := (blk_cell BK345.out 8).trans rfl; have hfz25_0 := blk_frozen BK345.out 0; have hfz25_1 := blk_frozen BK345.out 1; have hfz25_2 := blk_frozen BK345.out 2; have hfz25_3 := blk_frozen BK345.out 3; have hfz25_4 := blk_frozen BK345.out 4; have hfz25_5 := blk_frozen BK345.out 5; have hfz25_6 := blk_frozen BK345.out 6; have hfz25_7 := blk_frozen BK345.out 7; have hfz25_8 := blk_frozen BK345.out 8) | (go_at_call 25; (with_reducible refine (locate_Offset.calls k3 _ _ l1 x6_2 x7_3 t346 t347 _ ?side1 ?side2 A22.out).mono ?_); (case side1 => exact z59_); (case side2 => exact HC1.out); rintro e w26 ⟨rfl, hb⟩; replace HO_5 := Aside0.mk (Kd.V_below z6_ hb); replace BK345 := Aside0.mk (blk_below (g := gb345) (o := .cells #[.string ((rd_T28 ((rd_T24 l1 x6_2).f0) x7_3).f0), .slice A344_1 ((rd_T28 ((rd_T24 l1 x6_2).f0) x7_3).f1).length c344_1, .int .i64 ((rd_T28 ((rd_T24 l1 x6_2).f0) x7_3).f2), .int .i64 ((rd_T28 ((rd_T24 l1 x6_2).f0) x7_3).f3), .int .i64 ((rd_T28 ((rd_T24 l1 x6_2).f0) x7_3).f4), .bool ((rd_T28 ((rd_T24 l1 x6_2).f0) x7_3).f5), .int .i64 ((rd_T28 ((rd_T24 l1 x6_2).f0) x7_3).f6), .bool ((rd_T28 ((rd_T24 l1 x6_2).f0) x7_3).f7), .bool ((rd_T28 ((rd_T24 l1 x6_2).f0) x7_3).f8)] 28 (0, 0)) z1_ hb); replace HB := Aside0.mk (below_step z92_ hb); (try clear hb); (try clear hb2); (try clear hk); (try clear hi))))
              (try simp only [Act.put, List.setIfInBounds_toArray, List.set_cons_zero, List.set_cons_succ])
              go_cut [70] (fun v70 wc => ∃ (kq : Nat) (x70_22 : Bool), v70 = .bool x70_22 ∧ Aside0 (regletlaw15_LocateBack.j3 kq l1 t338 x6_2 x7_3 t346 t347 x70_22 ((rd_T28 ((rd_T24 l1 x6_2).f0) x7_3).f0) ((rd_T28 ((rd_T24 l1 x6_2).f0) x7_3).f1) ((rd_T28 ((rd_T24 l1 x6_2).f0) x7_3).f2) ((rd_T28 ((rd_T24 l1 x6_2).f0) x7_3).f3) ((rd_T28 ((rd_T24 l1 x6_2).f0) x7_3).f4) ((rd_T28 ((rd_T24 l1 x6_2).f0) x7_3).f5) ((rd_T28 ((rd_T24 l1 x6_2).f0) x7_3).f6) ((rd_T28 ((rd_T24 l1 x6_2).f0) x7_3).f7) ((rd_T28 ((rd_T24 l1 x6_2).f0) x7_3).f8) = some r) ∧ Aside0 (kq ≤ k3) ∧ Aside0 (Kd.V k98 98 wc w.heap.size (fun k_ => k_ ≠ gb345) v339 t338) ∧ Aside0 (wc.heap[gb345]? = some (.cells #[.string ((rd_T28 ((rd_T24 l1 x6_2).f0) x7_3).f0), (.slice A344_1 ((rd_T28 ((rd_T24 l1 x6_2).f0) x7_3).f1).length c344_1), .int .i64 ((rd_T28 ((rd_T24 l1 x6_2).f0) x7_3).f2), .int .i64 ((rd_T28 ((rd_T24 l1 x6_2).f0) x7_3).f3), .int .i64 ((rd_T28 ((rd_T24 l1 x6_2).f0) x7_3).f4), .bool ((rd_T28 ((rd_T24 l1 x6_2).f0) x7_3).f5), .int .i64 ((rd_T28 ((rd_T24 l1 x6_2).f0) x7_3).f6), .bool ((rd_T28 ((rd_T24 l1 x6_2).f0) x7_3).f7), .bool ((rd_T28 ((rd_T24 l1 x6_2).f0) x7_3).f8)] 28 (0, 0))) ∧ Aside0 (Below w.heap.size w wc))
              case first =>
                have H := HC23.out
                clear HC23
                by_cases c27 : t347 = true
                rotate_left
                · replace c27 := Bool.eq_false_iff.mpr c27
                  subst c27
                  have H1 : (regletlaw15_LocateBack.j3 k3 l1 t338 x6_2 x7_3 t346 false true ((rd_T28 ((rd_T24 l1 x6_2).f0) x7_3).f0) ((rd_T28 ((rd_T24 l1 x6_2).f0) x7_3).f1) ((rd_T28 ((rd_T24 l1 x6_2).f0) x7_3).f2) ((rd_T28 ((rd_T24 l1 x6_2).f0) x7_3).f3) ((rd_T28 ((rd_T24 l1 x6_2).f0) x7_3).f4) ((rd_T28 ((rd_T24 l1 x6_2).f0) x7_3).f5) ((rd_T28 ((rd_T24 l1 x6_2).f0) x7_3).f6) ((rd_T28 ((rd_T24 l1 x6_2).f0) x7_3).f7) ((rd_T28 ((rd_T24 l1 x6_2).f0) x7_3).f8)) = some r := by rw [if_neg (show ¬ (false = true) by decide)] at H; exact H
                  clear H
                  have H := H1
                  clear H1
                  have H' := Aside0.mk H
                  clear H
                  go_wp2
                  repeat (go_quiet (fail); try go_wp2)
                  go_meet
                  case rel => exact ⟨_, (true), z180_, H', ⟨z165_⟩, ⟨z101_⟩, ⟨z135_⟩, ⟨z92_⟩⟩
                subst c27
                have H1 : (regletlaw15_LocateBack.j3 k3 l1 t338 x6_2 x7_3 t346 true (((rd_T28 ((rd_T24 l1 x6_2).f0) x7_3).f2) != 0) ((rd_T28 ((rd_T24 l1 x6_2).f0) x7_3).f0) ((rd_T28 ((rd_T24 l1 x6_2).f0) x7_3).f1) ((rd_T28 ((rd_T24 l1 x6_2).f0) x7_3).f2) ((rd_T28 ((rd_T24 l1 x6_2).f0) x7_3).f3) ((rd_T28 ((rd_T24 l1 x6_2).f0) x7_3).f4) ((rd_T28 ((rd_T24 l1 x6_2).f0) x7_3).f5) ((rd_T28 ((rd_T24 l1 x6_2).f0) x7_3).f6) ((rd_T28 ((rd_T24 l1 x6_2).f0) x7_3).f7) ((rd_T28 ((rd_T24 l1 x6_2).f0) x7_3).f8)) = some r := by rw [if_pos rfl] at H; exact H
                clear H
                have H := H1
                clear H1
                have H' := Aside0.mk H
                clear H
                have hcz28_0 : w26.cell? ⟨gb345, 0, none⟩ = some (.string ((rd_T28 ((rd_T24 l1 x6_2).f0) x7_3).f0)) := (blk_cell BK345.out 0).trans rfl
                have hcz28_1 : w26.cell? ⟨gb345, 1, none⟩ = some (.slice A344_1 ((rd_T28 ((rd_T24 l1 x6_2).f0) x7_3).f1).length c344_1) := (blk_cell BK345.out 1).trans rfl
                have hcz28_2 : w26.cell? ⟨gb345, 2, none⟩ = some (.int .i64 ((rd_T28 ((rd_T24 l1 x6_2).f0) x7_3).f2)) := (blk_cell BK345.out 2).trans rfl
                have hcz28_3 : w26.cell? ⟨gb345, 3, none⟩ = some (.int .i64 ((rd_T28 ((rd_T24 l1 x6_2).f0) x7_3).f3)) := (blk_cell BK345.out 3).trans rfl
                have hcz28_4 : w26.cell? ⟨gb345, 4, none⟩ = some (.int .i64 ((rd_T28 ((rd_T24 l1 x6_2).f0) x7_3).f4)) := (blk_cell BK345.out 4).trans rfl
                have hcz28_5 : w26.cell? ⟨gb345, 5, none⟩ = some (.bool ((rd_T28 ((rd_T24 l1 x6_2).f0) x7_3).f5)) := (blk_cell BK345.out 5).trans rfl
                have hcz28_6 : w26.cell? ⟨gb345, 6, none⟩ = some (.int .i64 ((rd_T28 ((rd_T24 l1 x6_2).f0) x7_3).f6)) := (blk_cell BK345.out 6).trans rfl
                have hcz28_7 : w26.cell? ⟨gb345, 7, none⟩ = some (.bool ((rd_T28 ((rd_T24 l1 x6_2).f0) x7_3).f7)) := (blk_cell BK345.out 7).trans rfl
                have hcz28_8 : w26.cell? ⟨gb345, 8, none⟩ = some (.bool ((rd_T28 ((rd_T24 l1 x6_2).f0) x7_3).f8)) := (blk_cell BK345.out 8).trans rfl
                have hfz28_0 := blk_frozen BK345.out 0
                have hfz28_1 := blk_frozen BK345.out 1
                have hfz28_2 := blk_frozen BK345.out 2
                have hfz28_3 := blk_frozen BK345.out 3
                have hfz28_4 := blk_frozen BK345.out 4
                have hfz28_5 := blk_frozen BK345.out 5
                have hfz28_6 := blk_frozen BK345.out 6
                have hfz28_7 := blk_frozen BK345.out 7
                have hfz28_8 := blk_frozen BK345.out 8
                go_wp2
                repeat (go_quiet (fail); try go_wp2)
                go_meet
                case rel => exact ⟨_, ((((rd_T28 ((rd_T24 l1 x6_2).f0) x7_3).f2) != 0)), z180_, H', ⟨z165_⟩, ⟨z101_⟩, ⟨z135_⟩, ⟨z92_⟩⟩
              case rest =>
                clear HC23; (try clear c1); (try clear q1); (try clear c2); (try clear p2); (try clear c3); (try clear p3); (try clear q3); (try clear hx3); (try clear c4); (try clear c8); (try clear c9); (try clear c9b0); (try clear c9b1); (try clear c9b2); (try clear q11); (try clear q14); (try clear c16); (try clear c17); (try clear c17b0); (try clear c18); (try clear c18b0); (try clear c19); (try clear c19b0); (try clear c20); (try clear c20b0); (try clear c21); (try clear c21b0); (try clear c27); (try clear hcz25_0); (try clear hcz25_1); (try clear hcz25_2); (try clear hcz25_3); (try clear hcz25_4); (try clear hcz25_5); (try clear hcz25_6); (try clear hcz25_7); (try clear hcz25_8); (try clear hcz28_0); (try clear hcz28_1); (try clear hcz28_2); (try clear hcz28_3); (try clear hcz28_4); (try clear hcz28_5); (try clear hcz28_6); (try clear hcz28_7); (try clear hcz28_8); (try clear hfz25_0); (try clear hfz25_1); (try clear hfz25_2); (try clear hfz25_3); (try clear hfz25_4); (try clear hfz25_5); (try clear hfz25_6); (try clear hfz25_7); (try clear hfz25_8); (try clear hfz28_0); (try clear hfz28_1); (try clear hfz28_2); (try clear hfz28_3); (try clear hfz28_4); (try clear hfz28_5); (try clear hfz28_6); (try clear hfz28_7); (try clear hfz28_8); (try clear hx342_0); (try clear hx343_0); (try clear hx344_0); (try clear hx344_1); (try clear hx344_2); (try clear hx344_3); (try clear hx344_4); (try clear hx344_5); (try clear hx344_6); (try clear hx344_7); (try clear hx344_8); (try clear p2); (try clear p342); (try clear p343); (try clear p344); (try clear q1); (try clear q11); (try clear q14); (try clear q342); (try clear q343); (try clear q344)
                obtain ⟨kq, x70_22, rfl, HA, HJ22, HO_5, BK345, HB⟩ := hcut
                cases kq with
                | zero => exact absurd HA.out (by simp [regletlaw15_LocateBack.j3])
                | succ kj22 =>
                  have H := HA.out
                  clear HA
                  simp only [regletlaw15_LocateBack.j3] at H
                  by_cases c29 : x70_22 = true
                  · subst c29
                    have H1 : (some t347) = some r := by rw [if_pos rfl] at H; exact H
                    clear H
                    have H := H1
                    clear H1
                    obtain rfl := Option.some.inj H
                    go_wp2
                    repeat (go_quiet (fail); try go_wp2)
                    go_ret
                    exact ⟨z155_, z92_⟩
                  replace c29 := Bool.eq_false_iff.mpr c29
                  subst c29
                  have H1 : (regletlaw15_LocateBack.l2 kj22 l1 t338 x6_2 x7_3 t346 0 ((rd_T28 ((rd_T24 l1 x6_2).f0) x7_3).f0) ((rd_T28 ((rd_T24 l1 x6_2).f0) x7_3).f1) ((rd_T28 ((rd_T24 l1 x6_2).f0) x7_3).f2) ((rd_T28 ((rd_T24 l1 x6_2).f0) x7_3).f3) ((rd_T28 ((rd_T24 l1 x6_2).f0) x7_3).f4) ((rd_T28 ((rd_T24 l1 x6_2).f0) x7_3).f5) ((rd_T28 ((rd_T24 l1 x6_2).f0) x7_3).f6) ((rd_T28 ((rd_T24 l1 x6_2).f0) x7_3).f7) ((rd_T28 ((rd_T24 l1 x6_2).f0) x7_3).f8)) = some r := by rw [if_neg (show ¬ (false = true) by decide)] at H; exact H
                  clear H
                  have H := H1
                  clear H1
                  have H' := Aside0.mk H
                  clear H
                  go_wp2
                  repeat (go_quiet (fail); try go_wp2)
                  go_loopg [11] kj22 (fun kq v11 w' => ∃ (x11_5 : Int), v11 = .int .i64 x11_5 ∧ Aside0 (regletlaw15_LocateBack.l2 kq l1 t338 x6_2 x7_3 t346 x11_5 ((rd_T28 ((rd_T24 l1 x6_2).f0) x7_3).f0) ((rd_T28 ((rd_T24 l1 x6_2).f0) x7_3).f1) ((rd_T28 ((rd_T24 l1 x6_2).f0) x7_3).f2) ((rd_T28 ((rd_T24 l1 x6_2).f0) x7_3).f3) ((rd_T28 ((rd_T24 l1 x6_2).f0) x7_3).f4) ((rd_T28 ((rd_T24 l1 x6_2).f0) x7_3).f5) ((rd_T28 ((rd_T24 l1 x6_2).f0) x7_3).f6) ((rd_T28 ((rd_T24 l1 x6_2).f0) x7_3).f7) ((rd_T28 ((rd_T24 l1 x6_2).f0) x7_3).f8) = some r) ∧ Aside0 (kq ≤ kj22) ∧ Aside0 (Kd.V k98 98 w' w.heap.size (fun k_ => k_ ≠ gb345) v339 t338) ∧ Aside0 (w'.heap[gb345]? = some (.cells #[.string ((rd_T28 ((rd_T24 l1 x6_2).f0) x7_3).f0), (.slice A344_1 ((rd_T28 ((rd_T24 l1 x6_2).f0) x7_3).f1).length c344_1), .int .i64 ((rd_T28 ((rd_T24 l1 x6_2).f0) x7_3).f2), .int .i64 ((rd_T28 ((rd_T24 l1 x6_2).f0) x7_3).f3), .int .i64 ((rd_T28 ((rd_T24 l1 x6_2).f0) x7_3).f4), .bool ((rd_T28 ((rd_T24 l1 x6_2).f0) x7_3).f5), .int .i64 ((rd_T28 ((rd_T24 l1 x6_2).f0) x7_3).f6), .bool ((rd_T28 ((rd_T24 l1 x6_2).f0) x7_3).f7), .bool ((rd_T28 ((rd_T24 l1 x6_2).f0) x7_3).f8)] 28 (0, 0))) ∧ Aside0 (Below w.heap.size w w'))
                  case atStart => exact ⟨(0), z180_, H', ⟨Nat.le_refl _⟩, ⟨z151_⟩, ⟨z135_⟩, ⟨z92_⟩⟩
                  case round =>
                    clear H'; (try clear c1); (try clear q1); (try clear c2); (try clear p2); (try clear c3); (try clear p3); (try clear q3); (try clear hx3); (try clear c4); (try clear c8); (try clear c9); (try clear c9b0); (try clear c9b1); (try clear c9b2); (try clear q11); (try clear q14); (try clear c16); (try clear c17); (try clear c17b0); (try clear c18); (try clear c18b0); (try clear c19); (try clear c19b0); (try clear c20); (try clear c20b0); (try clear c21); (try clear c21b0); (try clear c27); (try clear c29); (try clear hcz25_0); (try clear hcz25_1); (try clear hcz25_2); (try clear hcz25_3); (try clear hcz25_4); (try clear hcz25_5); (try clear hcz25_6); (try clear hcz25_7); (try clear hcz25_8); (try clear hcz28_0); (try clear hcz28_1); (try clear hcz28_2); (try clear hcz28_3); (try clear hcz28_4); (try clear hcz28_5); (try clear hcz28_6); (try clear hcz28_7); (try clear hcz28_8); (try clear hfz25_0); (try clear hfz25_1); (try clear hfz25_2); (try clear hfz25_3); (try clear hfz25_4); (try clear hfz25_5); (try clear hfz25_6); (try clear hfz25_7); (try clear hfz25_8); (try clear hfz28_0); (try clear hfz28_1); (try clear hfz28_2); (try clear hfz28_3); (try clear hfz28_4); (try clear hfz28_5); (try clear hfz28_6); (try clear hfz28_7); (try clear hfz28_8); (try clear hx342_0); (try clear hx343_0); (try clear hx344_0); (try clear hx344_1); (try clear hx344_2); (try clear hx344_3); (try clear hx344_4); (try clear hx344_5); (try clear hx344_6); (try clear hx344_7); (try clear hx344_8); (try clear p2); (try clear p3); (try clear p342); (try clear p343); (try clear p344); (try clear q1); (try clear q11); (try clear q14); (try clear q3); (try clear q342); (try clear q343); (try clear q344)
                    obtain ⟨x11_5, rfl, HA, HK5, HO_5, BK345, HB⟩ := hrel
                    cases gk with
                    | zero => exact absurd HA.out (by simp [regletlaw15_LocateBack.l2])
                    | succ k5 =>
                      have H := HA.out
                      clear HA
                      simp only [regletlaw15_LocateBack.l2] at H
                      by_cases c30 : x11_5 < (((rd_T28 ((rd_T24 l1 x6_2).f0) x7_3).f0).size : Int)
                      · rw [if_pos c30] at H
                        have c30b0 : decide (x11_5 < (((rd_T28 ((rd_T24 l1 x6_2).f0) x7_3).f0).size : Int)) = true := decide_eq_true c30
                        clear c30
                        replace H := Option.bind_eq_some_iff.mp H
                        obtain ⟨⟨t348, t349, t350, t351⟩, A310, H⟩ := H
                        replace H : (if t351 = true then (if t348 = x6_2 then (if t349 = x7_3 then (if t350 = x11_5 then (regletlaw15_LocateBack.l2 k5 l1 t338 x6_2 x7_3 t346 (wrap64 (x11_5 + 1)) ((rd_T28 ((rd_T24 l1 x6_2).f0) x7_3).f0) ((rd_T28 ((rd_T24 l1 x6_2).f0) x7_3).f1) ((rd_T28 ((rd_T24 l1 x6_2).f0) x7_3).f2) ((rd_T28 ((rd_T24 l1 x6_2).f0) x7_3).f3) ((rd_T28 ((rd_T24 l1 x6_2).f0) x7_3).f4) ((rd_T28 ((rd_T24 l1 x6_2).f0) x7_3).f5) ((rd_T28 ((rd_T24 l1 x6_2).f0) x7_3).f6) ((rd_T28 ((rd_T24 l1 x6_2).f0) x7_3).f7) ((rd_T28 ((rd_T24 l1 x6_2).f0) x7_3).f8)) else (some false)) else (some false)) else (some false)) else (some false)) = some r := H
                        have A31 := Aside0.mk A310
                        clear A310
                        by_cases c32 : t351 = true
                        rotate_left
                        · replace c32 := Bool.eq_false_iff.mpr c32
                          subst c32
                          have H1 : (some false) = some r := by rw [if_neg (show ¬ (false = true) by decide)] at H; exact H
                          clear H
                          have H := H1
                          clear H1
                          obtain rfl := Option.some.inj H
                          have hcz44_0 : wr.cell? ⟨gb345, 0, none⟩ = some (.string ((rd_T28 ((rd_T24 l1 x6_2).f0) x7_3).f0)) := (blk_cell BK345.out 0).trans rfl
                          have hcz44_1 : wr.cell? ⟨gb345, 1, none⟩ = some (.slice A344_1 ((rd_T28 ((rd_T24 l1 x6_2).f0) x7_3).f1).length c344_1) := (blk_cell BK345.out 1).trans rfl
                          have hcz44_2 : wr.cell? ⟨gb345, 2, none⟩ = some (.int .i64 ((rd_T28 ((rd_T24 l1 x6_2).f0) x7_3).f2)) := (blk_cell BK345.out 2).trans rfl
                          have hcz44_3 : wr.cell? ⟨gb345, 3, none⟩ = some (.int .i64 ((rd_T28 ((rd_T24 l1 x6_2).f0) x7_3).f3)) := (blk_cell BK345.out 3).trans rfl
                          have hcz44_4 : wr.cell? ⟨gb345, 4, none⟩ = some (.int .i64 ((rd_T28 ((rd_T24 l1 x6_2).f0) x7_3).f4)) := (blk_cell BK345.out 4).trans rfl
                          have hcz44_5 : wr.cell? ⟨gb345, 5, none⟩ = some (.bool ((rd_T28 ((rd_T24 l1 x6_2).f0) x7_3).f5)) := (blk_cell BK345.out 5).trans rfl
                          have hcz44_6 : wr.cell? ⟨gb345, 6, none⟩ = some (.int .i64 ((rd_T28 ((rd_T24 l1 x6_2).f0) x7_3).f6)) := (blk_cell BK345.out 6).trans rfl
                          have hcz44_7 : wr.cell? ⟨gb345, 7, none⟩ = some (.bool ((rd_T28 ((rd_T24 l1 x6_2).f0) x7_3).f7)) := (blk_cell BK345.out 7).trans rfl
                          have hcz44_8 : wr.cell? ⟨gb345, 8, none⟩ = some (.bool ((rd_T28 ((rd_T24 l1 x6_2).f0) x7_3).f8)) := (blk_cell BK345.out 8).trans rfl
                          have hfz44_0 := blk_frozen BK345.out 0
                          have hfz44_1 := blk_frozen BK345.out 1
                          have hfz44_2 := blk_frozen BK345.out 2
                          have hfz44_3 := blk_frozen BK345.out 3
                          have hfz44_4 := blk_frozen BK345.out 4
                          have hfz44_5 := blk_frozen BK345.out 5
                          have hfz44_6 := blk_frozen BK345.out 6
                          have hfz44_7 := blk_frozen BK345.out 7
                          have hfz44_8 := blk_frozen BK345.out 8
                          go_wp2_with (first | (go_at_call 22; (with_reducible refine (locate_Line.calls k5 _ _ l1 (wrap64 (t346 + x11_5)) t348 t349 t350 false _ ?side1 ?side2 A31.out).mono ?_); (case side1 => exact z68_); (case side2 => exact HC1.out); rintro e w45 ⟨rfl, hb⟩; replace HO_5 := Aside0.mk (Kd.V_below z151_ hb); replace BK345 := Aside0.mk (blk_below (g := gb345) (o := .cells #[.string ((rd_T28 ((rd_T24 l1 x6_2).f0) x7_3).f0), .slice A344_1 ((rd_T28 ((rd_T24 l1 x6_2).f0) x7_3).f1).length c344_1, .int .i64 ((rd_T28 ((rd_T24 l1 x6_2).f0) x7_3).f2), .int .i64 ((rd_T28 ((rd_T24 l1 x6_2).f0) x7_3).f3), .int .i64 ((rd_T28 ((rd_T24 l1 x6_2).f0) x7_3).f4), .bool ((rd_T28 ((rd_T24 l1 x6_2).f0) x7_3).f5), .int .i64 ((rd_T28 ((rd_T24 l1 x6_2).f0) x7_3).f6), .bool ((rd_T28 ((rd_T24 l1 x6_2).f0) x7_3).f7), .bool ((rd_T28 ((rd_T24 l1 x6_2).f0) x7_3).f8)] 28 (0, 0)) z135_ hb); replace HB := Aside0.mk (below_step z92_ hb); (try clear hb); (try clear hb2); (try clear hk); (try clear hi)))
                          repeat (go_quiet (first | (go_at_call 22; (with_reducible refine (locate_Line.calls k5 _ _ l1 (wrap64 (t346 + x11_5)) t348 t349 t350 false _ ?side1 ?side2 A31.out).mono ?_); (case side1 => exact z68_); (case side2 => exact HC1.out); rintro e w45 ⟨rfl, hb⟩; replace HO_5 := Aside0.mk (Kd.V_below z151_ hb); replace BK345 := Aside0.mk (blk_below (g := gb345) (o := .cells #[.string ((rd_T28 ((rd_T24 l1 x6_2).f0) x7_3).f0), .slice A344_1 ((rd_T28 ((rd_T24 l1 x6_2).f0) x7_3).f1).length c344_1, .int .i64 ((rd_T28 ((rd_T24 l1 x6_2).f0) x7_3).f2), .int .i64 ((rd_T28 ((rd_T24 l1 x6_2).f0) x7_3).f3), .int .i64 ((rd_T28 ((rd_T24 l1 x6_2).f0) x7_3).f4), .bool ((rd_T28 ((rd_T24 l1 x6_2).f0) x7_3).f5), .int .i64 ((rd_T28 ((rd_T24 l1 x6_2).f0) x7_3).f6), .bool ((rd_T28 ((rd_T24 l1 x6_2).f0) x7_3).f7), .bool ((rd_T28 ((rd_T24 l1 x6_2).f0) x7_3).f8)] 28 (0, 0)) z135_ hb); replace HB := Aside0.mk (below_step z92_ hb); (try clear hb); (try clear hb2); (try clear hk); (try clear hi))); try go_wp2_with (first | (go_at_call 22; (with_reducible refine (locate_Line.calls k5 _ _ l1 (wrap64 (t346 + x11_5)) t348 t349 t350 false _ ?side1 ?side2 A31.out).mono ?_); (case side1 => exact z68_); (case side2 => exact HC1.out); rintro e w45 ⟨rfl, hb⟩; replace HO_5 := Aside0.mk (Kd.V_below z151_ hb); replace BK345 := Aside0.mk (blk_below (g := gb345) (o := .cells #[.string ((rd_T28 ((rd_T24 l1 x6_2).f0) x7_3).f0), .slice A344_1 ((rd_T28 ((rd_T24 l1 x6_2).f0) x7_3).f1).length c344_1, .int .i64 ((rd_T28 ((rd_T24 l1 x6_2).f0) x7_3).f2), .int .i64 ((rd_T28 ((rd_T24 l1 x6_2).f0) x7_3).f3), .int .i64 ((rd_T28 ((rd_T24 l1 x6_2).f0) x7_3).f4), .bool ((rd_T28 ((rd_T24 l1 x6_2).f0) x7_3).f5), .int .i64 ((rd_T28 ((rd_T24 l1 x6_2).f0) x7_3).f6), .bool ((rd_T28 ((rd_T24 l1 x6_2).f0) x7_3).f7), .bool ((rd_T28 ((rd_T24 l1 x6_2).f0) x7_3).f8)] 28 (0, 0)) z135_ hb); replace HB := Aside0.mk (below_step z92_ hb); (try clear hb); (try clear hb2); (try clear hk); (try clear hi))))
                          go_ret
                          exact ⟨z155_, z92_⟩
                        subst c32
                        have H1 : (if t348 = x6_2 then (if t349 = x7_3 then (if t350 = x11_5 then (regletlaw15_LocateBack.l2 k5 l1 t338 x6_2 x7_3 t346 (wrap64 (x11_5 + 1)) ((rd_T28 ((rd_T24 l1 x6_2).f0) x7_3).f0) ((rd_T28 ((rd_T24 l1 x6_2).f0) x7_3).f1) ((rd_T28 ((rd_T24 l1 x6_2).f0) x7_3).f2) ((rd_T28 ((rd_T24 l1 x6_2).f0) x7_3).f3) ((rd_T28 ((rd_T24 l1 x6_2).f0) x7_3).f4) ((rd_T28 ((rd_T24 l1 x6_2).f0) x7_3).f5) ((rd_T28 ((rd_T24 l1 x6_2).f0) x7_3).f6) ((rd_T28 ((rd_T24 l1 x6_2).f0) x7_3).f7) ((rd_T28 ((rd_T24 l1 x6_2).f0) x7_3).f8)) else (some false)) else (some false)) else (some false)) = some r := by rw [if_pos rfl] at H; exact H
                        clear H
                        have H := H1
                        clear H1
                        by_cases c33 : t348 = x6_2
                        rotate_left
                        · rw [if_neg c33] at H
                          have c33b0 : (t348 == x6_2) = false := beq_eq_false_iff_ne.mpr c33
                          have c33b1 : (t348 != x6_2) = true := bne_iff_ne.mpr c33
                          obtain rfl := Option.some.inj H
                          have hcz42_0 : wr.cell? ⟨gb345, 0, none⟩ = some (.string ((rd_T28 ((rd_T24 l1 x6_2).f0) x7_3).f0)) := (blk_cell BK345.out 0).trans rfl
                          have hcz42_1 : wr.cell? ⟨gb345, 1, none⟩ = some (.slice A344_1 ((rd_T28 ((rd_T24 l1 x6_2).f0) x7_3).f1).length c344_1) := (blk_cell BK345.out 1).trans rfl
                          have hcz42_2 : wr.cell? ⟨gb345, 2, none⟩ = some (.int .i64 ((rd_T28 ((rd_T24 l1 x6_2).f0) x7_3).f2)) := (blk_cell BK345.out 2).trans rfl
                          have hcz42_3 : wr.cell? ⟨gb345, 3, none⟩ = some (.int .i64 ((rd_T28 ((rd_T24 l1 x6_2).f0) x7_3).f3)) := (blk_cell BK345.out 3).trans rfl
                          have hcz42_4 : wr.cell? ⟨gb345, 4, none⟩ = some (.int .i64 ((rd_T28 ((rd_T24 l1 x6_2).f0) x7_3).f4)) := (blk_cell BK345.out 4).trans rfl
                          have hcz42_5 : wr.cell? ⟨gb345, 5, none⟩ = some (.bool ((rd_T28 ((rd_T24 l1 x6_2).f0) x7_3).f5)) := (blk_cell BK345.out 5).trans rfl
                          have hcz42_6 : wr.cell? ⟨gb345, 6, none⟩ = some (.int .i64 ((rd_T28 ((rd_T24 l1 x6_2).f0) x7_3).f6)) := (blk_cell BK345.out 6).trans rfl
                          have hcz42_7 : wr.cell? ⟨gb345, 7, none⟩ = some (.bool ((rd_T28 ((rd_T24 l1 x6_2).f0) x7_3).f7)) := (blk_cell BK345.out 7).trans rfl
                          have hcz42_8 : wr.cell? ⟨gb345, 8, none⟩ = some (.bool ((rd_T28 ((rd_T24 l1 x6_2).f0) x7_3).f8)) := (blk_cell BK345.out 8).trans rfl
                          have hfz42_0 := blk_frozen BK345.out 0
                          have hfz42_1 := blk_frozen BK345.out 1
                          have hfz42_2 := blk_frozen BK345.out 2
                          have hfz42_3 := blk_frozen BK345.out 3
                          have hfz42_4 := blk_frozen BK345.out 4
                          have hfz42_5 := blk_frozen BK345.out 5
                          have hfz42_6 := blk_frozen BK345.out 6
                          have hfz42_7 := blk_frozen BK345.out 7
                          have hfz42_8 := blk_frozen BK345.out 8
                          go_wp2_with (first | (go_at_call 22; (with_reducible refine (locate_Line.calls k5 _ _ l1 (wrap64 (t346 + x11_5)) t348 t349 t350 true _ ?side1 ?side2 A31.out).mono ?_); (case side1 => exact z68_); (case side2 => exact HC1.out); rintro e w43 ⟨rfl, hb⟩; replace HO_5 := Aside0.mk (Kd.V_below z151_ hb); replace BK345 := Aside0.mk (blk_below (g := gb345) (o := .cells #[.string ((rd_T28 ((rd_T24 l1 x6_2).f0) x7_3).f0), .slice A344_1 ((rd_T28 ((rd_T24 l1 x6_2).f0) x7_3).f1).length c344_1, .int .i64 ((rd_T28 ((rd_T24 l1 x6_2).f0) x7_3).f2), .int .i64 ((rd_T28 ((rd_T24 l1 x6_2).f0) x7_3).f3), .int .i64 ((rd_T28 ((rd_T24 l1 x6_2).f0) x7_3).f4), .bool ((rd_T28 ((rd_T24 l1 x6_2).f0) x7_3).f5), .int .i64 ((rd_T28 ((rd_T24 l1 x6_2).f0) x7_3).f6), .bool ((rd_T28 ((rd_T24 l1 x6_2).f0) x7_3).f7), .bool ((rd_T28 ((rd_T24 l1 x6_2).f0) x7_3).f8)] 28 (0, 0)) z135_ hb); replace HB := Aside0.mk (below_step z92_ hb); (try clear hb); (try clear hb2); (try clear hk); (try clear hi)))
                          repeat (go_quiet (first | (go_at_call 22; (with_reducible refine (locate_Line.calls k5 _ _ l1 (wrap64 (t346 + x11_5)) t348 t349 t350 true _ ?side1 ?side2 A31.out).mono ?_); (case side1 => exact z68_); (case side2 => exact HC1.out); rintro e w43 ⟨rfl, hb⟩; replace HO_5 := Aside0.mk (Kd.V_below z151_ hb); replace BK345 := Aside0.mk (blk_below (g := gb345) (o := .cells #[.string ((rd_T28 ((rd_T24 l1 x6_2).f0) x7_3).f0), .slice A344_1 ((rd_T28 ((rd_T24 l1 x6_2).f0) x7_3).f1).length c344_1, .int .i64 ((rd_T28 ((rd_T24 l1 x6_2).f0) x7_3).f2), .int .i64 ((rd_T28 ((rd_T24 l1 x6_2).f0) x7_3).f3), .int .i64 ((rd_T28 ((rd_T24 l1 x6_2).f0) x7_3).f4), .bool ((rd_T28 ((rd_T24 l1 x6_2).f0) x7_3).f5), .int .i64 ((rd_T28 ((rd_T24 l1 x6_2).f0) x7_3).f6), .bool ((rd_T28 ((rd_T24 l1 x6_2).f0) x7_3).f7), .bool ((rd_T28 ((rd_T24 l1 x6_2).f0) x7_3).f8)] 28 (0, 0)) z135_ hb); replace HB := Aside0.mk (below_step z92_ hb); (try clear hb); (try clear hb2); (try clear hk); (try clear hi))); try go_wp2_with (first | (go_at_call 22; (with_reducible refine (locate_Line.calls k5 _ _ l1 (wrap64 (t346 + x11_5)) t348 t349 t350 true _ ?side1 ?side2 A31.out).mono ?_); (case side1 => exact z68_); (case side2 => exact HC1.out); rintro e w43 ⟨rfl, hb⟩; replace HO_5 := Aside0.mk (Kd.V_below z151_ hb); replace BK345 := Aside0.mk (blk_below (g := gb345) (o := .cells #[.string ((rd_T28 ((rd_T24 l1 x6_2).f0) x7_3).f0), .slice A344_1 ((rd_T28 ((rd_T24 l1 x6_2).f0) x7_3).f1).length c344_1, .int .i64 ((rd_T28 ((rd_T24 l1 x6_2).f0) x7_3).f2), .int .i64 ((rd_T28 ((rd_T24 l1 x6_2).f0) x7_3).f3), .int .i64 ((rd_T28 ((rd_T24 l1 x6_2).f0) x7_3).f4), .bool ((rd_T28 ((rd_T24 l1 x6_2).f0) x7_3).f5), .int .i64 ((rd_T28 ((rd_T24 l1 x6_2).f0) x7_3).f6), .bool ((rd_T28 ((rd_T24 l1 x6_2).f0) x7_3).f7), .bool ((rd_T28 ((rd_T24 l1 x6_2).f0) x7_3).f8)] 28 (0, 0)) z135_ hb); replace HB := Aside0.mk (below_step z92_ hb); (try clear hb); (try clear hb2); (try clear hk); (try clear hi))))
                          go_ret
                          exact ⟨z155_, z92_⟩
                        rw [if_pos c33] at H
                        have c33b0 : (t348 == x6_2) = true := beq_iff_eq.mpr c33
                        have c33b1 : (t348 != x6_2) = false := bne_eq_false_iff_eq.mpr c33
                        clear c33
                        by_cases c34 : t349 = x7_3
                        rotate_left
                        · rw [if_neg c34] at H
                          have c34b0 : (t349 == x7_3) = false := beq_eq_false_iff_ne.mpr c34
                          have c34b1 : (t349 != x7_3) = true := bne_iff_ne.mpr c34
                          obtain rfl := Option.some.inj H
                          have hcz40_0 : wr.cell? ⟨gb345, 0, none⟩ = some (.string ((rd_T28 ((rd_T24 l1 x6_2).f0) x7_3).f0)) := (blk_cell BK345.out 0).trans rfl
                          have hcz40_1 : wr.cell? ⟨gb345, 1, none⟩ = some (.slice A344_1 ((rd_T28 ((rd_T24 l1 x6_2).f0) x7_3).f1).length c344_1) := (blk_cell BK345.out 1).trans rfl
                          have hcz40_2 : wr.cell? ⟨gb345, 2, none⟩ = some (.int .i64 ((rd_T28 ((rd_T24 l1 x6_2).f0) x7_3).f2)) := (blk_cell BK345.out 2).trans rfl
                          have hcz40_3 : wr.cell? ⟨gb345, 3, none⟩ = some (.int .i64 ((rd_T28 ((rd_T24 l1 x6_2).f0) x7_3).f3)) := (blk_cell BK345.out 3).trans rfl
                          have hcz40_4 : wr.cell? ⟨gb345, 4, none⟩ = some (.int .i64 ((rd_T28 ((rd_T24 l1 x6_2).f0) x7_3).f4)) := (blk_cell BK345.out 4).trans rfl
                          have hcz40_5 : wr.cell? ⟨gb345, 5, none⟩ = some (.bool ((rd_T28 ((rd_T24 l1 x6_2).f0) x7_3).f5)) := (blk_cell BK345.out 5).trans rfl
                          have hcz40_6 : wr.cell? ⟨gb345, 6, none⟩ = some (.int .i64 ((rd_T28 ((rd_T24 l1 x6_2).f0) x7_3).f6)) := (blk_cell BK345.out 6).trans rfl
                          have hcz40_7 : wr.cell? ⟨gb345, 7, none⟩ = some (.bool ((rd_T28 ((rd_T24 l1 x6_2).f0) x7_3).f7)) := (blk_cell BK345.out 7).trans rfl
                          have hcz40_8 : wr.cell? ⟨gb345, 8, none⟩ = some (.bool ((rd_T28 ((rd_T24 l1 x6_2).f0) x7_3).f8)) := (blk_cell BK345.out 8).trans rfl
                          have hfz40_0 := blk_frozen BK345.out 0
                          have hfz40_1 := blk_frozen BK345.out 1
                          have hfz40_2 := blk_frozen BK345.out 2
                          have hfz40_3 := blk_frozen BK345.out 3
                          have hfz40_4 := blk_frozen BK345.out 4
                          have hfz40_5 := blk_frozen BK345.out 5
                          have hfz40_6 := blk_frozen BK345.out 6
                          have hfz40_7 := blk_frozen BK345.out 7
                          have hfz40_8 := blk_frozen BK345.out 8
                          go_wp2_with (first | (go_at_call 22; (with_reducible refine (locate_Line.calls k5 _ _ l1 (wrap64 (t346 + x11_5)) t348 t349 t350 true _ ?side1 ?side2 A31.out).mono ?_); (case side1 => exact z68_); (case side2 => exact HC1.out); rintro e w41 ⟨rfl, hb⟩; replace HO_5 := Aside0.mk (Kd.V_below z151_ hb); replace BK345 := Aside0.mk (blk_below (g := gb345) (o := .cells #[.string ((rd_T28 ((rd_T24 l1 x6_2).f0) x7_3).f0), .slice A344_1 ((rd_T28 ((rd_T24 l1 x6_2).f0) x7_3).f1).length c344_1, .int .i64 ((rd_T28 ((rd_T24 l1 x6_2).f0) x7_3).f2), .int .i64 ((rd_T28 ((rd_T24 l1 x6_2).f0) x7_3).f3), .int .i64 ((rd_T28 ((rd_T24 l1 x6_2).f0) x7_3).f4), .bool ((rd_T28 ((rd_T24 l1 x6_2).f0) x7_3).f5), .int .i64 ((rd_T28 ((rd_T24 l1 x6_2).f0) x7_3).f6), .bool ((rd_T28 ((rd_T24 l1 x6_2).f0) x7_3).f7), .bool ((rd_T28 ((rd_T24 l1 x6_2).f0) x7_3).f8)] 28 (0, 0)) z135_ hb); replace HB := Aside0.mk (below_step z92_ hb); (try clear hb); (try clear hb2); (try clear hk); (try clear hi)))
                          repeat (go_quiet (first | (go_at_call 22; (with_reducible refine (locate_Line.calls k5 _ _ l1 (wrap64 (t346 + x11_5)) t348 t349 t350 true _ ?side1 ?side2 A31.out).mono ?_); (case side1 => exact z68_); (case side2 => exact HC1.out); rintro e w41 ⟨rfl, hb⟩; replace HO_5 := Aside0.mk (Kd.V_below z151_ hb); replace BK345 := Aside0.mk (blk_below (g := gb345) (o := .cells #[.string ((rd_T28 ((rd_T24 l1 x6_2).f0) x7_3).f0), .slice A344_1 ((rd_T28 ((rd_T24 l1 x6_2).f0) x7_3).f1).length c344_1, .int .i64 ((rd_T28 ((rd_T24 l1 x6_2).f0) x7_3).f2), .int .i64 ((rd_T28 ((rd_T24 l1 x6_2).f0) x7_3).f3), .int .i64 ((rd_T28 ((rd_T24 l1 x6_2).f0) x7_3).f4), .bool ((rd_T28 ((rd_T24 l1 x6_2).f0) x7_3).f5), .int .i64 ((rd_T28 ((rd_T24 l1 x6_2).f0) x7_3).f6), .bool ((rd_T28 ((rd_T24 l1 x6_2).f0) x7_3).f7), .bool ((rd_T28 ((rd_T24 l1 x6_2).f0) x7_3).f8)] 28 (0, 0)) z135_ hb); replace HB := Aside0.mk (below_step z92_ hb); (try clear hb); (try clear hb2); (try clear hk); (try clear hi))); try go_wp2_with (first | (go_at_call 22; (with_reducible refine (locate_Line.calls k5 _ _ l1 (wrap64 (t346 + x11_5)) t348 t349 t350 true _ ?side1 ?side2 A31.out).mono ?_); (case side1 => exact z68_); (case side2 => exact HC1.out); rintro e w41 ⟨rfl, hb⟩; replace HO_5 := Aside0.mk (Kd.V_below z151_ hb); replace BK345 := Aside0.mk (blk_below (g := gb345) (o := .cells #[.string ((rd_T28 ((rd_T24 l1 x6_2).f0) x7_3).f0), .slice A344_1 ((rd_T28 ((rd_T24 l1 x6_2).f0) x7_3).f1).length c344_1, .int .i64 ((rd_T28 ((rd_T24 l1 x6_2).f0) x7_3).f2), .int .i64 ((rd_T28 ((rd_T24 l1 x6_2).f0) x7_3).f3), .int .i64 ((rd_T28 ((rd_T24 l1 x6_2).f0) x7_3).f4), .bool ((rd_T28 ((rd_T24 l1 x6_2).f0) x7_3).f5), .int .i64 ((rd_T28 ((rd_T24 l1 x6_2).f0) x7_3).f6), .bool ((rd_T28 ((rd_T24 l1 x6_2).f0) x7_3).f7), .bool ((rd_T28 ((rd_T24 l1 x6_2).f0) x7_3).f8)] 28 (0, 0)) z135_ hb); replace HB := Aside0.mk (below_step z92_ hb); (try clear hb); (try clear hb2); (try clear hk); (try clear hi))))
                          go_ret
                          exact ⟨z155_, z92_⟩
                        rw [if_pos c34] at H
                        have c34b0 : (t349 == x7_3) = true := beq_iff_eq.mpr c34
                        have c34b1 : (t349 != x7_3) = false := bne_eq_false_iff_eq.mpr c34
                        clear c34
                        by_cases c35 : t350 = x11_5
                        rotate_left
                        · rw [if_neg c35] at H
                          have c35b0 : (t350 == x11_5) = false := beq_eq_false_iff_ne.mpr c35
                          have c35b1 : (t350 != x11_5) = true := bne_iff_ne.mpr c35
                          obtain rfl := Option.some.inj H
                          have hcz38_0 : wr.cell? ⟨gb345, 0, none⟩ = some (.string ((rd_T28 ((rd_T24 l1 x6_2).f0) x7_3).f0)) := (blk_cell BK345.out 0).trans rfl
                          have hcz38_1 : wr.cell? ⟨gb345, 1, none⟩ = some (.slice A344_1 ((rd_T28 ((rd_T24 l1 x6_2).f0) x7_3).f1).length c344_1) := (blk_cell BK345.out 1).trans rfl
                          have hcz38_2 : wr.cell? ⟨gb345, 2, none⟩ = some (.int .i64 ((rd_T28 ((rd_T24 l1 x6_2).f0) x7_3).f2)) := (blk_cell BK345.out 2).trans rfl
                          have hcz38_3 : wr.cell? ⟨gb345, 3, none⟩ = some (.int .i64 ((rd_T28 ((rd_T24 l1 x6_2).f0) x7_3).f3)) := (blk_cell BK345.out 3).trans rfl
                          have hcz38_4 : wr.cell? ⟨gb345, 4, none⟩ = some (.int .i64 ((rd_T28 ((rd_T24 l1 x6_2).f0) x7_3).f4)) := (blk_cell BK345.out 4).trans rfl
                          have hcz38_5 : wr.cell? ⟨gb345, 5, none⟩ = some (.bool ((rd_T28 ((rd_T24 l1 x6_2).f0) x7_3).f5)) := (blk_cell BK345.out 5).trans rfl
                          have hcz38_6 : wr.cell? ⟨gb345, 6, none⟩ = some (.int .i64 ((rd_T28 ((rd_T24 l1 x6_2).f0) x7_3).f6)) := (blk_cell BK345.out 6).trans rfl
                          have hcz38_7 : wr.cell? ⟨gb345, 7, none⟩ = some (.bool ((rd_T28 ((rd_T24 l1 x6_2).f0) x7_3).f7)) := (blk_cell BK345.out 7).trans rfl
                          have hcz38_8 : wr.cell? ⟨gb345, 8, none⟩ = some (.bool ((rd_T28 ((rd_T24 l1 x6_2).f0) x7_3).f8)) := (blk_cell BK345.out 8).trans rfl
                          have hfz38_0 := blk_frozen BK345.out 0
                          have hfz38_1 := blk_frozen BK345.out 1
                          have hfz38_2 := blk_frozen BK345.out 2
                          have hfz38_3 := blk_frozen BK345.out 3
                          have hfz38_4 := blk_frozen BK345.out 4
                          have hfz38_5 := blk_frozen BK345.out 5
                          have hfz38_6 := blk_frozen BK345.out 6
                          have hfz38_7 := blk_frozen BK345.out 7
                          have hfz38_8 := blk_frozen BK345.out 8
                          go_wp2_with (first | (go_at_call 22; (with_reducible refine (locate_Line.calls k5 _ _ l1 (wrap64 (t346 + x11_5)) t348 t349 t350 true _ ?side1 ?side2 A31.out).mono ?_); (case side1 => exact z68_); (case side2 => exact HC1.out); rintro e w39 ⟨rfl, hb⟩; replace HO_5 := Aside0.mk (Kd.V_below z151_ hb); replace BK345 := Aside0.mk (blk_below (g := gb345) (o := .cells #[.string ((rd_T28 ((rd_T24 l1 x6_2).f0) x7_3).f0), .slice A344_1 ((rd_T28 ((rd_T24 l1 x6_2).f0) x7_3).f1).length c344_1, .int .i64 ((rd_T28 ((rd_T24 l1 x6_2).f0) x7_3).f2), .int .i64 ((rd_T28 ((rd_T24 l1 x6_2).f0) x7_3).f3), .int .i64 ((rd_T28 ((rd_T24 l1 x6_2).f0) x7_3).f4), .bool ((rd_T28 ((rd_T24 l1 x6_2).f0) x7_3).f5), .int .i64 ((rd_T28 ((rd_T24 l1 x6_2).f0) x7_3).f6), .bool ((rd_T28 ((rd_T24 l1 x6_2).f0) x7_3).f7), .bool ((rd_T28 ((rd_T24 l1 x6_2).f0) x7_3).f8)] 28 (0, 0)) z135_ hb); replace HB := Aside0.mk (below_step z92_ hb); (try clear hb); (try clear hb2); (try clear hk); (try clear hi)))
                          repeat (go_quiet (first | (go_at_call 22; (with_reducible refine (locate_Line.calls k5 _ _ l1 (wrap64 (t346 + x11_5)) t348 t349 t350 true _ ?side1 ?side2 A31.out).mono ?_); (case side1 => exact z68_); (case side2 => exact HC1.out); rintro e w39 ⟨rfl, hb⟩; replace HO_5 := Aside0.mk (Kd.V_below z151_ hb); replace BK345 := Aside0.mk (blk_below (g := gb345) (o := .cells #[.string ((rd_T28 ((rd_T24 l1 x6_2).f0) x7_3).f0), .slice A344_1 ((rd_T28 ((rd_T24 l1 x6_2).f0) x7_3).f1).length c344_1, .int .i64 ((rd_T28 ((rd_T24 l1 x6_2).f0) x7_3).f2), .int .i64 ((rd_T28 ((rd_T24 l1 x6_2).f0) x7_3).f3), .int .i64 ((rd_T28 ((rd_T24 l1 x6_2).f0) x7_3).f4), .bool ((rd_T28 ((rd_T24 l1 x6_2).f0) x7_3).f5), .int .i64 ((rd_T28 ((rd_T24 l1 x6_2).f0) x7_3).f6), .bool ((rd_T28 ((rd_T24 l1 x6_2).f0) x7_3).f7), .bool ((rd_T28 ((rd_T24 l1 x6_2).f0) x7_3).f8)] 28 (0, 0)) z135_ hb); replace HB := Aside0.mk (below_step z92_ hb); (try clear hb); (try clear hb2); (try clear hk); (try clear hi))); try go_wp2_with (first | (go_at_call 22; (with_reducible refine (locate_Line.calls k5 _ _ l1 (wrap64 (t346 + x11_5)) t348 t349 t350 true _ ?side1 ?side2 A31.out).mono ?_); (case side1 => exact z68_); (case side2 => exact HC1.out); rintro e w39 ⟨rfl, hb⟩; replace HO_5 := Aside0.mk (Kd.V_below z151_ hb); replace BK345 := Aside0.mk (blk_below (g := gb345) (o := .cells #[.string ((rd_T28 ((rd_T24 l1 x6_2).f0) x7_3).f0), .slice A344_1 ((rd_T28 ((rd_T24 l1 x6_2).f0) x7_3).f1).length c344_1, .int .i64 ((rd_T28 ((rd_T24 l1 x6_2).f0) x7_3).f2), .int .i64 ((rd_T28 ((rd_T24 l1 x6_2).f0) x7_3).f3), .int .i64 ((rd_T28 ((rd_T24 l1 x6_2).f0) x7_3).f4), .bool ((rd_T28 ((rd_T24 l1 x6_2).f0) x7_3).f5), .int .i64 ((rd_T28 ((rd_T24 l1 x6_2).f0) x7_3).f6), .bool ((rd_T28 ((rd_T24 l1 x6_2).f0) x7_3).f7), .bool ((rd_T28 ((rd_T24 l1 x6_2).f0) x7_3).f8)] 28 (0, 0)) z135_ hb); replace HB := Aside0.mk (below_step z92_ hb); (try clear hb); (try clear hb2); (try clear hk); (try clear hi))))
                          go_ret
                          exact ⟨z155_, z92_⟩
                        rw [if_pos c35] at H
                        have c35b0 : (t350 == x11_5) = true := beq_iff_eq.mpr c35
                        have c35b1 : (t350 != x11_5) = false := bne_eq_false_iff_eq.mpr c35
                        clear c35
                        have H' := Aside0.mk H
                        clear H
                        have hcz36_0 : wr.cell? ⟨gb345, 0, none⟩ = some (.string ((rd_T28 ((rd_T24 l1 x6_2).f0) x7_3).f0)) := (blk_cell BK345.out 0).trans rfl
                        have hcz36_1 : wr.cell? ⟨gb345, 1, none⟩ = some (.slice A344_1 ((rd_T28 ((rd_T24 l1 x6_2).f0) x7_3).f1).length c344_1) := (blk_cell BK345.out 1).trans rfl
                        have hcz36_2 : wr.cell? ⟨gb345, 2, none⟩ = some (.int .i64 ((rd_T28 ((rd_T24 l1 x6_2).f0) x7_3).f2)) := (blk_cell BK345.out 2).trans rfl
                        have hcz36_3 : wr.cell? ⟨gb345, 3, none⟩ = some (.int .i64 ((rd_T28 ((rd_T24 l1 x6_2).f0) x7_3).f3)) := (blk_cell BK345.out 3).trans rfl
                        have hcz36_4 : wr.cell? ⟨gb345, 4, none⟩ = some (.int .i64 ((rd_T28 ((rd_T24 l1 x6_2).f0) x7_3).f4)) := (blk_cell BK345.out 4).trans rfl
                        have hcz36_5 : wr.cell? ⟨gb345, 5, none⟩ = some (.bool ((rd_T28 ((rd_T24 l1 x6_2).f0) x7_3).f5)) := (blk_cell BK345.out 5).trans rfl
                        have hcz36_6 : wr.cell? ⟨gb345, 6, none⟩ = some (.int .i64 ((rd_T28 ((rd_T24 l1 x6_2).f0) x7_3).f6)) := (blk_cell BK345.out 6).trans rfl
                        have hcz36_7 : wr.cell? ⟨gb345, 7, none⟩ = some (.bool ((rd_T28 ((rd_T24 l1 x6_2).f0) x7_3).f7)) := (blk_cell BK345.out 7).trans rfl
                        have hcz36_8 : wr.cell? ⟨gb345, 8, none⟩ = some (.bool ((rd_T28 ((rd_T24 l1 x6_2).f0) x7_3).f8)) := (blk_cell BK345.out 8).trans rfl
                        have hfz36_0 := blk_frozen BK345.out 0
                        have hfz36_1 := blk_frozen BK345.out 1
                        have hfz36_2 := blk_frozen BK345.out 2
                        have hfz36_3 := blk_frozen BK345.out 3
                        have hfz36_4 := blk_frozen BK345.out 4
                        have hfz36_5 := blk_frozen BK345.out 5
                        have hfz36_6 := blk_frozen BK345.out 6
                        have hfz36_7 := blk_frozen BK345.out 7
                        have hfz36_8 := blk_frozen BK345.out 8
                        go_wp2_with (first | (go_at_call 22; (with_reducible refine (locate_Line.calls k5 _ _ l1 (wrap64 (t346 + x11_5)) t348 t349 t350 true _ ?side1 ?side2 A31.out).mono ?_); (case side1 => exact z68_); (case side2 => exact HC1.out); rintro e w37 ⟨rfl, hb⟩; replace HO_5 := Aside0.mk (Kd.V_below z151_ hb); replace BK345 := Aside0.mk (blk_below (g := gb345) (o := .cells #[.string ((rd_T28 ((rd_T24 l1 x6_2).f0) x7_3).f0), .slice A344_1 ((rd_T28 ((rd_T24 l1 x6_2).f0) x7_3).f1).length c344_1, .int .i64 ((rd_T28 ((rd_T24 l1 x6_2).f0) x7_3).f2), .int .i64 ((rd_T28 ((rd_T24 l1 x6_2).f0) x7_3).f3), .int .i64 ((rd_T28 ((rd_T24 l1 x6_2).f0) x7_3).f4), .bool ((rd_T28 ((rd_T24 l1 x6_2).f0) x7_3).f5), .int .i64 ((rd_T28 ((rd_T24 l1 x6_2).f0) x7_3).f6), .bool ((rd_T28 ((rd_T24 l1 x6_2).f0) x7_3).f7), .bool ((rd_T28 ((rd_T24 l1 x6_2).f0) x7_3).f8)] 28 (0, 0)) z135_ hb); replace HB := Aside0.mk (below_step z92_ hb); (try clear hb); (try clear hb2); (try clear hk); (try clear hi)))
                        repeat (go_quiet (first | (go_at_call 22; (with_reducible refine (locate_Line.calls k5 _ _ l1 (wrap64 (t346 + x11_5)) t348 t349 t350 true _ ?side1 ?side2 A31.out).mono ?_); (case side1 => exact z68_); (case side2 => exact HC1.out); rintro e w37 ⟨rfl, hb⟩; replace HO_5 := Aside0.mk (Kd.V_below z151_ hb); replace BK345 := Aside0.mk (blk_below (g := gb345) (o := .cells #[.string ((rd_T28 ((rd_T24 l1 x6_2).f0) x7_3).f0), .slice A344_1 ((rd_T28 ((rd_T24 l1 x6_2).f0) x7_3).f1).length c344_1, .int .i64 ((rd_T28 ((rd_T24 l1 x6_2).f0) x7_3).f2), .int .i64 ((rd_T28 ((rd_T24 l1 x6_2).f0) x7_3).f3), .int .i64 ((rd_T28 ((rd_T24 l1 x6_2).f0) x7_3).f4), .bool ((rd_T28 ((rd_T24 l1 x6_2).f0) x7_3).f5), .int .i64 ((rd_T28 ((rd_T24 l1 x6_2).f0) x7_3).f6), .bool ((rd_T28 ((rd_T24 l1 x6_2).f0) x7_3).f7), .bool ((rd_T28 ((rd_T24 l1 x6_2).f0) x7_3).f8)] 28 (0, 0)) z135_ hb); replace HB := Aside0.mk (below_step z92_ hb); (try clear hb); (try clear hb2); (try clear hk); (try clear hi))); try go_wp2_with (first | (go_at_call 22; (with_reducible refine (locate_Line.calls k5 _ _ l1 (wrap64 (t346 + x11_5)) t348 t349 t350 true _ ?side1 ?side2 A31.out).mono ?_); (case side1 => exact z68_); (case side2 => exact HC1.out); rintro e w37 ⟨rfl, hb⟩; replace HO_5 := Aside0.mk (Kd.V_below z151_ hb); replace BK345 := Aside0.mk (blk_below (g := gb345) (o := .cells #[.string ((rd_T28 ((rd_T24 l1 x6_2).f0) x7_3).f0), .slice A344_1 ((rd_T28 ((rd_T24 l1 x6_2).f0) x7_3).f1).length c344_1, .int .i64 ((rd_T28 ((rd_T24 l1 x6_2).f0) x7_3).f2), .int .i64 ((rd_T28 ((rd_T24 l1 x6_2).f0) x7_3).f3), .int .i64 ((rd_T28 ((rd_T24 l1 x6_2).f0) x7_3).f4), .bool ((rd_T28 ((rd_T24 l1 x6_2).f0) x7_3).f5), .int .i64 ((rd_T28 ((rd_T24 l1 x6_2).f0) x7_3).f6), .bool ((rd_T28 ((rd_T24 l1 x6_2).f0) x7_3).f7), .bool ((rd_T28 ((rd_T24 l1 x6_2).f0) x7_3).f8)] 28 (0, 0)) z135_ hb); replace HB := Aside0.mk (below_step z92_ hb); (try clear hb); (try clear hb2); (try clear hk); (try clear hi))))
                        go_roundg k5
                        case measure => have := HJ5.out; have := HK2.out; have := HK3.out; have := HJ22.out; have := HK5.out; omega
                        case rel => exact ⟨(wrap64 (x11_5 + 1)), z180_, H', ⟨by have := HJ5.out; have := HK2.out; have := HK3.out; have := HJ22.out; have := HK5.out; omega⟩, ⟨z151_⟩, ⟨z135_⟩, ⟨z92_⟩⟩
                      rw [if_neg c30] at H
                      have c30b0 : decide (x11_5 < (((rd_T28 ((rd_T24 l1 x6_2).f0) x7_3).f0).size : Int)) = false := decide_eq_false c30
                      clear c30
                      replace H := Option.bind_eq_some_iff.mp H
                      obtain ⟨t352, A460, H⟩ := H
                      replace H : (regletlaw15_LocateBack.l3 k5 l1 t338 x6_2 x7_3 t346 t352 0) = some r := H
                      have A46 := Aside0.mk A460
                      clear A460
                      have H' := Aside0.mk H
                      clear H
                      have hcz47_0 : wr.cell? ⟨gb345, 0, none⟩ = some (.string ((rd_T28 ((rd_T24 l1 x6_2).f0) x7_3).f0)) := (blk_cell BK345.out 0).trans rfl
                      have hcz47_1 : wr.cell? ⟨gb345, 1, none⟩ = some (.slice A344_1 ((rd_T28 ((rd_T24 l1 x6_2).f0) x7_3).f1).length c344_1) := (blk_cell BK345.out 1).trans rfl
                      have hcz47_2 : wr.cell? ⟨gb345, 2, none⟩ = some (.int .i64 ((rd_T28 ((rd_T24 l1 x6_2).f0) x7_3).f2)) := (blk_cell BK345.out 2).trans rfl
                      have hcz47_3 : wr.cell? ⟨gb345, 3, none⟩ = some (.int .i64 ((rd_T28 ((rd_T24 l1 x6_2).f0) x7_3).f3)) := (blk_cell BK345.out 3).trans rfl
                      have hcz47_4 : wr.cell? ⟨gb345, 4, none⟩ = some (.int .i64 ((rd_T28 ((rd_T24 l1 x6_2).f0) x7_3).f4)) := (blk_cell BK345.out 4).trans rfl
                      have hcz47_5 : wr.cell? ⟨gb345, 5, none⟩ = some (.bool ((rd_T28 ((rd_T24 l1 x6_2).f0) x7_3).f5)) := (blk_cell BK345.out 5).trans rfl
                      have hcz47_6 : wr.cell? ⟨gb345, 6, none⟩ = some (.int .i64 ((rd_T28 ((rd_T24 l1 x6_2).f0) x7_3).f6)) := (blk_cell BK345.out 6).trans rfl
                      have hcz47_7 : wr.cell? ⟨gb345, 7, none⟩ = some (.bool ((rd_T28 ((rd_T24 l1 x6_2).f0) x7_3).f7)) := (blk_cell BK345.out 7).trans rfl
                      have hcz47_8 : wr.cell? ⟨gb345, 8, none⟩ = some (.bool ((rd_T28 ((rd_T24 l1 x6_2).f0) x7_3).f8)) := (blk_cell BK345.out 8).trans rfl
                      have hfz47_0 := blk_frozen BK345.out 0
                      have hfz47_1 := blk_frozen BK345.out 1
                      have hfz47_2 := blk_frozen BK345.out 2
                      have hfz47_3 := blk_frozen BK345.out 3
                      have hfz47_4 := blk_frozen BK345.out 4
                      have hfz47_5 := blk_frozen BK345.out 5
                      have hfz47_6 := blk_frozen BK345.out 6
                      have hfz47_7 := blk_frozen BK345.out 7
                      have hfz47_8 := blk_frozen BK345.out 8
                      obtain ⟨Ao48, co48, eo48⟩ := Kd.V_slice HO_5.out
                      subst eo48
                      have hpq48 : ptrV (.slice Ao48 t338.length co48) t338 = .pointer (ptrA Ao48 t338) := ptrV_A
                      go_wp2_with (first | (go_at_call 13; (with_reducible refine (locate_Stops.calls k5 _ co48 t338 ((rd_T28 ((rd_T24 l1 x6_2).f0) x7_3).f0) _ _ ((rd_T28 ((rd_T24 l1 x6_2).f0) x7_3).f1) ((rd_T28 ((rd_T24 l1 x6_2).f0) x7_3).f2) ((rd_T28 ((rd_T24 l1 x6_2).f0) x7_3).f3) ((rd_T28 ((rd_T24 l1 x6_2).f0) x7_3).f4) ((rd_T28 ((rd_T24 l1 x6_2).f0) x7_3).f5) ((rd_T28 ((rd_T24 l1 x6_2).f0) x7_3).f6) ((rd_T28 ((rd_T24 l1 x6_2).f0) x7_3).f7) ((rd_T28 ((rd_T24 l1 x6_2).f0) x7_3).f8) t352 _ ?side1 ?side2 ?side3 ?side4 A46.out).mono ?_); (case side1 => exact z36_); (case side2 => exact z187_); (case side3 => exact z63_); (case side4 => exact HC344_1.out); rintro e w49 ⟨v353, rfl, ho0, hb⟩; replace HO_5 := Aside0.mk (Kd.V_elder' z151_ (Kd.R_base ho0) hb); have HO354 := Aside0.mk (Kd.R_lower ho0 (below_size z92_)); replace BK345 := Aside0.mk (blk_below (g := gb345) (o := .cells #[.string ((rd_T28 ((rd_T24 l1 x6_2).f0) x7_3).f0), .slice A344_1 ((rd_T28 ((rd_T24 l1 x6_2).f0) x7_3).f1).length c344_1, .int .i64 ((rd_T28 ((rd_T24 l1 x6_2).f0) x7_3).f2), .int .i64 ((rd_T28 ((rd_T24 l1 x6_2).f0) x7_3).f3), .int .i64 ((rd_T28 ((rd_T24 l1 x6_2).f0) x7_3).f4), .bool ((rd_T28 ((rd_T24 l1 x6_2).f0) x7_3).f5), .int .i64 ((rd_T28 ((rd_T24 l1 x6_2).f0) x7_3).f6), .bool ((rd_T28 ((rd_T24 l1 x6_2).f0) x7_3).f7), .bool ((rd_T28 ((rd_T24 l1 x6_2).f0) x7_3).f8)] 28 (0, 0)) z135_ hb); replace HB := Aside0.mk (below_step z92_ hb); (try clear hb); (try clear hb2); (try clear hk); (try clear hi); (try clear ho0)))
                      repeat (go_quiet (first | (go_at_call 13; (with_reducible refine (locate_Stops.calls k5 _ co48 t338 ((rd_T28 ((rd_T24 l1 x6_2).f0) x7_3).f0) _ _ ((rd_T28 ((rd_T24 l1 x6_2).f0) x7_3).f1) ((rd_T28 ((rd_T24 l1 x6_2).f0) x7_3).f2) ((rd_T28 ((rd_T24 l1 x6_2).f0) x7_3).f3) ((rd_T28 ((rd_T24 l1 x6_2).f0) x7_3).f4) ((rd_T28 ((rd_T24 l1 x6_2).f0) x7_3).f5) ((rd_T28 ((rd_T24 l1 x6_2).f0) x7_3).f6) ((rd_T28 ((rd_T24 l1 x6_2).f0) x7_3).f7) ((rd_T28 ((rd_T24 l1 x6_2).f0) x7_3).f8) t352 _ ?side1 ?side2 ?side3 ?side4 A46.out).mono ?_); (case side1 => exact z36_); (case side2 => exact z187_); (case side3 => exact z63_); (case side4 => exact HC344_1.out); rintro e w49 ⟨v353, rfl, ho0, hb⟩; replace HO_5 := Aside0.mk (Kd.V_elder' z151_ (Kd.R_base ho0) hb); have HO354 := Aside0.mk (Kd.R_lower ho0 (below_size z92_)); replace BK345 := Aside0.mk (blk_below (g := gb345) (o := .cells #[.string ((rd_T28 ((rd_T24 l1 x6_2).f0) x7_3).f0), .slice A344_1 ((rd_T28 ((rd_T24 l1 x6_2).f0) x7_3).f1).length c344_1, .int .i64 ((rd_T28 ((rd_T24 l1 x6_2).f0) x7_3).f2), .int .i64 ((rd_T28 ((rd_T24 l1 x6_2).f0) x7_3).f3), .int .i64 ((rd_T28 ((rd_T24 l1 x6_2).f0) x7_3).f4), .bool ((rd_T28 ((rd_T24 l1 x6_2).f0) x7_3).f5), .int .i64 ((rd_T28 ((rd_T24 l1 x6_2).f0) x7_3).f6), .bool ((rd_T28 ((rd_T24 l1 x6_2).f0) x7_3).f7), .bool ((rd_T28 ((rd_T24 l1 x6_2).f0) x7_3).f8)] 28 (0, 0)) z135_ hb); replace HB := Aside0.mk (below_step z92_ hb); (try clear hb); (try clear hb2); (try clear hk); (try clear hi); (try clear ho0))); try go_wp2_with (first | (go_at_call 13; (with_reducible refine (locate_Stops.calls k5 _ co48 t338 ((rd_T28 ((rd_T24 l1 x6_2).f0) x7_3).f0) _ _ ((rd_T28 ((rd_T24 l1 x6_2).f0) x7_3).f1) ((rd_T28 ((rd_T24 l1 x6_2).f0) x7_3).f2) ((rd_T28 ((rd_T24 l1 x6_2).f0) x7_3).f3) ((rd_T28 ((rd_T24 l1 x6_2).f0) x7_3).f4) ((rd_T28 ((rd_T24 l1 x6_2).f0) x7_3).f5) ((rd_T28 ((rd_T24 l1 x6_2).f0) x7_3).f6) ((rd_T28 ((rd_T24 l1 x6_2).f0) x7_3).f7) ((rd_T28 ((rd_T24 l1 x6_2).f0) x7_3).f8) t352 _ ?side1 ?side2 ?side3 ?side4 A46.out).mono ?_); (case side1 => exact z36_); (case side2 => exact z187_); (case side3 => exact z63_); (case side4 => exact HC344_1.out); rintro e w49 ⟨v353, rfl, ho0, hb⟩; replace HO_5 := Aside0.mk (Kd.V_elder' z151_ (Kd.R_base ho0) hb); have HO354 := Aside0.mk (Kd.R_lower ho0 (below_size z92_)); replace BK345 := Aside0.mk (blk_below (g := gb345) (o := .cells #[.string ((rd_T28 ((rd_T24 l1 x6_2).f0) x7_3).f0), .slice A344_1 ((rd_T28 ((rd_T24 l1 x6_2).f0) x7_3).f1).length c344_1, .int .i64 ((rd_T28 ((rd_T24 l1 x6_2).f0) x7_3).f2), .int .i64 ((rd_T28 ((rd_T24 l1 x6_2).f0) x7_3).f3), .int .i64 ((rd_T28 ((rd_T24 l1 x6_2).f0) x7_3).f4), .bool ((rd_T28 ((rd_T24 l1 x6_2).f0) x7_3).f5), .int .i64 ((rd_T28 ((rd_T24 l1 x6_2).f0) x7_3).f6), .bool ((rd_T28 ((rd_T24 l1 x6_2).f0) x7_3).f7), .bool ((rd_T28 ((rd_T24 l1 x6_2).f0) x7_3).f8)] 28 (0, 0)) z135_ hb); replace HB := Aside0.mk (below_step z92_ hb); (try clear hb); (try clear hb2); (try clear hk); (try clear hi); (try clear ho0))))
                      go_loopg [17] k5 (fun kq v17 w' => ∃ (x17_6 : Int), v17 = .int .i64 x17_6 ∧ Aside0 (regletlaw15_LocateBack.l3 kq l1 t338 x6_2 x7_3 t346 t352 x17_6 = some r) ∧ Aside0 (kq ≤ k5) ∧ Aside0 (Kd.V k98 98 w' w.heap.size (fun k_ => some k_ ≠ (v353 : Value).ownBlock ∧ k_ ≠ gb345) (.slice Ao48 t338.length co48) t338) ∧ Aside0 (Kd.R k43 43 w' w.heap.size (fun _ => True) v353 t352) ∧ Aside0 (w'.heap[gb345]? = some (.cells #[.string ((rd_T28 ((rd_T24 l1 x6_2).f0) x7_3).f0), (.slice A344_1 ((rd_T28 ((rd_T24 l1 x6_2).f0) x7_3).f1).length c344_1), .int .i64 ((rd_T28 ((rd_T24 l1 x6_2).f0) x7_3).f2), .int .i64 ((rd_T28 ((rd_T24 l1 x6_2).f0) x7_3).f3), .int .i64 ((rd_T28 ((rd_T24 l1 x6_2).f0) x7_3).f4), .bool ((rd_T28 ((rd_T24 l1 x6_2).f0) x7_3).f5), .int .i64 ((rd_T28 ((rd_T24 l1 x6_2).f0) x7_3).f6), .bool ((rd_T28 ((rd_T24 l1 x6_2).f0) x7_3).f7), .bool ((rd_T28 ((rd_T24 l1 x6_2).f0) x7_3).f8)] 28 (0, 0))) ∧ Aside0 (Below w.heap.size w w'))
                      case atStart => exact ⟨(0), z180_, H', ⟨Nat.le_refl _⟩, ⟨by (with_reducible repeat (first | apply Kd.V_alloc | apply Kd.V_drewN | apply Kd.V_drew)); exact Kd.V_mono HO_5.out (fun _ hk => ⟨hk.2, hk.1⟩)⟩, ⟨y161_ HO354.out⟩, ⟨z135_⟩, ⟨z92_⟩⟩
                      case round => as_aux_lemma =>
                        clear H'; (try clear c1); (try clear q1); (try clear c2); (try clear p2); (try clear c3); (try clear p3); (try clear q3); (try clear hx3); (try clear c4); (try clear p6); (try clear c8); (try clear c9); (try clear c9b0); (try clear c9b1); (try clear c9b2); (try clear q11); (try clear q14); (try clear c16); (try clear c17); (try clear c17b0); (try clear c18); (try clear c18b0); (try clear c19); (try clear c19b0); (try clear c20); (try clear c20b0); (try clear c21); (try clear c21b0); (try clear c27); (try clear c29); (try clear c30); (try clear c30b0); (try clear c32); (try clear c33); (try clear c33b0); (try clear c33b1); (try clear c34); (try clear c34b0); (try clear c34b1); (try clear p34); (try clear q34); (try clear hx34); (try clear c35); (try clear c35b0); (try clear c35b1); (try clear hcz25_0); (try clear hcz25_1); (try clear hcz25_2); (try clear hcz25_3); (try clear hcz25_4); (try clear hcz25_5); (try clear hcz25_6); (try clear hcz25_7); (try clear hcz25_8); (try clear hcz28_0); (try clear hcz28_1); (try clear hcz28_2); (try clear hcz28_3); (try clear hcz28_4); (try clear hcz28_5); (try clear hcz28_6); (try clear hcz28_7); (try clear hcz28_8); (try clear hcz36_0); (try clear hcz36_1); (try clear hcz36_2); (try clear hcz36_3); (try clear hcz36_4); (try clear hcz36_5); (try clear hcz36_6); (try clear hcz36_7); (try clear hcz36_8); (try clear hcz38_0); (try clear hcz38_1); (try clear hcz38_2); (try clear hcz38_3); (try clear hcz38_4); (try clear hcz38_5); (try clear hcz38_6); (try clear hcz38_7); (try clear hcz38_8); (try clear hcz40_0); (try clear hcz40_1); (try clear hcz40_2); (try clear hcz40_3); (try clear hcz40_4); (try clear hcz40_5); (try clear hcz40_6); (try clear hcz40_7); (try clear hcz40_8); (try clear hcz42_0); (try clear hcz42_1); (try clear hcz42_2); (try clear hcz42_3); (try clear hcz42_4); (try clear hcz42_5); (try clear hcz42_6); (try clear hcz42_7); (try clear hcz42_8); (try clear hcz44_0); (try clear hcz44_1); (try clear hcz44_2); (try clear hcz44_3); (try clear hcz44_4); (try clear hcz44_5); (try clear hcz44_6); (try clear hcz44_7); (try clear hcz44_8); (try clear hcz47_0); (try clear hcz47_1); (try clear hcz47_2); (try clear hcz47_3); (try clear hcz47_4); (try clear hcz47_5); (try clear hcz47_6); (try clear hcz47_7); (try clear hcz47_8); (try clear hfz25_0); (try clear hfz25_1); (try clear hfz25_2); (try clear hfz25_3); (try clear hfz25_4); (try clear hfz25_5); (try clear hfz25_6); (try clear hfz25_7); (try clear hfz25_8); (try clear hfz28_0); (try clear hfz28_1); (try clear hfz28_2); (try clear hfz28_3); (try clear hfz28_4); (try clear hfz28_5); (try clear hfz28_6); (try clear hfz28_7); (try clear hfz28_8); (try clear hfz36_0); (try clear hfz36_1); (try clear hfz36_2); (try clear hfz36_3); (try clear hfz36_4); (try clear hfz36_5); (try clear hfz36_6); (try clear hfz36_7); (try clear hfz36_8); (try clear hfz38_0); (try clear hfz38_1); (try clear hfz38_2); (try clear hfz38_3); (try clear hfz38_4); (try clear hfz38_5); (try clear hfz38_6); (try clear hfz38_7); (try clear hfz38_8); (try clear hfz40_0); (try clear hfz40_1); (try clear hfz40_2); (try clear hfz40_3); (try clear hfz40_4); (try clear hfz40_5); (try clear hfz40_6); (try clear hfz40_7); (try clear hfz40_8); (try clear hfz42_0); (try clear hfz42_1); (try clear hfz42_2); (try clear hfz42_3); (try clear hfz42_4); (try clear hfz42_5); (try clear hfz42_6); (try clear hfz42_7); (try clear hfz42_8); (try clear hfz44_0); (try clear hfz44_1); (try clear hfz44_2); (try clear hfz44_3); (try clear hfz44_4); (try clear hfz44_5); (try clear hfz44_6); (try clear hfz44_7); (try clear hfz44_8); (try clear hfz47_0); (try clear hfz47_1); (try clear hfz47_2); (try clear hfz47_3); (try clear hfz47_4); (try clear hfz47_5); (try clear hfz47_6); (try clear hfz47_7); (try clear hfz47_8); (try clear hx342_0); (try clear hx343_0); (try clear hx344_0); (try clear hx344_1); (try clear hx344_2); (try clear hx344_3); (try clear hx344_4); (try clear hx344_5); (try clear hx344_6); (try clear hx344_7); (try clear hx344_8); (try clear p2); (try clear p3); (try clear p342); (try clear p343); (try clear p344); (try clear q1); (try clear q11); (try clear q14); (try clear q3); (try clear q342); (try clear q343); (try clear q344)
                        obtain ⟨x17_6, rfl, HA, HK6, HO_5, HO_16, BK345, HB⟩ := hrel
                        cases gk with
                        | zero => exact absurd HA.out (by simp [regletlaw15_LocateBack.l3])
                        | succ k6 =>
                          have H := HA.out
                          clear HA
                          simp only [regletlaw15_LocateBack.l3] at H
                          by_cases c50 : (wrap64 (x17_6 + 1)) < (t352.length : Int)
                          rotate_left
                          · rw [if_neg c50] at H
                            have c50b0 : decide ((wrap64 (x17_6 + 1)) < (t352.length : Int)) = false := decide_eq_false c50
                            clear c50
                            have H' := Aside0.mk H
                            clear H
                            obtain ⟨Ao97, co97, eo97⟩ := Kd.R_slice HO_16.out
                            subst eo97
                            go_wp2
                            repeat (go_quiet (fail); try go_wp2)
                            first | go_roundg k6 | (rw [← hpq48]; go_roundg k6)
                            case measure => have := HJ5.out; have := HK2.out; have := HK3.out; have := HJ22.out; have := HK5.out; have := HK6.out; omega
                            case rel => exact ⟨(wrap64 (x7_3 + 1)), z180_, H', ⟨by have := HJ5.out; have := HK2.out; have := HK3.out; have := HJ22.out; have := HK5.out; have := HK6.out; omega⟩, ⟨by (with_reducible repeat (first | apply Kd.V_alloc | apply Kd.V_drewN | apply Kd.V_drew)); exact Kd.V_mono HO_5.out (fun _ hk => trivial)⟩, ⟨z92_⟩⟩
                          rw [if_pos c50] at H
                          have c50b0 : decide ((wrap64 (x17_6 + 1)) < (t352.length : Int)) = true := decide_eq_true c50
                          clear c50
                          by_cases c51 : 0 ≤ x17_6
                          rotate_left
                          · rw [if_neg c51] at H
                            exact absurd H (by simp)
                          rw [if_pos c51] at H
                          have c51b0 : decide (0 ≤ x17_6) = true := decide_eq_true c51
                          clear c51
                          by_cases c52 : x17_6 < (t352.length : Int)
                          rotate_left
                          · rw [if_neg c52] at H
                            exact absurd H (by simp)
                          rw [if_pos c52] at H
                          have c52b0 : decide (x17_6 < (t352.length : Int)) = true := decide_eq_true c52
                          clear c52
                          replace H := Option.bind_eq_some_iff.mp H
                          obtain ⟨⟨t356, t357, t358, t359⟩, A530, H⟩ := H
                          replace H : (if t359 = 0 then (if t356 = x6_2 then (if t357 = x7_3 then (if t358 = ((rd_T43 t352 x17_6).f1) then (if x17_6 = 0 then (regletlaw15_LocateBack.j6 k6 l1 t338 x6_2 x7_3 t346 t352 x17_6 (t358 != 0) t356 t357 t358) else (regletlaw15_LocateBack.j6 k6 l1 t338 x6_2 x7_3 t346 t352 x17_6 false t356 t357 t358)) else (regletlaw15_LocateBack.j6 k6 l1 t338 x6_2 x7_3 t346 t352 x17_6 true t356 t357 t358)) else (regletlaw15_LocateBack.j6 k6 l1 t338 x6_2 x7_3 t346 t352 x17_6 true t356 t357 t358)) else (regletlaw15_LocateBack.j6 k6 l1 t338 x6_2 x7_3 t346 t352 x17_6 true t356 t357 t358)) else (regletlaw15_LocateBack.j6 k6 l1 t338 x6_2 x7_3 t346 t352 x17_6 true t356 t357 t358)) = some r := H
                          have A53 := Aside0.mk A530
                          clear A530
                          have HC54 := Aside0.mk H
                          clear H
                          obtain ⟨Ao55, co55, eo55⟩ := Kd.R_slice HO_16.out
                          subst eo55
                          have p355 : 0 ≤ (x17_6 : Int) := of_decide_eq_true z178_
                          have q355 : x17_6 < (t352.length : Int) := of_decide_eq_true z178_
                          obtain ⟨ad355, e355, hx355_0, hx355_1⟩ := at_T43 (Kd.R_reads' HO_16.out).2.2 x17_6 p355 q355
                          cases e355
                          replace p355 := eq_true p355
                          replace q355 := eq_true q355
                          go_upto_region 27 with (first | (go_at_call 18; (with_reducible refine (locate_Spot.calls k6 _ co48 t338 _ _ l1 (wrap64 (t346 + ((rd_T43 t352 x17_6).f0))) t356 t357 t358 t359 _ ?side1 ?side2 ?side3 ?side4 A53.out).mono ?_); (case side1 => exact z36_); (case side2 => exact z187_); (case side3 => exact z68_); (case side4 => exact HC1.out); rintro e w56 ⟨rfl, hb⟩; replace HO_5 := Aside0.mk (Kd.V_below z151_ hb); replace HO_16 := Aside0.mk (Kd.R_below z143_ hb); replace BK345 := Aside0.mk (blk_below (g := gb345) (o := .cells #[.string ((rd_T28 ((rd_T24 l1 x6_2).f0) x7_3).f0), .slice A344_1 ((rd_T28 ((rd_T24 l1 x6_2).f0) x7_3).f1).length c344_1, .int .i64 ((rd_T28 ((rd_T24 l1 x6_2).f0) x7_3).f2), .int .i64 ((rd_T28 ((rd_T24 l1 x6_2).f0) x7_3).f3), .int .i64 ((rd_T28 ((rd_T24 l1 x6_2).f0) x7_3).f4), .bool ((rd_T28 ((rd_T24 l1 x6_2).f0) x7_3).f5), .int .i64 ((rd_T28 ((rd_T24 l1 x6_2).f0) x7_3).f6), .bool ((rd_T28 ((rd_T24 l1 x6_2).f0) x7_3).f7), .bool ((rd_T28 ((rd_T24 l1 x6_2).f0) x7_3).f8)] 28 (0, 0)) z135_ hb); replace HB := Aside0.mk (below_step z92_ hb); (try clear hb); (try clear hb2); (try clear hk); (try clear hi)) | ((with_reducible refine gate_dst (N := 18) rfl ?_); refine box_event ?hg (N := 18) ?hd (cs := #[.int .i64 0, .int .i64 0, .int .i64 0]) (t := 49) ?hr ?_; (case hd => rfl); (case hg => rfl); (case hr => exact z181_); intro gb360 hg w57 hbox hb; replace HO_5 := Aside0.mk (Kd.V_below (Kd.V_elderB z151_ gb360 (Nat.le_of_eq hg.symm)) hb); replace HO_16 := Aside0.mk (Kd.R_below z143_ hb); have BK360 := Aside0.mk (hbox); have GW360 := Aside0.mk ((z50_ : w.heap.size ≤ gb360)); have GE360 := Aside0.mk ((z50_ : w.heap.size ≤ gb360)); replace HB := Aside0.mk (below_step z92_ hb); have NB345_360 := Aside0.mk ((z12_ : gb345 ≠ gb360)); have NB360_345 := Aside0.mk ((z11_ : gb360 ≠ gb345)); replace BK345 := Aside0.mk (blk_below (g := gb345) (o := .cells #[.string ((rd_T28 ((rd_T24 l1 x6_2).f0) x7_3).f0), .slice A344_1 ((rd_T28 ((rd_T24 l1 x6_2).f0) x7_3).f1).length c344_1, .int .i64 ((rd_T28 ((rd_T24 l1 x6_2).f0) x7_3).f2), .int .i64 ((rd_T28 ((rd_T24 l1 x6_2).f0) x7_3).f3), .int .i64 ((rd_T28 ((rd_T24 l1 x6_2).f0) x7_3).f4), .bool ((rd_T28 ((rd_T24 l1 x6_2).f0) x7_3).f5), .int .i64 ((rd_T28 ((rd_T24 l1 x6_2).f0) x7_3).f6), .bool ((rd_T28 ((rd_T24 l1 x6_2).f0) x7_3).f7), .bool ((rd_T28 ((rd_T24 l1 x6_2).f0) x7_3).f8)] 28 (0, 0)) z135_ hb); clear hb hbox hg; have hnb58 := NB360_345.out; have hnc58 := NB345_360.out; have hcz59_0 : w57.cell? ⟨gb360, 0, none⟩ = some (.int .i64 0) := (blk_cell BK360.out 0).trans rfl; have hcz59_1 : w57.cell? ⟨gb360, 1, none⟩ = some (.int .i64 0) := (blk_cell BK360.out 1).trans rfl; have hcz59_2 : w57.cell? ⟨gb360, 2, none⟩ = some (.int .i64 0) := (blk_cell BK360.out 2).trans rfl; have hfz59_0 := blk_frozen BK360.out 0; have hfz59_1 := blk_frozen BK360.out 1; have hfz59_2 := blk_frozen BK360.out 2))
                          repeat (go_quiet (first | (go_at_call 18; (with_reducible refine (locate_Spot.calls k6 _ co48 t338 _ _ l1 (wrap64 (t346 + ((rd_T43 t352 x17_6).f0))) t356 t357 t358 t359 _ ?side1 ?side2 ?side3 ?side4 A53.out).mono ?_); (case side1 => exact z36_); (case side2 => exact z187_); (case side3 => exact z68_); (case side4 => exact HC1.out); rintro e w56 ⟨rfl, hb⟩; replace HO_5 := Aside0.mk (Kd.V_below z151_ hb); replace HO_16 := Aside0.mk (Kd.R_below z143_ hb); replace BK345 := Aside0.mk (blk_below (g := gb345) (o := .cells #[.string ((rd_T28 ((rd_T24 l1 x6_2).f0) x7_3).f0), .slice A344_1 ((rd_T28 ((rd_T24 l1 x6_2).f0) x7_3).f1).length c344_1, .int .i64 ((rd_T28 ((rd_T24 l1 x6_2).f0) x7_3).f2), .int .i64 ((rd_T28 ((rd_T24 l1 x6_2).f0) x7_3).f3), .int .i64 ((rd_T28 ((rd_T24 l1 x6_2).f0) x7_3).f4), .bool ((rd_T28 ((rd_T24 l1 x6_2).f0) x7_3).f5), .int .i64 ((rd_T28 ((rd_T24 l1 x6_2).f0) x7_3).f6), .bool ((rd_T28 ((rd_T24 l1 x6_2).f0) x7_3).f7), .bool ((rd_T28 ((rd_T24 l1 x6_2).f0) x7_3).f8)] 28 (0, 0)) z135_ hb); replace HB := Aside0.mk (below_step z92_ hb); (try clear hb); (try clear hb2); (try clear hk); (try clear hi)) | ((with_reducible refine gate_dst (N := 18) rfl ?_); refine box_event ?hg (N := 18) ?hd (cs := #[.int .i64 0, .int .i64 0, .int .i64 0]) (t := 49) ?hr ?_; (case hd => rfl); (case hg => rfl); (case hr => exact z181_); intro gb360 hg w57 hbox hb; replace HO_5 := Aside0.mk (Kd.V_below (Kd.V_elderB z151_ gb360 (Nat.le_of_eq hg.symm)) hb); replace HO_16 := Aside0.mk (Kd.R_below z143_ hb); have BK360 := Aside0.mk (hbox); have GW360 := Aside0.mk ((z50_ : w.heap.size ≤ gb360)); have GE360 := Aside0.mk ((z50_ : w.heap.size ≤ gb360)); replace HB := Aside0.mk (below_step z92_ hb); have NB345_360 := Aside0.mk ((z12_ : gb345 ≠ gb360)); have NB360_345 := Aside0.mk ((z11_ : gb360 ≠ gb345)); replace BK345 := Aside0.mk (blk_below (g := gb345) (o := .cells #[.string ((rd_T28 ((rd_T24 l1 x6_2).f0) x7_3).f0), .slice A344_1 ((rd_T28 ((rd_T24 l1 x6_2).f0) x7_3).f1).length c344_1, .int .i64 ((rd_T28 ((rd_T24 l1 x6_2).f0) x7_3).f2), .int .i64 ((rd_T28 ((rd_T24 l1 x6_2).f0) x7_3).f3), .int .i64 ((rd_T28 ((rd_T24 l1 x6_2).f0) x7_3).f4), .bool ((rd_T28 ((rd_T24 l1 x6_2).f0) x7_3).f5), .int .i64 ((rd_T28 ((rd_T24 l1 x6_2).f0) x7_3).f6), .bool ((rd_T28 ((rd_T24 l1 x6_2).f0) x7_3).f7), .bool ((rd_T28 ((rd_T24 l1 x6_2).f0) x7_3).f8)] 28 (0, 0)) z135_ hb); clear hb hbox hg; have hnb58 := NB360_345.out; have hnc58 := NB345_360.out; have hcz59_0 : w57.cell? ⟨gb360, 0, none⟩ = some (.int .i64 0) := (blk_cell BK360.out 0).trans rfl; have hcz59_1 : w57.cell? ⟨gb360, 1, none⟩ = some (.int .i64 0) := (blk_cell BK360.out 1).trans rfl; have hcz59_2 : w57.cell? ⟨gb360, 2, none⟩ = some (.int .i64 0) := (blk_cell BK360.out 2).trans rfl; have hfz59_0 := blk_frozen BK360.out 0; have hfz59_1 := blk_frozen BK360.out 1; have hfz59_2 := blk_frozen BK360.out 2)); go_upto_region 27 with (first | (go_at_call 18; (with_reducible refine (locate_Spot.calls k6 _ co48 t338 _ _ l1 (wrap64 (t346 + ((rd_T43 t352 x17_6).f0))) t356 t357 t358 t359 _ ?side1 ?side2 ?side3 ?side4 A53.out).mono ?_); (case side1 => exact z36_); (case side2 => exact z187_); (case side3 => exact z68_); (case side4 => exact HC1.out); rintro e w56 ⟨rfl, hb⟩; replace HO_5 := Aside0.mk (Kd.V_below z151_ hb); replace HO_16 := Aside0.mk (Kd.R_below z143_ hb); replace BK345 := Aside0.mk (blk_below (g := gb345) (o := .cells #[.string ((rd_T28 ((rd_T24 l1 x6_2).f0) x7_3).f0), .slice A344_1 ((rd_T28 ((rd_T24 l1 x6_2).f0) x7_3).f1).length c344_1, .int .i64 ((rd_T28 ((rd_T24 l1 x6_2).f0) x7_3).f2), .int .i64 ((rd_T28 ((rd_T24 l1 x6_2).f0) x7_3).f3), .int .i64 ((rd_T28 ((rd_T24 l1 x6_2).f0) x7_3).f4), .bool ((rd_T28 ((rd_T24 l1 x6_2).f0) x7_3).f5), .int .i64 ((rd_T28 ((rd_T24 l1 x6_2).f0) x7_3).f6), .bool ((rd_T28 ((rd_T24 l1 x6_2).f0) x7_3).f7), .bool ((rd_T28 ((rd_T24 l1 x6_2).f0) x7_3).f8)] 28 (0, 0)) z135_ hb); replace HB := Aside0.mk (below_step z92_ hb); (try clear hb); (try clear hb2); (try clear hk); (try clear hi)) | ((with_reducible refine gate_dst (N := 18) rfl ?_); refine box_event ?hg (N := 18) ?hd (cs := #[.int .i64 0, .int .i64 0, .int .i64 0]) (t := 49) ?hr ?_; (case hd => rfl); (case hg => rfl); (case hr => exact z181_); intro gb360 hg w57 hbox hb; replace HO_5 := Aside0.mk (Kd.V_below (Kd.V_elderB z151_ gb360 (Nat.le_of_eq hg.symm)) hb); replace HO_16 := Aside0.mk (Kd.R_below z143_ hb); have BK360 := Aside0.mk (hbox); have GW360 := Aside0.mk ((z50_ : w.heap.size ≤ gb360)); have GE360 := Aside0.mk ((z50_ : w.heap.size ≤ gb360)); replace HB := Aside0.mk (below_step z92_ hb); have NB345_360 := Aside0.mk ((z12_ : gb345 ≠ gb360)); have NB360_345 := Aside0.mk ((z11_ : gb360 ≠ gb345)); replace BK345 := Aside0.mk (blk_below (g := gb345) (o := .cells #[.string ((rd_T28 ((rd_T24 l1 x6_2).f0) x7_3).f0), .slice A344_1 ((rd_T28 ((rd_T24 l1 x6_2).f0) x7_3).f1).length c344_1, .int .i64 ((rd_T28 ((rd_T24 l1 x6_2).f0) x7_3).f2), .int .i64 ((rd_T28 ((rd_T24 l1 x6_2).f0) x7_3).f3), .int .i64 ((rd_T28 ((rd_T24 l1 x6_2).f0) x7_3).f4), .bool ((rd_T28 ((rd_T24 l1 x6_2).f0) x7_3).f5), .int .i64 ((rd_T28 ((rd_T24 l1 x6_2).f0) x7_3).f6), .bool ((rd_T28 ((rd_T24 l1 x6_2).f0) x7_3).f7), .bool ((rd_T28 ((rd_T24 l1 x6_2).f0) x7_3).f8)] 28 (0, 0)) z135_ hb); clear hb hbox hg; have hnb58 := NB360_345.out; have hnc58 := NB345_360.out; have hcz59_0 : w57.cell? ⟨gb360, 0, none⟩ = some (.int .i64 0) := (blk_cell BK360.out 0).trans rfl; have hcz59_1 : w57.cell? ⟨gb360, 1, none⟩ = some (.int .i64 0) := (blk_cell BK360.out 1).trans rfl; have hcz59_2 : w57.cell? ⟨gb360, 2, none⟩ = some (.int .i64 0) := (blk_cell BK360.out 2).trans rfl; have hfz59_0 := blk_frozen BK360.out 0; have hfz59_1 := blk_frozen BK360.out 1; have hfz59_2 := blk_frozen BK360.out 2)))
                          (try simp only [Act.put, List.setIfInBounds_toArray, List.set_cons_zero, List.set_cons_succ])
                          go_cut [161] (fun v161 wc => ∃ (kq : Nat) (x161_53 : Bool), v161 = .bool x161_53 ∧ Aside0 (regletlaw15_LocateBack.j6 kq l1 t338 x6_2 x7_3 t346 t352 x17_6 x161_53 t356 t357 t358 = some r) ∧ Aside0 (kq ≤ k6) ∧ Aside0 (Kd.V k98 98 wc w.heap.size (fun k_ => some k_ ≠ ((.slice (some ad355) t352.length co55) : Value).ownBlock ∧ k_ ≠ gb345 ∧ k_ ≠ gb360) (.slice Ao48 t338.length co48) t338) ∧ Aside0 (Kd.R k43 43 wc w.heap.size (fun _ => True) (.slice (some ad355) t352.length co55) t352) ∧ Aside0 (wc.heap[gb345]? = some (.cells #[.string ((rd_T28 ((rd_T24 l1 x6_2).f0) x7_3).f0), (.slice A344_1 ((rd_T28 ((rd_T24 l1 x6_2).f0) x7_3).f1).length c344_1), .int .i64 ((rd_T28 ((rd_T24 l1 x6_2).f0) x7_3).f2), .int .i64 ((rd_T28 ((rd_T24 l1 x6_2).f0) x7_3).f3), .int .i64 ((rd_T28 ((rd_T24 l1 x6_2).f0) x7_3).f4), .bool ((rd_T28 ((rd_T24 l1 x6_2).f0) x7_3).f5), .int .i64 ((rd_T28 ((rd_T24 l1 x6_2).f0) x7_3).f6), .bool ((rd_T28 ((rd_T24 l1 x6_2).f0) x7_3).f7), .bool ((rd_T28 ((rd_T24 l1 x6_2).f0) x7_3).f8)] 28 (0, 0))) ∧ Aside0 (wc.heap[gb360]? = some (.cells #[.int .i64 t356, .int .i64 t357, .int .i64 t358] 49 (0, 0))) ∧ Aside0 (Below w.heap.size w wc))
                          case first =>
                            have H := HC54.out
                            clear HC54
                            by_cases c60 : t359 = 0
                            rotate_left
                            · rw [if_neg c60] at H
                              have c60b0 : (t359 == 0) = false := beq_eq_false_iff_ne.mpr c60
                              have c60b1 : (t359 != 0) = true := bne_iff_ne.mpr c60
                              (first | rw [c60b0] | (simp only [i64_w, i32_w]; rw [c60b0]) | skip)
                              have H' := Aside0.mk H
                              clear H
                              go_wp2
                              repeat (go_quiet (fail); try go_wp2)
                              first | go_meet | (rw [← hpq48]; go_meet)
                              case rel => exact ⟨_, (true), z180_, H', ⟨z100_⟩, ⟨z17_⟩, ⟨z19_⟩, ⟨z16_⟩, ⟨z13_⟩, ⟨z58_⟩⟩
                            rw [if_pos c60] at H
                            have c60b0 : (t359 == 0) = true := beq_iff_eq.mpr c60
                            have c60b1 : (t359 != 0) = false := bne_eq_false_iff_eq.mpr c60
                            clear c60
                            (first | rw [c60b0] | (simp only [i64_w, i32_w]; rw [c60b0]) | skip)
                            by_cases c61 : t356 = x6_2
                            rotate_left
                            · rw [if_neg c61] at H
                              have c61b0 : (t356 == x6_2) = false := beq_eq_false_iff_ne.mpr c61
                              have c61b1 : (t356 != x6_2) = true := bne_iff_ne.mpr c61
                              have H' := Aside0.mk H
                              clear H
                              have hnb73 := NB360_345.out
                              have hnc73 := NB345_360.out
                              have hcz74_0 : w57.cell? ⟨gb360, 0, none⟩ = some (.int .i64 0) := (blk_cell BK360.out 0).trans rfl
                              have hcz74_1 : w57.cell? ⟨gb360, 1, none⟩ = some (.int .i64 0) := (blk_cell BK360.out 1).trans rfl
                              have hcz74_2 : w57.cell? ⟨gb360, 2, none⟩ = some (.int .i64 0) := (blk_cell BK360.out 2).trans rfl
                              have hfz74_0 := blk_frozen BK360.out 0
                              have hfz74_1 := blk_frozen BK360.out 1
                              have hfz74_2 := blk_frozen BK360.out 2
                              go_wp2
                              repeat (go_quiet (fail); try go_wp2)
                              first | go_meet | (rw [← hpq48]; go_meet)
                              case rel => exact ⟨_, (true), z180_, H', ⟨z100_⟩, ⟨z17_⟩, ⟨z19_⟩, ⟨z16_⟩, ⟨z13_⟩, ⟨z58_⟩⟩
                            rw [if_pos c61] at H
                            have c61b0 : (t356 == x6_2) = true := beq_iff_eq.mpr c61
                            have c61b1 : (t356 != x6_2) = false := bne_eq_false_iff_eq.mpr c61
                            clear c61
                            by_cases c62 : t357 = x7_3
                            rotate_left
                            · rw [if_neg c62] at H
                              have c62b0 : (t357 == x7_3) = false := beq_eq_false_iff_ne.mpr c62
                              have c62b1 : (t357 != x7_3) = true := bne_iff_ne.mpr c62
                              have H' := Aside0.mk H
                              clear H
                              have hnb71 := NB360_345.out
                              have hnc71 := NB345_360.out
                              have hcz72_0 : w57.cell? ⟨gb360, 0, none⟩ = some (.int .i64 0) := (blk_cell BK360.out 0).trans rfl
                              have hcz72_1 : w57.cell? ⟨gb360, 1, none⟩ = some (.int .i64 0) := (blk_cell BK360.out 1).trans rfl
                              have hcz72_2 : w57.cell? ⟨gb360, 2, none⟩ = some (.int .i64 0) := (blk_cell BK360.out 2).trans rfl
                              have hfz72_0 := blk_frozen BK360.out 0
                              have hfz72_1 := blk_frozen BK360.out 1
                              have hfz72_2 := blk_frozen BK360.out 2
                              go_wp2
                              repeat (go_quiet (fail); try go_wp2)
                              first | go_meet | (rw [← hpq48]; go_meet)
                              case rel => exact ⟨_, (true), z180_, H', ⟨z100_⟩, ⟨z17_⟩, ⟨z19_⟩, ⟨z16_⟩, ⟨z13_⟩, ⟨z58_⟩⟩
                            rw [if_pos c62] at H
                            have c62b0 : (t357 == x7_3) = true := beq_iff_eq.mpr c62
                            have c62b1 : (t357 != x7_3) = false := bne_eq_false_iff_eq.mpr c62
                            clear c62
                            by_cases c63 : t358 = ((rd_T43 t352 x17_6).f1)
                            rotate_left
                            · rw [if_neg c63] at H
                              have c63b0 : (t358 == ((rd_T43 t352 x17_6).f1)) = false := beq_eq_false_iff_ne.mpr c63
                              have c63b1 : (t358 != ((rd_T43 t352 x17_6).f1)) = true := bne_iff_ne.mpr c63
                              have H' := Aside0.mk H
                              clear H
                              have hnb69 := NB360_345.out
                              have hnc69 := NB345_360.out
                              have hcz70_0 : w57.cell? ⟨gb360, 0, none⟩ = some (.int .i64 0) := (blk_cell BK360.out 0).trans rfl
                              have hcz70_1 : w57.cell? ⟨gb360, 1, none⟩ = some (.int .i64 0) := (blk_cell BK360.out 1).trans rfl
                              have hcz70_2 : w57.cell? ⟨gb360, 2, none⟩ = some (.int .i64 0) := (blk_cell BK360.out 2).trans rfl
                              have hfz70_0 := blk_frozen BK360.out 0
                              have hfz70_1 := blk_frozen BK360.out 1
                              have hfz70_2 := blk_frozen BK360.out 2
                              have p361 : 0 ≤ (x17_6 : Int) := of_decide_eq_true z178_
                              have q361 : x17_6 < (t352.length : Int) := of_decide_eq_true z178_
                              obtain ⟨ad361, e361, hx361_0, hx361_1⟩ := at_T43 (Kd.R_reads' HO_16.out).2.2 x17_6 p361 q361
                              obtain rfl : ad355 = ad361 := (by injection e361)
                              have hn361_0 : ad355.block ≠ gb360 := Kd.own_blk (Kd.R_ne HO_16.out BK360.out (by decide))
                              have hn361_1 : ad355.block ≠ gb360 := Kd.own_blk (Kd.R_ne HO_16.out BK360.out (by decide))
                              have hn361_2 : ad355.block ≠ gb360 := Kd.own_blk (Kd.R_ne HO_16.out BK360.out (by decide))
                              replace hx361_0 := (cell_far (p := ⟨gb360, 0, none⟩) z116_ (.int .i64 t356)).trans hx361_0
                              replace hx361_1 := (cell_far (p := ⟨gb360, 0, none⟩) z116_ (.int .i64 t356)).trans hx361_1
                              replace hx361_0 := (cell_far (p := ⟨gb360, 1, none⟩) z117_ (.int .i64 t357)).trans hx361_0
                              replace hx361_1 := (cell_far (p := ⟨gb360, 1, none⟩) z117_ (.int .i64 t357)).trans hx361_1
                              replace hx361_0 := (cell_far (p := ⟨gb360, 2, none⟩) z118_ (.int .i64 t358)).trans hx361_0
                              replace hx361_1 := (cell_far (p := ⟨gb360, 2, none⟩) z118_ (.int .i64 t358)).trans hx361_1
                              (try have hy361_0 := fun (n_ : Nat) => (show (((((w57.drewN n_).setCell ⟨gb360, 0, none⟩ (.int .i64 t356)).setCell ⟨gb360, 1, none⟩ (.int .i64 t357)).setCell ⟨gb360, 2, none⟩ (.int .i64 t358))).cell? _ = some _ from hx361_0))
                              (try have hy361_1 := fun (n_ : Nat) => (show (((((w57.drewN n_).setCell ⟨gb360, 0, none⟩ (.int .i64 t356)).setCell ⟨gb360, 1, none⟩ (.int .i64 t357)).setCell ⟨gb360, 2, none⟩ (.int .i64 t358))).cell? _ = some _ from hx361_1))
                              clear hn361_0; clear hn361_1; clear hn361_2
                              replace p361 := eq_true p361
                              replace q361 := eq_true q361
                              go_wp2
                              repeat (go_quiet (fail); try go_wp2)
                              first | go_meet | (rw [← hpq48]; go_meet)
                              case rel => exact ⟨_, (true), z180_, H', ⟨z100_⟩, ⟨z17_⟩, ⟨z19_⟩, ⟨z16_⟩, ⟨z13_⟩, ⟨z58_⟩⟩
                            rw [if_pos c63] at H
                            have c63b0 : (t358 == ((rd_T43 t352 x17_6).f1)) = true := beq_iff_eq.mpr c63
                            have c63b1 : (t358 != ((rd_T43 t352 x17_6).f1)) = false := bne_eq_false_iff_eq.mpr c63
                            clear c63
                            by_cases c64 : x17_6 = 0
                            rotate_left
                            · rw [if_neg c64] at H
                              have c64b0 : (x17_6 == 0) = false := beq_eq_false_iff_ne.mpr c64
                              have c64b1 : (x17_6 != 0) = true := bne_iff_ne.mpr c64
                              have H' := Aside0.mk H
                              clear H
                              have hnb67 := NB360_345.out
                              have hnc67 := NB345_360.out
                              have hcz68_0 : w57.cell? ⟨gb360, 0, none⟩ = some (.int .i64 0) := (blk_cell BK360.out 0).trans rfl
                              have hcz68_1 : w57.cell? ⟨gb360, 1, none⟩ = some (.int .i64 0) := (blk_cell BK360.out 1).trans rfl
                              have hcz68_2 : w57.cell? ⟨gb360, 2, none⟩ = some (.int .i64 0) := (blk_cell BK360.out 2).trans rfl
                              have hfz68_0 := blk_frozen BK360.out 0
                              have hfz68_1 := blk_frozen BK360.out 1
                              have hfz68_2 := blk_frozen BK360.out 2
                              have p361 : 0 ≤ (x17_6 : Int) := of_decide_eq_true z178_
                              have q361 : x17_6 < (t352.length : Int) := of_decide_eq_true z178_
                              obtain ⟨ad361, e361, hx361_0, hx361_1⟩ := at_T43 (Kd.R_reads' HO_16.out).2.2 x17_6 p361 q361
                              obtain rfl : ad355 = ad361 := (by injection e361)
                              have hn361_0 : ad355.block ≠ gb360 := Kd.own_blk (Kd.R_ne HO_16.out BK360.out (by decide))
                              have hn361_1 : ad355.block ≠ gb360 := Kd.own_blk (Kd.R_ne HO_16.out BK360.out (by decide))
                              have hn361_2 : ad355.block ≠ gb360 := Kd.own_blk (Kd.R_ne HO_16.out BK360.out (by decide))
                              replace hx361_0 := (cell_far (p := ⟨gb360, 0, none⟩) z116_ (.int .i64 t356)).trans hx361_0
                              replace hx361_1 := (cell_far (p := ⟨gb360, 0, none⟩) z116_ (.int .i64 t356)).trans hx361_1
                              replace hx361_0 := (cell_far (p := ⟨gb360, 1, none⟩) z117_ (.int .i64 t357)).trans hx361_0
                              replace hx361_1 := (cell_far (p := ⟨gb360, 1, none⟩) z117_ (.int .i64 t357)).trans hx361_1
                              replace hx361_0 := (cell_far (p := ⟨gb360, 2, none⟩) z118_ (.int .i64 t358)).trans hx361_0
                              replace hx361_1 := (cell_far (p := ⟨gb360, 2, none⟩) z118_ (.int .i64 t358)).trans hx361_1
                              (try have hy361_0 := fun (n_ : Nat) => (show (((((w57.drewN n_).setCell ⟨gb360, 0, none⟩ (.int .i64 t356)).setCell ⟨gb360, 1, none⟩ (.int .i64 t357)).setCell ⟨gb360, 2, none⟩ (.int .i64 t358))).cell? _ = some _ from hx361_0))
                              (try have hy361_1 := fun (n_ : Nat) => (show (((((w57.drewN n_).setCell ⟨gb360, 0, none⟩ (.int .i64 t356)).setCell ⟨gb360, 1, none⟩ (.int .i64 t357)).setCell ⟨gb360, 2, none⟩ (.int .i64 t358))).cell? _ = some _ from hx361_1))
                              clear hn361_0; clear hn361_1; clear hn361_2
                              replace p361 := eq_true p361
                              replace q361 := eq_true q361
                              go_wp2
                              repeat (go_quiet (fail); try go_wp2)
                              first | go_meet | (rw [← hpq48]; go_meet)
                              case rel => exact ⟨_, (false), z180_, H', ⟨z100_⟩, ⟨z17_⟩, ⟨z19_⟩, ⟨z16_⟩, ⟨z13_⟩, ⟨z58_⟩⟩
                            rw [if_pos c64] at H
                            have c64b0 : (x17_6 == 0) = true := beq_iff_eq.mpr c64
                            have c64b1 : (x17_6 != 0) = false := bne_eq_false_iff_eq.mpr c64
                            clear c64
                            have H' := Aside0.mk H
                            clear H
                            have hnb65 := NB360_345.out
                            have hnc65 := NB345_360.out
                            have hcz66_0 : w57.cell? ⟨gb360, 0, none⟩ = some (.int .i64 0) := (blk_cell BK360.out 0).trans rfl
                            have hcz66_1 : w57.cell? ⟨gb360, 1, none⟩ = some (.int .i64 0) := (blk_cell BK360.out 1).trans rfl
                            have hcz66_2 : w57.cell? ⟨gb360, 2, none⟩ = some (.int .i64 0) := (blk_cell BK360.out 2).trans rfl
                            have hfz66_0 := blk_frozen BK360.out 0
                            have hfz66_1 := blk_frozen BK360.out 1
                            have hfz66_2 := blk_frozen BK360.out 2
                            have p361 : 0 ≤ (x17_6 : Int) := of_decide_eq_true z178_
                            have q361 : x17_6 < (t352.length : Int) := of_decide_eq_true z178_
                            obtain ⟨ad361, e361, hx361_0, hx361_1⟩ := at_T43 (Kd.R_reads' HO_16.out).2.2 x17_6 p361 q361
                            obtain rfl : ad355 = ad361 := (by injection e361)
                            have hn361_0 : ad355.block ≠ gb360 := Kd.own_blk (Kd.R_ne HO_16.out BK360.out (by decide))
                            have hn361_1 : ad355.block ≠ gb360 := Kd.own_blk (Kd.R_ne HO_16.out BK360.out (by decide))
                            have hn361_2 : ad355.block ≠ gb360 := Kd.own_blk (Kd.R_ne HO_16.out BK360.out (by decide))
                            replace hx361_0 := (cell_far (p := ⟨gb360, 0, none⟩) z116_ (.int .i64 t356)).trans hx361_0
                            replace hx361_1 := (cell_far (p := ⟨gb360, 0, none⟩) z116_ (.int .i64 t356)).trans hx361_1
                            replace hx361_0 := (cell_far (p := ⟨gb360, 1, none⟩) z117_ (.int .i64 t357)).trans hx361_0
                            replace hx361_1 := (cell_far (p := ⟨gb360, 1, none⟩) z117_ (.int .i64 t357)).trans hx361_1
                            replace hx361_0 := (cell_far (p := ⟨gb360, 2, none⟩) z118_ (.int .i64 t358)).trans hx361_0
                            replace hx361_1 := (cell_far (p := ⟨gb360, 2, none⟩) z118_ (.int .i64 t358)).trans hx361_1
                            (try have hy361_0 := fun (n_ : Nat) => (show (((((w57.drewN n_).setCell ⟨gb360, 0, none⟩ (.int .i64 t356)).setCell ⟨gb360, 1, none⟩ (.int .i64 t357)).setCell ⟨gb360, 2, none⟩ (.int .i64 t358))).cell? _ = some _ from hx361_0))
                            (try have hy361_1 := fun (n_ : Nat) => (show (((((w57.drewN n_).setCell ⟨gb360, 0, none⟩ (.int .i64 t356)).setCell ⟨gb360, 1, none⟩ (.int .i64 t357)).setCell ⟨gb360, 2, none⟩ (.int .i64 t358))).cell? _ = some _ from hx361_1))
                            clear hn361_0; clear hn361_1; clear hn361_2
                            replace p361 := eq_true p361
                            replace q361 := eq_true q361
                            go_wp2
                            repeat (go_quiet (fail); try go_wp2)
                            first | go_meet | (rw [← hpq48]; go_meet)
                            case rel => exact ⟨_, ((t358 != 0)), z180_, H', ⟨z100_⟩, ⟨z17_⟩, ⟨z19_⟩, ⟨z16_⟩, ⟨z13_⟩, ⟨z58_⟩⟩
                          case rest =>
                            clear HC54; (try clear c1); (try clear q1); (try clear c2); (try clear p2); (try clear c3); (try clear p3); (try clear q3); (try clear hx3); (try clear c4); (try clear c5); (try clear c6); (try clear p6); (try clear c7); (try clear c8); (try clear c9); (try clear c9b0); (try clear c9b1); (try clear c9b2); (try clear q11); (try clear q14); (try clear c16); (try clear c17); (try clear c17b0); (try clear c18); (try clear c18b0); (try clear c19); (try clear c19b0); (try clear c20); (try clear c20b0); (try clear c21); (try clear c21b0); (try clear c27); (try clear c29); (try clear c30); (try clear c30b0); (try clear c32); (try clear c33); (try clear c33b0); (try clear c33b1); (try clear c34); (try clear c34b0); (try clear c34b1); (try clear p34); (try clear q34); (try clear hx34); (try clear c35); (try clear c35b0); (try clear c35b1); (try clear p35); (try clear q35); (try clear hx35); (try clear p36); (try clear q36); (try clear hx36); (try clear c50); (try clear c50b0); (try clear c51); (try clear c51b0); (try clear c52); (try clear c52b0); (try clear c58); (try clear c60); (try clear c60b0); (try clear c60b1); (try clear c61); (try clear c61b0); (try clear c61b1); (try clear c62); (try clear c62b0); (try clear c62b1); (try clear c63); (try clear c63b0); (try clear c63b1); (try clear c64); (try clear c64b0); (try clear c64b1); (try clear p64); (try clear c65); (try clear c67); (try clear c69); (try clear c71); (try clear c73); (try clear hcz25_0); (try clear hcz25_1); (try clear hcz25_2); (try clear hcz25_3); (try clear hcz25_4); (try clear hcz25_5); (try clear hcz25_6); (try clear hcz25_7); (try clear hcz25_8); (try clear hcz28_0); (try clear hcz28_1); (try clear hcz28_2); (try clear hcz28_3); (try clear hcz28_4); (try clear hcz28_5); (try clear hcz28_6); (try clear hcz28_7); (try clear hcz28_8); (try clear hcz36_0); (try clear hcz36_1); (try clear hcz36_2); (try clear hcz36_3); (try clear hcz36_4); (try clear hcz36_5); (try clear hcz36_6); (try clear hcz36_7); (try clear hcz36_8); (try clear hcz38_0); (try clear hcz38_1); (try clear hcz38_2); (try clear hcz38_3); (try clear hcz38_4); (try clear hcz38_5); (try clear hcz38_6); (try clear hcz38_7); (try clear hcz38_8); (try clear hcz40_0); (try clear hcz40_1); (try clear hcz40_2); (try clear hcz40_3); (try clear hcz40_4); (try clear hcz40_5); (try clear hcz40_6); (try clear hcz40_7); (try clear hcz40_8); (try clear hcz42_0); (try clear hcz42_1); (try clear hcz42_2); (try clear hcz42_3); (try clear hcz42_4); (try clear hcz42_5); (try clear hcz42_6); (try clear hcz42_7); (try clear hcz42_8); (try clear hcz44_0); (try clear hcz44_1); (try clear hcz44_2); (try clear hcz44_3); (try clear hcz44_4); (try clear hcz44_5); (try clear hcz44_6); (try clear hcz44_7); (try clear hcz44_8); (try clear hcz47_0); (try clear hcz47_1); (try clear hcz47_2); (try clear hcz47_3); (try clear hcz47_4); (try clear hcz47_5); (try clear hcz47_6); (try clear hcz47_7); (try clear hcz47_8); (try clear hcz59_0); (try clear hcz59_1); (try clear hcz59_2); (try clear hcz66_0); (try clear hcz66_1); (try clear hcz66_2); (try clear hcz68_0); (try clear hcz68_1); (try clear hcz68_2); (try clear hcz70_0); (try clear hcz70_1); (try clear hcz70_2); (try clear hcz72_0); (try clear hcz72_1); (try clear hcz72_2); (try clear hcz74_0); (try clear hcz74_1); (try clear hcz74_2); (try clear hfz25_0); (try clear hfz25_1); (try clear hfz25_2); (try clear hfz25_3); (try clear hfz25_4); (try clear hfz25_5); (try clear hfz25_6); (try clear hfz25_7); (try clear hfz25_8); (try clear hfz28_0); (try clear hfz28_1); (try clear hfz28_2); (try clear hfz28_3); (try clear hfz28_4); (try clear hfz28_5); (try clear hfz28_6); (try clear hfz28_7); (try clear hfz28_8); (try clear hfz36_0); (try clear hfz36_1); (try clear hfz36_2); (try clear hfz36_3); (try clear hfz36_4); (try clear hfz36_5); (try clear hfz36_6); (try clear hfz36_7); (try clear hfz36_8); (try clear hfz38_0); (try clear hfz38_1); (try clear hfz38_2); (try clear hfz38_3); (try clear hfz38_4); (try clear hfz38_5); (try clear hfz38_6); (try clear hfz38_7); (try clear hfz38_8); (try clear hfz40_0); (try clear hfz40_1); (try clear hfz40_2); (try clear hfz40_3); (try clear hfz40_4); (try clear hfz40_5); (try clear hfz40_6); (try clear hfz40_7); (try clear hfz40_8); (try clear hfz42_0); (try clear hfz42_1); (try clear hfz42_2); (try clear hfz42_3); (try clear hfz42_4); (try clear hfz42_5); (try clear hfz42_6); (try clear hfz42_7); (try clear hfz42_8); (try clear hfz44_0); (try clear hfz44_1); (try clear hfz44_2); (try clear hfz44_3); (try clear hfz44_4); (try clear hfz44_5); (try clear hfz44_6); (try clear hfz44_7); (try clear hfz44_8); (try clear hfz47_0); (try clear hfz47_1); (try clear hfz47_2); (try clear hfz47_3); (try clear hfz47_4); (try clear hfz47_5); (try clear hfz47_6); (try clear hfz47_7); (try clear hfz47_8); (try clear hfz59_0); (try clear hfz59_1); (try clear hfz59_2); (try clear hfz66_0); (try clear hfz66_1); (try clear hfz66_2); (try clear hfz68_0); (try clear hfz68_1); (try clear hfz68_2); (try clear hfz70_0); (try clear hfz70_1); (try clear hfz70_2); (try clear hfz72_0); (try clear hfz72_1); (try clear hfz72_2); (try clear hfz74_0); (try clear hfz74_1); (try clear hfz74_2); (try clear hx342_0); (try clear hx343_0); (try clear hx344_0); (try clear hx344_1); (try clear hx344_2); (try clear hx344_3); (try clear hx344_4); (try clear hx344_5); (try clear hx344_6); (try clear hx344_7); (try clear hx344_8); (try clear hx355_0); (try clear hx355_1); (try clear hx361_0); (try clear hx361_1); (try clear p2); (try clear p3); (try clear p34); (try clear p342); (try clear p343); (try clear p344); (try clear p355); (try clear p361); (try clear p6); (try clear q1); (try clear q11); (try clear q14); (try clear q3); (try clear q34); (try clear q342); (try clear q343); (try clear q344); (try clear q355); (try clear q361)
                            obtain ⟨kq, x161_53, rfl, HA, HJ53, HO_5, HO_16, BK345, BK360, HB⟩ := hcut
                            cases kq with
                            | zero => exact absurd HA.out (by simp [regletlaw15_LocateBack.j6])
                            | succ kj53 =>
                              have H := HA.out
                              clear HA
                              simp only [regletlaw15_LocateBack.j6] at H
                              by_cases c75 : x161_53 = true
                              · subst c75
                                have H1 : (some false) = some r := by rw [if_pos rfl] at H; exact H
                                clear H
                                have H := H1
                                clear H1
                                obtain rfl := Option.some.inj H
                                go_wp2
                                repeat (go_quiet (fail); try go_wp2)
                                go_ret
                                exact ⟨z155_, z58_⟩
                              replace c75 := Bool.eq_false_iff.mpr c75
                              subst c75
                              have H1 : ((locate_Hit.f kj53 t338 l1 t356 t357 t358).bind fun bt362 => (if bt362.2 = 0 then (if 0 ≤ (wrap64 (x17_6 + 1)) then (if (wrap64 (x17_6 + 1)) < (t352.length : Int) then (if 0 ≤ x17_6 then (if x17_6 < (t352.length : Int) then (if ((rd_T43 t352 (wrap64 (x17_6 + 1))).f1) > ((rd_T43 t352 x17_6).f1) then (if bt362.1 = (wrap64 (t346 + ((rd_T43 t352 x17_6).f0))) then (regletlaw15_LocateBack.l3 kj53 l1 t338 x6_2 x7_3 t346 t352 (wrap64 (x17_6 + 1))) else (some false)) else (regletlaw15_LocateBack.l3 kj53 l1 t338 x6_2 x7_3 t346 t352 (wrap64 (x17_6 + 1)))) else (none)) else (none)) else (none)) else (none)) else (some false))) = some r := by rw [if_neg (show ¬ (false = true) by decide)] at H; exact H
                              clear H
                              have H := H1
                              clear H1
                              replace H := Option.bind_eq_some_iff.mp H
                              obtain ⟨⟨t362, t363⟩, A760, H⟩ := H
                              replace H : (if t363 = 0 then (if 0 ≤ (wrap64 (x17_6 + 1)) then (if (wrap64 (x17_6 + 1)) < (t352.length : Int) then (if 0 ≤ x17_6 then (if x17_6 < (t352.length : Int) then (if ((rd_T43 t352 (wrap64 (x17_6 + 1))).f1) > ((rd_T43 t352 x17_6).f1) then (if t362 = (wrap64 (t346 + ((rd_T43 t352 x17_6).f0))) then (regletlaw15_LocateBack.l3 kj53 l1 t338 x6_2 x7_3 t346 t352 (wrap64 (x17_6 + 1))) else (some false)) else (regletlaw15_LocateBack.l3 kj53 l1 t338 x6_2 x7_3 t346 t352 (wrap64 (x17_6 + 1)))) else (none)) else (none)) else (none)) else (none)) else (some false)) = some r := H
                              have A76 := Aside0.mk A760
                              clear A760
                              by_cases c77 : t363 = 0
                              rotate_left
                              · rw [if_neg c77] at H
                                have c77b0 : (t363 == 0) = false := beq_eq_false_iff_ne.mpr c77
                                have c77b1 : (t363 != 0) = true := bne_iff_ne.mpr c77
                                obtain rfl := Option.some.inj H
                                have hnb94 := NB360_345.out
                                have hnc94 := NB345_360.out
                                have hcz95_0 : wc.cell? ⟨gb360, 0, none⟩ = some (.int .i64 t356) := (blk_cell BK360.out 0).trans rfl
                                have hcz95_1 : wc.cell? ⟨gb360, 1, none⟩ = some (.int .i64 t357) := (blk_cell BK360.out 1).trans rfl
                                have hcz95_2 : wc.cell? ⟨gb360, 2, none⟩ = some (.int .i64 t358) := (blk_cell BK360.out 2).trans rfl
                                have hfz95_0 := blk_frozen BK360.out 0
                                have hfz95_1 := blk_frozen BK360.out 1
                                have hfz95_2 := blk_frozen BK360.out 2
                                go_wp2_with (first | (go_at_call 20; (with_reducible refine (locate_Hit.calls kj53 _ co48 t338 _ _ l1 t356 t357 t358 t362 t363 _ ?side1 ?side2 ?side3 ?side4 A76.out).mono ?_); (case side1 => exact z36_); (case side2 => exact z187_); (case side3 => exact z68_); (case side4 => exact HC1.out); rintro e w96 ⟨rfl, hb⟩; replace HO_5 := Aside0.mk (Kd.V_below z151_ hb); replace HO_16 := Aside0.mk (Kd.R_below z143_ hb); replace BK345 := Aside0.mk (blk_below (g := gb345) (o := .cells #[.string ((rd_T28 ((rd_T24 l1 x6_2).f0) x7_3).f0), .slice A344_1 ((rd_T28 ((rd_T24 l1 x6_2).f0) x7_3).f1).length c344_1, .int .i64 ((rd_T28 ((rd_T24 l1 x6_2).f0) x7_3).f2), .int .i64 ((rd_T28 ((rd_T24 l1 x6_2).f0) x7_3).f3), .int .i64 ((rd_T28 ((rd_T24 l1 x6_2).f0) x7_3).f4), .bool ((rd_T28 ((rd_T24 l1 x6_2).f0) x7_3).f5), .int .i64 ((rd_T28 ((rd_T24 l1 x6_2).f0) x7_3).f6), .bool ((rd_T28 ((rd_T24 l1 x6_2).f0) x7_3).f7), .bool ((rd_T28 ((rd_T24 l1 x6_2).f0) x7_3).f8)] 28 (0, 0)) z135_ hb); replace BK360 := Aside0.mk (blk_below (g := gb360) (o := .cells #[.int .i64 t356, .int .i64 t357, .int .i64 t358] 49 (0, 0)) z136_ hb); replace HB := Aside0.mk (below_step z58_ hb); (try clear hb); (try clear hb2); (try clear hk); (try clear hi)))
                                repeat (go_quiet (first | (go_at_call 20; (with_reducible refine (locate_Hit.calls kj53 _ co48 t338 _ _ l1 t356 t357 t358 t362 t363 _ ?side1 ?side2 ?side3 ?side4 A76.out).mono ?_); (case side1 => exact z36_); (case side2 => exact z187_); (case side3 => exact z68_); (case side4 => exact HC1.out); rintro e w96 ⟨rfl, hb⟩; replace HO_5 := Aside0.mk (Kd.V_below z151_ hb); replace HO_16 := Aside0.mk (Kd.R_below z143_ hb); replace BK345 := Aside0.mk (blk_below (g := gb345) (o := .cells #[.string ((rd_T28 ((rd_T24 l1 x6_2).f0) x7_3).f0), .slice A344_1 ((rd_T28 ((rd_T24 l1 x6_2).f0) x7_3).f1).length c344_1, .int .i64 ((rd_T28 ((rd_T24 l1 x6_2).f0) x7_3).f2), .int .i64 ((rd_T28 ((rd_T24 l1 x6_2).f0) x7_3).f3), .int .i64 ((rd_T28 ((rd_T24 l1 x6_2).f0) x7_3).f4), .bool ((rd_T28 ((rd_T24 l1 x6_2).f0) x7_3).f5), .int .i64 ((rd_T28 ((rd_T24 l1 x6_2).f0) x7_3).f6), .bool ((rd_T28 ((rd_T24 l1 x6_2).f0) x7_3).f7), .bool ((rd_T28 ((rd_T24 l1 x6_2).f0) x7_3).f8)] 28 (0, 0)) z135_ hb); replace BK360 := Aside0.mk (blk_below (g := gb360) (o := .cells #[.int .i64 t356, .int .i64 t357, .int .i64 t358] 49 (0, 0)) z136_ hb); replace HB := Aside0.mk (below_step z58_ hb); (try clear hb); (try clear hb2); (try clear hk); (try clear hi))); try go_wp2_with (first | (go_at_call 20; (with_reducible refine (locate_Hit.calls kj53 _ co48 t338 _ _ l1 t356 t357 t358 t362 t363 _ ?side1 ?side2 ?side3 ?side4 A76.out).mono ?_); (case side1 => exact z36_); (case side2 => exact z187_); (case side3 => exact z68_); (case side4 => exact HC1.out); rintro e w96 ⟨rfl, hb⟩; replace HO_5 := Aside0.mk (Kd.V_below z151_ hb); replace HO_16 := Aside0.mk (Kd.R_below z143_ hb); replace BK345 := Aside0.mk (blk_below (g := gb345) (o := .cells #[.string ((rd_T28 ((rd_T24 l1 x6_2).f0) x7_3).f0), .slice A344_1 ((rd_T28 ((rd_T24 l1 x6_2).f0) x7_3).f1).length c344_1, .int .i64 ((rd_T28 ((rd_T24 l1 x6_2).f0) x7_3).f2), .int .i64 ((rd_T28 ((rd_T24 l1 x6_2).f0) x7_3).f3), .int .i64 ((rd_T28 ((rd_T24 l1 x6_2).f0) x7_3).f4), .bool ((rd_T28 ((rd_T24 l1 x6_2).f0) x7_3).f5), .int .i64 ((rd_T28 ((rd_T24 l1 x6_2).f0) x7_3).f6), .bool ((rd_T28 ((rd_T24 l1 x6_2).f0) x7_3).f7), .bool ((rd_T28 ((rd_T24 l1 x6_2).f0) x7_3).f8)] 28 (0, 0)) z135_ hb); replace BK360 := Aside0.mk (blk_below (g := gb360) (o := .cells #[.int .i64 t356, .int .i64 t357, .int .i64 t358] 49 (0, 0)) z136_ hb); replace HB := Aside0.mk (below_step z58_ hb); (try clear hb); (try clear hb2); (try clear hk); (try clear hi))))
                                go_ret
                                exact ⟨z155_, z58_⟩
                              rw [if_pos c77] at H
                              have c77b0 : (t363 == 0) = true := beq_iff_eq.mpr c77
                              have c77b1 : (t363 != 0) = false := bne_eq_false_iff_eq.mpr c77
                              clear c77
                              obtain ⟨ji78, hji78⟩ : ∃ j_ : Int, (wrap64 (x17_6 + 1)) = j_ := ⟨_, rfl⟩
                              replace H : (if 0 ≤ (ji78) then (if (ji78) < (t352.length : Int) then (if 0 ≤ x17_6 then (if x17_6 < (t352.length : Int) then (if ((rd_T43 t352 (ji78)).f1) > ((rd_T43 t352 x17_6).f1) then (if t362 = (wrap64 (t346 + ((rd_T43 t352 x17_6).f0))) then (regletlaw15_LocateBack.l3 kj53 l1 t338 x6_2 x7_3 t346 t352 ji78) else (some false)) else (regletlaw15_LocateBack.l3 kj53 l1 t338 x6_2 x7_3 t346 t352 ji78)) else (none)) else (none)) else (none)) else (none)) = some r := by first | (rw [hji78] at H; exact H) | (simp only [hji78] at H ⊢; exact H)
                              (try rw [hji78] at c50b0)
                              (try rw [hji78] at A76)
                              have hji78w : (IntKind.i64.wrap (x17_6 + 1)) = ji78 := (i64_w _).trans hji78
                              by_cases c79 : 0 ≤ (ji78)
                              rotate_left
                              · rw [if_neg c79] at H
                                exact absurd H (by simp)
                              rw [if_pos c79] at H
                              have c79b0 : decide (0 ≤ (ji78)) = true := decide_eq_true c79
                              clear c79
                              by_cases c80 : (ji78) < (t352.length : Int)
                              rotate_left
                              · rw [if_neg c80] at H
                                exact absurd H (by simp)
                              rw [if_pos c80] at H
                              have c80b0 : decide ((ji78) < (t352.length : Int)) = true := decide_eq_true c80
                              clear c80
                              by_cases c81 : 0 ≤ x17_6
                              rotate_left
                              · rw [if_neg c81] at H
                                exact absurd H (by simp)
                              rw [if_pos c81] at H
                              have c81b0 : decide (0 ≤ x17_6) = true := decide_eq_true c81
                              clear c81
                              by_cases c82 : x17_6 < (t352.length : Int)
                              rotate_left
                              · rw [if_neg c82] at H
                                exact absurd H (by simp)
                              rw [if_pos c82] at H
                              have c82b0 : decide (x17_6 < (t352.length : Int)) = true := decide_eq_true c82
                              clear c82
                              by_cases c83 : ((rd_T43 t352 (ji78)).f1) > ((rd_T43 t352 x17_6).f1)
                              rotate_left
                              · rw [if_neg c83] at H
                                have c83b0 : decide (((rd_T43 t352 x17_6).f1) < ((rd_T43 t352 (ji78)).f1)) = false := decide_eq_false c83
                                clear c83
                                have H' := Aside0.mk H
                                clear H
                                have hnb91 := NB360_345.out
                                have hnc91 := NB345_360.out
                                have hcz92_0 : wc.cell? ⟨gb360, 0, none⟩ = some (.int .i64 t356) := (blk_cell BK360.out 0).trans rfl
                                have hcz92_1 : wc.cell? ⟨gb360, 1, none⟩ = some (.int .i64 t357) := (blk_cell BK360.out 1).trans rfl
                                have hcz92_2 : wc.cell? ⟨gb360, 2, none⟩ = some (.int .i64 t358) := (blk_cell BK360.out 2).trans rfl
                                have hfz92_0 := blk_frozen BK360.out 0
                                have hfz92_1 := blk_frozen BK360.out 1
                                have hfz92_2 := blk_frozen BK360.out 2
                                go_wp2_with (first | (go_at_call 20; (with_reducible refine (locate_Hit.calls kj53 _ co48 t338 _ _ l1 t356 t357 t358 t362 t363 _ ?side1 ?side2 ?side3 ?side4 A76.out).mono ?_); (case side1 => exact z36_); (case side2 => exact z187_); (case side3 => exact z68_); (case side4 => exact HC1.out); rintro e w93 ⟨rfl, hb⟩; replace HO_5 := Aside0.mk (Kd.V_below z151_ hb); replace HO_16 := Aside0.mk (Kd.R_below z143_ hb); replace BK345 := Aside0.mk (blk_below (g := gb345) (o := .cells #[.string ((rd_T28 ((rd_T24 l1 x6_2).f0) x7_3).f0), .slice A344_1 ((rd_T28 ((rd_T24 l1 x6_2).f0) x7_3).f1).length c344_1, .int .i64 ((rd_T28 ((rd_T24 l1 x6_2).f0) x7_3).f2), .int .i64 ((rd_T28 ((rd_T24 l1 x6_2).f0) x7_3).f3), .int .i64 ((rd_T28 ((rd_T24 l1 x6_2).f0) x7_3).f4), .bool ((rd_T28 ((rd_T24 l1 x6_2).f0) x7_3).f5), .int .i64 ((rd_T28 ((rd_T24 l1 x6_2).f0) x7_3).f6), .bool ((rd_T28 ((rd_T24 l1 x6_2).f0) x7_3).f7), .bool ((rd_T28 ((rd_T24 l1 x6_2).f0) x7_3).f8)] 28 (0, 0)) z135_ hb); replace BK360 := Aside0.mk (blk_below (g := gb360) (o := .cells #[.int .i64 t356, .int .i64 t357, .int .i64 t358] 49 (0, 0)) z136_ hb); replace HB := Aside0.mk (below_step z58_ hb); (try clear hb); (try clear hb2); (try clear hk); (try clear hi); have p364 : 0 ≤ ((ji78) : Int) := of_decide_eq_true z178_; have q364 : (ji78) < (t352.length : Int) := of_decide_eq_true z178_; obtain ⟨ad364, e364, hx364_0, hx364_1⟩ := at_T43 (Kd.R_reads' HO_16.out).2.2 (ji78) p364 q364; obtain rfl : ad355 = ad364 := (by injection e364); replace p364 := eq_true p364; replace q364 := eq_true q364; have p365 : 0 ≤ (x17_6 : Int) := of_decide_eq_true z178_; have q365 : x17_6 < (t352.length : Int) := of_decide_eq_true z178_; obtain ⟨ad365, e365, hx365_0, hx365_1⟩ := at_T43 (Kd.R_reads' HO_16.out).2.2 x17_6 p365 q365; obtain rfl : ad355 = ad365 := (by injection e365); replace p365 := eq_true p365; replace q365 := eq_true q365))
                                repeat (go_quiet (first | (go_at_call 20; (with_reducible refine (locate_Hit.calls kj53 _ co48 t338 _ _ l1 t356 t357 t358 t362 t363 _ ?side1 ?side2 ?side3 ?side4 A76.out).mono ?_); (case side1 => exact z36_); (case side2 => exact z187_); (case side3 => exact z68_); (case side4 => exact HC1.out); rintro e w93 ⟨rfl, hb⟩; replace HO_5 := Aside0.mk (Kd.V_below z151_ hb); replace HO_16 := Aside0.mk (Kd.R_below z143_ hb); replace BK345 := Aside0.mk (blk_below (g := gb345) (o := .cells #[.string ((rd_T28 ((rd_T24 l1 x6_2).f0) x7_3).f0), .slice A344_1 ((rd_T28 ((rd_T24 l1 x6_2).f0) x7_3).f1).length c344_1, .int .i64 ((rd_T28 ((rd_T24 l1 x6_2).f0) x7_3).f2), .int .i64 ((rd_T28 ((rd_T24 l1 x6_2).f0) x7_3).f3), .int .i64 ((rd_T28 ((rd_T24 l1 x6_2).f0) x7_3).f4), .bool ((rd_T28 ((rd_T24 l1 x6_2).f0) x7_3).f5), .int .i64 ((rd_T28 ((rd_T24 l1 x6_2).f0) x7_3).f6), .bool ((rd_T28 ((rd_T24 l1 x6_2).f0) x7_3).f7), .bool ((rd_T28 ((rd_T24 l1 x6_2).f0) x7_3).f8)] 28 (0, 0)) z135_ hb); replace BK360 := Aside0.mk (blk_below (g := gb360) (o := .cells #[.int .i64 t356, .int .i64 t357, .int .i64 t358] 49 (0, 0)) z136_ hb); replace HB := Aside0.mk (below_step z58_ hb); (try clear hb); (try clear hb2); (try clear hk); (try clear hi); have p364 : 0 ≤ ((ji78) : Int) := of_decide_eq_true z178_; have q364 : (ji78) < (t352.length : Int) := of_decide_eq_true z178_; obtain ⟨ad364, e364, hx364_0, hx364_1⟩ := at_T43 (Kd.R_reads' HO_16.out).2.2 (ji78) p364 q364; obtain rfl : ad355 = ad364 := (by injection e364); replace p364 := eq_true p364; replace q364 := eq_true q364; have p365 : 0 ≤ (x17_6 : Int) := of_decide_eq_true z178_; have q365 : x17_6 < (t352.length : Int) := of_decide_eq_true z178_; obtain ⟨ad365, e365, hx365_0, hx365_1⟩ := at_T43 (Kd.R_reads' HO_16.out).2.2 x17_6 p365 q365; obtain rfl : ad355 = ad365 := (by injection e365); replace p365 := eq_true p365; replace q365 := eq_true q365)); try go_wp2_with (first | (go_at_call 20; (with_reducible refine (locate_Hit.calls kj53 _ co48 t338 _ _ l1 t356 t357 t358 t362 t363 _ ?side1 ?side2 ?side3 ?side4 A76.out).mono ?_); (case side1 => exact z36_); (case side2 => exact z187_); (case side3 => exact z68_); (case side4 => exact HC1.out); rintro e w93 ⟨rfl, hb⟩; replace HO_5 := Aside0.mk (Kd.V_below z151_ hb); replace HO_16 := Aside0.mk (Kd.R_below z143_ hb); replace BK345 := Aside0.mk (blk_below (g := gb345) (o := .cells #[.string ((rd_T28 ((rd_T24 l1 x6_2).f0) x7_3).f0), .slice A344_1 ((rd_T28 ((rd_T24 l1 x6_2).f0) x7_3).f1).length c344_1, .int .i64 ((rd_T28 ((rd_T24 l1 x6_2).f0) x7_3).f2), .int .i64 ((rd_T28 ((rd_T24 l1 x6_2).f0) x7_3).f3), .int .i64 ((rd_T28 ((rd_T24 l1 x6_2).f0) x7_3).f4), .bool ((rd_T28 ((rd_T24 l1 x6_2).f0) x7_3).f5), .int .i64 ((rd_T28 ((rd_T24 l1 x6_2).f0) x7_3).f6), .bool ((rd_T28 ((rd_T24 l1 x6_2).f0) x7_3).f7), .bool ((rd_T28 ((rd_T24 l1 x6_2).f0) x7_3).f8)] 28 (0, 0)) z135_ hb); replace BK360 := Aside0.mk (blk_below (g := gb360) (o := .cells #[.int .i64 t356, .int .i64 t357, .int .i64 t358] 49 (0, 0)) z136_ hb); replace HB := Aside0.mk (below_step z58_ hb); (try clear hb); (try clear hb2); (try clear hk); (try clear hi); have p364 : 0 ≤ ((ji78) : Int) := of_decide_eq_true z178_; have q364 : (ji78) < (t352.length : Int) := of_decide_eq_true z178_; obtain ⟨ad364, e364, hx364_0, hx364_1⟩ := at_T43 (Kd.R_reads' HO_16.out).2.2 (ji78) p364 q364; obtain rfl : ad355 = ad364 := (by injection e364); replace p364 := eq_true p364; replace q364 := eq_true q364; have p365 : 0 ≤ (x17_6 : Int) := of_decide_eq_true z178_; have q365 : x17_6 < (t352.length : Int) := of_decide_eq_true z178_; obtain ⟨ad365, e365, hx365_0, hx365_1⟩ := at_T43 (Kd.R_reads' HO_16.out).2.2 x17_6 p365 q365; obtain rfl : ad355 = ad365 := (by injection e365); replace p365 := eq_true p365; replace q365 := eq_true q365)))
                                first | go_roundg kj53 | (rw [← hpq48]; go_roundg kj53)
                                case measure => have := HJ5.out; have := HK2.out; have := HK3.out; have := HJ22.out; have := HK5.out; have := HK6.out; have := HJ53.out; omega
                                case rel => exact ⟨(ji78), z157_, H', ⟨z107_⟩, ⟨z96_⟩, ⟨z143_⟩, ⟨z135_⟩, ⟨z58_⟩⟩
                              rw [if_pos c83] at H
                              have c83b0 : decide (((rd_T43 t352 x17_6).f1) < ((rd_T43 t352 (ji78)).f1)) = true := decide_eq_true c83
                              clear c83
                              by_cases c84 : t362 = (wrap64 (t346 + ((rd_T43 t352 x17_6).f0)))
                              rotate_left
                              · rw [if_neg c84] at H
                                have c84b0 : (t362 == (wrap64 (t346 + ((rd_T43 t352 x17_6).f0)))) = false := beq_eq_false_iff_ne.mpr c84
                                have c84b1 : (t362 != (wrap64 (t346 + ((rd_T43 t352 x17_6).f0)))) = true := bne_iff_ne.mpr c84
                                obtain rfl := Option.some.inj H
                                have hnb88 := NB360_345.out
                                have hnc88 := NB345_360.out
                                have hcz89_0 : wc.cell? ⟨gb360, 0, none⟩ = some (.int .i64 t356) := (blk_cell BK360.out 0).trans rfl
                                have hcz89_1 : wc.cell? ⟨gb360, 1, none⟩ = some (.int .i64 t357) := (blk_cell BK360.out 1).trans rfl
                                have hcz89_2 : wc.cell? ⟨gb360, 2, none⟩ = some (.int .i64 t358) := (blk_cell BK360.out 2).trans rfl
                                have hfz89_0 := blk_frozen BK360.out 0
                                have hfz89_1 := blk_frozen BK360.out 1
                                have hfz89_2 := blk_frozen BK360.out 2
                                go_wp2_with (first | (go_at_call 20; (with_reducible refine (locate_Hit.calls kj53 _ co48 t338 _ _ l1 t356 t357 t358 t362 t363 _ ?side1 ?side2 ?side3 ?side4 A76.out).mono ?_); (case side1 => exact z36_); (case side2 => exact z187_); (case side3 => exact z68_); (case side4 => exact HC1.out); rintro e w90 ⟨rfl, hb⟩; replace HO_5 := Aside0.mk (Kd.V_below z151_ hb); replace HO_16 := Aside0.mk (Kd.R_below z143_ hb); replace BK345 := Aside0.mk (blk_below (g := gb345) (o := .cells #[.string ((rd_T28 ((rd_T24 l1 x6_2).f0) x7_3).f0), .slice A344_1 ((rd_T28 ((rd_T24 l1 x6_2).f0) x7_3).f1).length c344_1, .int .i64 ((rd_T28 ((rd_T24 l1 x6_2).f0) x7_3).f2), .int .i64 ((rd_T28 ((rd_T24 l1 x6_2).f0) x7_3).f3), .int .i64 ((rd_T28 ((rd_T24 l1 x6_2).f0) x7_3).f4), .bool ((rd_T28 ((rd_T24 l1 x6_2).f0) x7_3).f5), .int .i64 ((rd_T28 ((rd_T24 l1 x6_2).f0) x7_3).f6), .bool ((rd_T28 ((rd_T24 l1 x6_2).f0) x7_3).f7), .bool ((rd_T28 ((rd_T24 l1 x6_2).f0) x7_3).f8)] 28 (0, 0)) z135_ hb); replace BK360 := Aside0.mk (blk_below (g := gb360) (o := .cells #[.int .i64 t356, .int .i64 t357, .int .i64 t358] 49 (0, 0)) z136_ hb); replace HB := Aside0.mk (below_step z58_ hb); (try clear hb); (try clear hb2); (try clear hk); (try clear hi); have p364 : 0 ≤ ((ji78) : Int) := of_decide_eq_true z178_; have q364 : (ji78) < (t352.length : Int) := of_decide_eq_true z178_; obtain ⟨ad364, e364, hx364_0, hx364_1⟩ := at_T43 (Kd.R_reads' HO_16.out).2.2 (ji78) p364 q364; obtain rfl : ad355 = ad364 := (by injection e364); replace p364 := eq_true p364; replace q364 := eq_true q364; have p365 : 0 ≤ (x17_6 : Int) := of_decide_eq_true z178_; have q365 : x17_6 < (t352.length : Int) := of_decide_eq_true z178_; obtain ⟨ad365, e365, hx365_0, hx365_1⟩ := at_T43 (Kd.R_reads' HO_16.out).2.2 x17_6 p365 q365; obtain rfl : ad355 = ad365 := (by injection e365); replace p365 := eq_true p365; replace q365 := eq_true q365; have p366 : 0 ≤ (x17_6 : Int) := of_decide_eq_true z178_; have q366 : x17_6 < (t352.length : Int) := of_decide_eq_true z178_; obtain ⟨ad366, e366, hx366_0, hx366_1⟩ := at_T43 (Kd.R_reads' HO_16.out).2.2 x17_6 p366 q366; obtain rfl : ad355 = ad366 := (by injection e366); replace p366 := eq_true p366; replace q366 := eq_true q366))
                                repeat (go_quiet (first | (go_at_call 20; (with_reducible refine (locate_Hit.calls kj53 _ co48 t338 _ _ l1 t356 t357 t358 t362 t363 _ ?side1 ?side2 ?side3 ?side4 A76.out).mono ?_); (case side1 => exact z36_); (case side2 => exact z187_); (case side3 => exact z68_); (case side4 => exact HC1.out); rintro e w90 ⟨rfl, hb⟩; replace HO_5 := Aside0.mk (Kd.V_below z151_ hb); replace HO_16 := Aside0.mk (Kd.R_below z143_ hb); replace BK345 := Aside0.mk (blk_below (g := gb345) (o := .cells #[.string ((rd_T28 ((rd_T24 l1 x6_2).f0) x7_3).f0), .slice A344_1 ((rd_T28 ((rd_T24 l1 x6_2).f0) x7_3).f1).length c344_1, .int .i64 ((rd_T28 ((rd_T24 l1 x6_2).f0) x7_3).f2), .int .i64 ((rd_T28 ((rd_T24 l1 x6_2).f0) x7_3).f3), .int .i64 ((rd_T28 ((rd_T24 l1 x6_2).f0) x7_3).f4), .bool ((rd_T28 ((rd_T24 l1 x6_2).f0) x7_3).f5), .int .i64 ((rd_T28 ((rd_T24 l1 x6_2).f0) x7_3).f6), .bool ((rd_T28 ((rd_T24 l1 x6_2).f0) x7_3).f7), .bool ((rd_T28 ((rd_T24 l1 x6_2).f0) x7_3).f8)] 28 (0, 0)) z135_ hb); replace BK360 := Aside0.mk (blk_below (g := gb360) (o := .cells #[.int .i64 t356, .int .i64 t357, .int .i64 t358] 49 (0, 0)) z136_ hb); replace HB := Aside0.mk (below_step z58_ hb); (try clear hb); (try clear hb2); (try clear hk); (try clear hi); have p364 : 0 ≤ ((ji78) : Int) := of_decide_eq_true z178_; have q364 : (ji78) < (t352.length : Int) := of_decide_eq_true z178_; obtain ⟨ad364, e364, hx364_0, hx364_1⟩ := at_T43 (Kd.R_reads' HO_16.out).2.2 (ji78) p364 q364; obtain rfl : ad355 = ad364 := (by injection e364); replace p364 := eq_true p364; replace q364 := eq_true q364; have p365 : 0 ≤ (x17_6 : Int) := of_decide_eq_true z178_; have q365 : x17_6 < (t352.length : Int) := of_decide_eq_true z178_; obtain ⟨ad365, e365, hx365_0, hx365_1⟩ := at_T43 (Kd.R_reads' HO_16.out).2.2 x17_6 p365 q365; obtain rfl : ad355 = ad365 := (by injection e365); replace p365 := eq_true p365; replace q365 := eq_true q365; have p366 : 0 ≤ (x17_6 : Int) := of_decide_eq_true z178_; have q366 : x17_6 < (t352.length : Int) := of_decide_eq_true z178_; obtain ⟨ad366, e366, hx366_0, hx366_1⟩ := at_T43 (Kd.R_reads' HO_16.out).2.2 x17_6 p366 q366; obtain rfl : ad355 = ad366 := (by injection e366); replace p366 := eq_true p366; replace q366 := eq_true q366)); try go_wp2_with (first | (go_at_call 20; (with_reducible refine (locate_Hit.calls kj53 _ co48 t338 _ _ l1 t356 t357 t358 t362 t363 _ ?side1 ?side2 ?side3 ?side4 A76.out).mono ?_); (case side1 => exact z36_); (case side2 => exact z187_); (case side3 => exact z68_); (case side4 => exact HC1.out); rintro e w90 ⟨rfl, hb⟩; replace HO_5 := Aside0.mk (Kd.V_below z151_ hb); replace HO_16 := Aside0.mk (Kd.R_below z143_ hb); replace BK345 := Aside0.mk (blk_below (g := gb345) (o := .cells #[.string ((rd_T28 ((rd_T24 l1 x6_2).f0) x7_3).f0), .slice A344_1 ((rd_T28 ((rd_T24 l1 x6_2).f0) x7_3).f1).length c344_1, .int .i64 ((rd_T28 ((rd_T24 l1 x6_2).f0) x7_3).f2), .int .i64 ((rd_T28 ((rd_T24 l1 x6_2).f0) x7_3).f3), .int .i64 ((rd_T28 ((rd_T24 l1 x6_2).f0) x7_3).f4), .bool ((rd_T28 ((rd_T24 l1 x6_2).f0) x7_3).f5), .int .i64 ((rd_T28 ((rd_T24 l1 x6_2).f0) x7_3).f6), .bool ((rd_T28 ((rd_T24 l1 x6_2).f0) x7_3).f7), .bool ((rd_T28 ((rd_T24 l1 x6_2).f0) x7_3).f8)] 28 (0, 0)) z135_ hb); replace BK360 := Aside0.mk (blk_below (g := gb360) (o := .cells #[.int .i64 t356, .int .i64 t357, .int .i64 t358] 49 (0, 0)) z136_ hb); replace HB := Aside0.mk (below_step z58_ hb); (try clear hb); (try clear hb2); (try clear hk); (try clear hi); have p364 : 0 ≤ ((ji78) : Int) := of_decide_eq_true z178_; have q364 : (ji78) < (t352.length : Int) := of_decide_eq_true z178_; obtain ⟨ad364, e364, hx364_0, hx364_1⟩ := at_T43 (Kd.R_reads' HO_16.out).2.2 (ji78) p364 q364; obtain rfl : ad355 = ad364 := (by injection e364); replace p364 := eq_true p364; replace q364 := eq_true q364; have p365 : 0 ≤ (x17_6 : Int) := of_decide_eq_true z178_; have q365 : x17_6 < (t352.length : Int) := of_decide_eq_true z178_; obtain ⟨ad365, e365, hx365_0, hx365_1⟩ := at_T43 (Kd.R_reads' HO_16.out).2.2 x17_6 p365 q365; obtain rfl : ad355 = ad365 := (by injection e365); replace p365 := eq_true p365; replace q365 := eq_true q365; have p366 : 0 ≤ (x17_6 : Int) := of_decide_eq_true z178_; have q366 : x17_6 < (t352.length : Int) := of_decide_eq_true z178_; obtain ⟨ad366, e366, hx366_0, hx366_1⟩ := at_T43 (Kd.R_reads' HO_16.out).2.2 x17_6 p366 q366; obtain rfl : ad355 = ad366 := (by injection e366); replace p366 := eq_true p366; replace q366 := eq_true q366)))
                                go_ret
                                exact ⟨by first | rfl | (simp [errW_none, errW_some] <;> rfl) | (simp only [← hji78]; first | rfl | (simp [errW_none, errW_some] <;> rfl)) | (simp [*, errW_none, errW_some] <;> rfl), z58_⟩
                              rw [if_pos c84] at H
                              have c84b0 : (t362 == (wrap64 (t346 + ((rd_T43 t352 x17_6).f0)))) = true := beq_iff_eq.mpr c84
                              have c84b1 : (t362 != (wrap64 (t346 + ((rd_T43 t352 x17_6).f0)))) = false := bne_eq_false_iff_eq.mpr c84
                              clear c84
                              have H' := Aside0.mk H
                              clear H
                              have hnb85 := NB360_345.out
                              have hnc85 := NB345_360.out
                              have hcz86_0 : wc.cell? ⟨gb360, 0, none⟩ = some (.int .i64 t356) := (blk_cell BK360.out 0).trans rfl
                              have hcz86_1 : wc.cell? ⟨gb360, 1, none⟩ = some (.int .i64 t357) := (blk_cell BK360.out 1).trans rfl
                              have hcz86_2 : wc.cell? ⟨gb360, 2, none⟩ = some (.int .i64 t358) := (blk_cell BK360.out 2).trans rfl
                              have hfz86_0 := blk_frozen BK360.out 0
                              have hfz86_1 := blk_frozen BK360.out 1
                              have hfz86_2 := blk_frozen BK360.out 2
                              go_wp2_with (first | (go_at_call 20; (with_reducible refine (locate_Hit.calls kj53 _ co48 t338 _ _ l1 t356 t357 t358 t362 t363 _ ?side1 ?side2 ?side3 ?side4 A76.out).mono ?_); (case side1 => exact z36_); (case side2 => exact z187_); (case side3 => exact z68_); (case side4 => exact HC1.out); rintro e w87 ⟨rfl, hb⟩; replace HO_5 := Aside0.mk (Kd.V_below z151_ hb); replace HO_16 := Aside0.mk (Kd.R_below z143_ hb); replace BK345 := Aside0.mk (blk_below (g := gb345) (o := .cells #[.string ((rd_T28 ((rd_T24 l1 x6_2).f0) x7_3).f0), .slice A344_1 ((rd_T28 ((rd_T24 l1 x6_2).f0) x7_3).f1).length c344_1, .int .i64 ((rd_T28 ((rd_T24 l1 x6_2).f0) x7_3).f2), .int .i64 ((rd_T28 ((rd_T24 l1 x6_2).f0) x7_3).f3), .int .i64 ((rd_T28 ((rd_T24 l1 x6_2).f0) x7_3).f4), .bool ((rd_T28 ((rd_T24 l1 x6_2).f0) x7_3).f5), .int .i64 ((rd_T28 ((rd_T24 l1 x6_2).f0) x7_3).f6), .bool ((rd_T28 ((rd_T24 l1 x6_2).f0) x7_3).f7), .bool ((rd_T28 ((rd_T24 l1 x6_2).f0) x7_3).f8)] 28 (0, 0)) z135_ hb); replace BK360 := Aside0.mk (blk_below (g := gb360) (o := .cells #[.int .i64 t356, .int .i64 t357, .int .i64 t358] 49 (0, 0)) z136_ hb); replace HB := Aside0.mk (below_step z58_ hb); (try clear hb); (try clear hb2); (try clear hk); (try clear hi); have p364 : 0 ≤ ((ji78) : Int) := of_decide_eq_true z178_; have q364 : (ji78) < (t352.length : Int) := of_decide_eq_true z178_; obtain ⟨ad364, e364, hx364_0, hx364_1⟩ := at_T43 (Kd.R_reads' HO_16.out).2.2 (ji78) p364 q364; obtain rfl : ad355 = ad364 := (by injection e364); replace p364 := eq_true p364; replace q364 := eq_true q364; have p365 : 0 ≤ (x17_6 : Int) := of_decide_eq_true z178_; have q365 : x17_6 < (t352.length : Int) := of_decide_eq_true z178_; obtain ⟨ad365, e365, hx365_0, hx365_1⟩ := at_T43 (Kd.R_reads' HO_16.out).2.2 x17_6 p365 q365; obtain rfl : ad355 = ad365 := (by injection e365); replace p365 := eq_true p365; replace q365 := eq_true q365; have p366 : 0 ≤ (x17_6 : Int) := of_decide_eq_true z178_; have q366 : x17_6 < (t352.length : Int) := of_decide_eq_true z178_; obtain ⟨ad366, e366, hx366_0, hx366_1⟩ := at_T43 (Kd.R_reads' HO_16.out).2.2 x17_6 p366 q366; obtain rfl : ad355 = ad366 := (by injection e366); replace p366 := eq_true p366; replace q366 := eq_true q366))
                              repeat (go_quiet (first | (go_at_call 20; (with_reducible refine (locate_Hit.calls kj53 _ co48 t338 _ _ l1 t356 t357 t358 t362 t363 _ ?side1 ?side2 ?side3 ?side4 A76.out).mono ?_); (case side1 => exact z36_); (case side2 => exact z187_); (case side3 => exact z68_); (case side4 => exact HC1.out); rintro e w87 ⟨rfl, hb⟩; replace HO_5 := Aside0.mk (Kd.V_below z151_ hb); replace HO_16 := Aside0.mk (Kd.R_below z143_ hb); replace BK345 := Aside0.mk (blk_below (g := gb345) (o := .cells #[.string ((rd_T28 ((rd_T24 l1 x6_2).f0) x7_3).f0), .slice A344_1 ((rd_T28 ((rd_T24 l1 x6_2).f0) x7_3).f1).length c344_1, .int .i64 ((rd_T28 ((rd_T24 l1 x6_2).f0) x7_3).f2), .int .i64 ((rd_T28 ((rd_T24 l1 x6_2).f0) x7_3).f3), .int .i64 ((rd_T28 ((rd_T24 l1 x6_2).f0) x7_3).f4), .bool ((rd_T28 ((rd_T24 l1 x6_2).f0) x7_3).f5), .int .i64 ((rd_T28 ((rd_T24 l1 x6_2).f0) x7_3).f6), .bool ((rd_T28 ((rd_T24 l1 x6_2).f0) x7_3).f7), .bool ((rd_T28 ((rd_T24 l1 x6_2).f0) x7_3).f8)] 28 (0, 0)) z135_ hb); replace BK360 := Aside0.mk (blk_below (g := gb360) (o := .cells #[.int .i64 t356, .int .i64 t357, .int .i64 t358] 49 (0, 0)) z136_ hb); replace HB := Aside0.mk (below_step z58_ hb); (try clear hb); (try clear hb2); (try clear hk); (try clear hi); have p364 : 0 ≤ ((ji78) : Int) := of_decide_eq_true z178_; have q364 : (ji78) < (t352.length : Int) := of_decide_eq_true z178_; obtain ⟨ad364, e364, hx364_0, hx364_1⟩ := at_T43 (Kd.R_reads' HO_16.out).2.2 (ji78) p364 q364; obtain rfl : ad355 = ad364 := (by injection e364); replace p364 := eq_true p364; replace q364 := eq_true q364; have p365 : 0 ≤ (x17_6 : Int) := of_decide_eq_true z178_; have q365 : x17_6 < (t352.length : Int) := of_decide_eq_true z178_; obtain ⟨ad365, e365, hx365_0, hx365_1⟩ := at_T43 (Kd.R_reads' HO_16.out).2.2 x17_6 p365 q365; obtain rfl : ad355 = ad365 := (by injection e365); replace p365 := eq_true p365; replace q365 := eq_true q365; have p366 : 0 ≤ (x17_6 : Int) := of_decide_eq_true z178_; have q366 : x17_6 < (t352.length : Int) := of_decide_eq_true z178_; obtain ⟨ad366, e366, hx366_0, hx366_1⟩ := at_T43 (Kd.R_reads' HO_16.out).2.2 x17_6 p366 q366; obtain rfl : ad355 = ad366 := (by injection e366); replace p366 := eq_true p366; replace q366 := eq_true q366)); try go_wp2_with (first | (go_at_call 20; (with_reducible refine (locate_Hit.calls kj53 _ co48 t338 _ _ l1 t356 t357 t358 t362 t363 _ ?side1 ?side2 ?side3 ?side4 A76.out).mono ?_); (case side1 => exact z36_); (case side2 => exact z187_); (case side3 => exact z68_); (case side4 => exact HC1.out); rintro e w87 ⟨rfl, hb⟩; replace HO_5 := Aside0.mk (Kd.V_below z151_ hb); replace HO_16 := Aside0.mk (Kd.R_below z143_ hb); replace BK345 := Aside0.mk (blk_below (g := gb345) (o := .cells #[.string ((rd_T28 ((rd_T24 l1 x6_2).f0) x7_3).f0), .slice A344_1 ((rd_T28 ((rd_T24 l1 x6_2).f0) x7_3).f1).length c344_1, .int .i64 ((rd_T28 ((rd_T24 l1 x6_2).f0) x7_3).f2), .int .i64 ((rd_T28 ((rd_T24 l1 x6_2).f0) x7_3).f3), .int .i64 ((rd_T28 ((rd_T24 l1 x6_2).f0) x7_3).f4), .bool ((rd_T28 ((rd_T24 l1 x6_2).f0) x7_3).f5), .int .i64 ((rd_T28 ((rd_T24 l1 x6_2).f0) x7_3).f6), .bool ((rd_T28 ((rd_T24 l1 x6_2).f0) x7_3).f7), .bool ((rd_T28 ((rd_T24 l1 x6_2).f0) x7_3).f8)] 28 (0, 0)) z135_ hb); replace BK360 := Aside0.mk (blk_below (g := gb360) (o := .cells #[.int .i64 t356, .int .i64 t357, .int .i64 t358] 49 (0, 0)) z136_ hb); replace HB := Aside0.mk (below_step z58_ hb); (try clear hb); (try clear hb2); (try clear hk); (try clear hi); have p364 : 0 ≤ ((ji78) : Int) := of_decide_eq_true z178_; have q364 : (ji78) < (t352.length : Int) := of_decide_eq_true z178_; obtain ⟨ad364, e364, hx364_0, hx364_1⟩ := at_T43 (Kd.R_reads' HO_16.out).2.2 (ji78) p364 q364; obtain rfl : ad355 = ad364 := (by injection e364); replace p364 := eq_true p364; replace q364 := eq_true q364; have p365 : 0 ≤ (x17_6 : Int) := of_decide_eq_true z178_; have q365 : x17_6 < (t352.length : Int) := of_decide_eq_true z178_; obtain ⟨ad365, e365, hx365_0, hx365_1⟩ := at_T43 (Kd.R_reads' HO_16.out).2.2 x17_6 p365 q365; obtain rfl : ad355 = ad365 := (by injection e365); replace p365 := eq_true p365; replace q365 := eq_true q365; have p366 : 0 ≤ (x17_6 : Int) := of_decide_eq_true z178_; have q366 : x17_6 < (t352.length : Int) := of_decide_eq_true z178_; obtain ⟨ad366, e366, hx366_0, hx366_1⟩ := at_T43 (Kd.R_reads' HO_16.out).2.2 x17_6 p366 q366; obtain rfl : ad355 = ad366 := (by injection e366); replace p366 := eq_true p366; replace q366 := eq_true q366)))
                              first | go_roundg kj53 | (rw [← hpq48]; go_roundg kj53)
                              case measure => have := HJ5.out; have := HK2.out; have := HK3.out; have := HJ22.out; have := HK5.out; have := HK6.out; have := HJ53.out; omega
                              case rel => exact ⟨(ji78), z157_, H', ⟨z107_⟩, ⟨z96_⟩, ⟨z143_⟩, ⟨z135_⟩, ⟨z58_⟩⟩
end Go.Proofs.Ytiabffkfabmlpaa.PLocateBack
