-- WRITTEN BY wip/xprint.py of this repo, over the kit's print; functions the print does not take are by hand
import Derived.Test.YtblmcdpfhdamjaaPPaintWindowx0
import Derived.Test.YtblmcdpfhdamjaaPPaintWindowx1
import Derived.Test.YtblmcdpfhdamjaaPPaintWindowx14
import Derived.Test.YtblmcdpfhdamjaaPPaintWindowx15
namespace Go.Proofs.Ytblmcdpfhdamjaa.PPaintWindow
open Go.RowKit Go.Proofs.YtblmcdpfhdamjaaW.PrintWords Go.Proofs.YtblmcdpfhdamjaaW.PrintLast Go.Proofs.YtblmcdpfhdamjaaW.PrintMore
attribute [local go_sem] max2_int min2_int max_two min_two max_three min_three max_four min_four   -- for this text's walks alone
set_option linter.unusedVariables false
set_option linter.unusedSimpArgs false
attribute [local go_sem high] eqA56
/-! ### regletlaw21_PaintWindow: function 5 -/
mutual
def regletlaw21_PaintWindow.j0 : Nat → Int → Bool → Int → Int → Int → Int → Int → Option (Bool)
  | 0, _, _, _, _, _, _, _ => none
  | k + 1, x2, x56, x325000, x325001, x325002, x326000, x326001 => if x56 = true then ((paint_Right.f x325000 x325001 x325002).bind fun t327 => (some (t327 == 1))) else ((paint_Right.f x325000 x325001 x325002).bind fun t328 => (if t328 = 0 then (regletlaw21_PaintWindow.j1 k x2 (decide (x325002 > 50)) x325000 x325001 x325002 x326000 x326001) else (regletlaw21_PaintWindow.j1 k x2 true x325000 x325001 x325002 x326000 x326001)))
def regletlaw21_PaintWindow.j1 : Nat → Int → Bool → Int → Int → Int → Int → Int → Option (Bool)
  | 0, _, _, _, _, _, _, _ => none
  | k + 1, x2, x67, x325000, x325001, x325002, x326000, x326001 => if x67 = true then (some (decide (x325002 > 50))) else (regletlaw21_PaintWindow.l0 k x2 (mx 0 (wrap64 ((wrap64 (x325002 * x325000)) + (wrap64 ((wrap64 (x325002 - 1)) * x325001))))) ([] : List (S56)) (mx x326000 (-1073741824)) (mn x326001 281474976710656) 0 0 false 0 x325000 x325001 x325002 x326000 x326001)
def regletlaw21_PaintWindow.l0 : Nat → Int → Int → List (S56) → Int → Int → Int → Int → Bool → Int → Int → Int → Int → Int → Int → Option (Bool)
  | 0, _, _, _, _, _, _, _, _, _, _, _, _, _, _ => none
  | k + 1, x2, x7, x8, x9, x10, x11, x12, x13, x14, x325000, x325001, x325002, x326000, x326001 => if x14 < x325002 then ((paint_Window_Top.f x325000 x325001 x325002 x14).bind fun bt329 => (if bt329.1 = (wrap64 (x14 * (wrap64 (x325000 + x325001)))) then (regletlaw21_PaintWindow.j3 k x2 x7 x8 x9 x10 x11 x12 x13 x14 (wrap64 (x14 * (wrap64 (x325000 + x325001)))) (!bt329.2) x325000 x325001 x325002 x326000 x326001) else (regletlaw21_PaintWindow.j3 k x2 x7 x8 x9 x10 x11 x12 x13 x14 (wrap64 (x14 * (wrap64 (x325000 + x325001)))) true x325000 x325001 x325002 x326000 x326001))) else ((paint_Window_Seen.f k x325000 x325001 x325002 x326000 x326001).bind fun t334 => ((regletlaw21_bands.f k t334).bind fun t337 => (if (t337.length : Int) = (x8.length : Int) then ((paint_Window_Size.f x325000 x325001 x325002).bind fun t340 => (regletlaw21_PaintWindow.j7 k x2 x8 x11 x12 x13 t337 (t340 != x7) x325000 x325001 x325002)) else (regletlaw21_PaintWindow.j7 k x2 x8 x11 x12 x13 t337 true x325000 x325001 x325002))))
def regletlaw21_PaintWindow.j3 : Nat → Int → Int → List (S56) → Int → Int → Int → Int → Bool → Int → Int → Bool → Int → Int → Int → Int → Int → Option (Bool)
  | 0, _, _, _, _, _, _, _, _, _, _, _, _, _, _, _, _ => none
  | k + 1, x2, x7, x8, x9, x10, x11, x12, x13, x14, x15, x115, x325000, x325001, x325002, x326000, x326001 => if x115 = true then (some false) else (if x2 ≥ x15 then (regletlaw21_PaintWindow.j4 k x2 x7 x8 x9 x10 x11 x12 x13 x14 x15 (decide ((wrap64 (x2 - x15)) < x325000)) x325000 x325001 x325002 x326000 x326001) else (regletlaw21_PaintWindow.j4 k x2 x7 x8 x9 x10 x11 x12 x13 x14 x15 false x325000 x325001 x325002 x326000 x326001))
def regletlaw21_PaintWindow.j4 : Nat → Int → Int → List (S56) → Int → Int → Int → Int → Bool → Int → Int → Bool → Int → Int → Int → Int → Int → Option (Bool)
  | 0, _, _, _, _, _, _, _, _, _, _, _, _, _, _, _, _ => none
  | k + 1, x2, x7, x8, x9, x10, x11, x12, x13, x14, x15, x126, x325000, x325001, x325002, x326000, x326001 => if x126 = true then (regletlaw21_PaintWindow.j5 k x2 x7 x8 x9 x10 x14 (wrap64 (x2 - x15)) true x14 x15 x325000 x325001 x325002 x326000 x326001) else (regletlaw21_PaintWindow.j5 k x2 x7 x8 x9 x10 x11 x12 x13 x14 x15 x325000 x325001 x325002 x326000 x326001)
def regletlaw21_PaintWindow.j5 : Nat → Int → Int → List (S56) → Int → Int → Int → Int → Bool → Int → Int → Int → Int → Int → Int → Int → Option (Bool)
  | 0, _, _, _, _, _, _, _, _, _, _, _, _, _, _, _ => none
  | k + 1, x2, x7, x8, x9, x10, x11, x12, x13, x14, x15, x325000, x325001, x325002, x326000, x326001 => if x9 > 1125899906842624 then (regletlaw21_PaintWindow.j6 k x2 x7 x8 x9 x10 x11 x12 x13 x14 x15 true x325000 x325001 x325002 x326000 x326001) else (regletlaw21_PaintWindow.j6 k x2 x7 x8 x9 x10 x11 x12 x13 x14 x15 (decide (x10 ≤ 0)) x325000 x325001 x325002 x326000 x326001)
def regletlaw21_PaintWindow.j6 : Nat → Int → Int → List (S56) → Int → Int → Int → Int → Bool → Int → Int → Bool → Int → Int → Int → Int → Int → Option (Bool)
  | 0, _, _, _, _, _, _, _, _, _, _, _, _, _, _, _, _ => none
  | k + 1, x2, x7, x8, x9, x10, x11, x12, x13, x14, x15, x136, x325000, x325001, x325002, x326000, x326001 => if x136 = true then (regletlaw21_PaintWindow.l0 k x2 x7 x8 x9 x10 x11 x12 x13 (wrap64 (x14 + 1)) x325000 x325001 x325002 x326000 x326001) else (if (mx 0 (wrap64 (x9 - x15))) < (mn x325000 (wrap64 ((wrap64 (x9 + x10)) - x15))) then (if x8.length < 5864062014805 then (regletlaw21_PaintWindow.l0 k x2 x7 (x8 ++ [(⟨x14, mx 0 (wrap64 (x9 - x15)), mn x325000 (wrap64 ((wrap64 (x9 + x10)) - x15))⟩ : S56)]) x9 x10 x11 x12 x13 (wrap64 (x14 + 1)) x325000 x325001 x325002 x326000 x326001) else (none)) else (regletlaw21_PaintWindow.l0 k x2 x7 x8 x9 x10 x11 x12 x13 (wrap64 (x14 + 1)) x325000 x325001 x325002 x326000 x326001))
def regletlaw21_PaintWindow.j7 : Nat → Int → List (S56) → Int → Int → Bool → List (S56) → Bool → Int → Int → Int → Option (Bool)
  | 0, _, _, _, _, _, _, _, _, _, _ => none
  | k + 1, x2, x8, x11, x12, x13, x20, x176, x325000, x325001, x325002 => if x176 = true then (some false) else (regletlaw21_PaintWindow.l1 k x2 x8 x11 x12 x13 x20 0 x325000 x325001 x325002)
def regletlaw21_PaintWindow.l1 : Nat → Int → List (S56) → Int → Int → Bool → List (S56) → Int → Int → Int → Int → Option (Bool)
  | 0, _, _, _, _, _, _, _, _, _, _ => none
  | k + 1, x2, x8, x11, x12, x13, x20, x21, x325000, x325001, x325002 => if x21 < (x20.length : Int) then (if 0 ≤ x21 then (if x21 < (x8.length : Int) then (if (!(((rd_T56 x20 x21).f0) == ((rd_T56 x8 x21).f0)) || (!(((rd_T56 x20 x21).f1) == ((rd_T56 x8 x21).f1)) || (!(((rd_T56 x20 x21).f2) == ((rd_T56 x8 x21).f2))))) = true then (some false) else (regletlaw21_PaintWindow.l1 k x2 x8 x11 x12 x13 x20 (wrap64 (x21 + 1)) x325000 x325001 x325002)) else (none)) else (none)) else ((paint_Window_At.f k x325000 x325001 x325002 x2).bind fun bt343 => ((paint_Window_Top.f x325000 x325001 x325002 x325002).bind fun bt346 => (if bt343.1 = x11 then (if bt343.2.1 = x12 then (if (bt343.2.2 == x13) = true then (some (!bt346.2)) else (some false)) else (some false)) else (some false))))
end
def regletlaw21_PaintWindow.f (k : Nat) (a0_0 : Int) (a0_1 : Int) (a0_2 : Int) (a1_0 : Int) (a1_1 : Int) (a2 : Int) : Option (Bool) := (regletlaw21_awake.f k).bind fun t326 => (if t326 = true then (if a0_0 < 1 then (regletlaw21_PaintWindow.j0 k a2 true a0_0 a0_1 a0_2 a1_0 a1_1) else (if a0_0 > 1073741824 then (regletlaw21_PaintWindow.j0 k a2 true a0_0 a0_1 a0_2 a1_0 a1_1) else (if a0_1 < 0 then (regletlaw21_PaintWindow.j0 k a2 true a0_0 a0_1 a0_2 a1_0 a1_1) else (if a0_1 > 1073741824 then (regletlaw21_PaintWindow.j0 k a2 true a0_0 a0_1 a0_2 a1_0 a1_1) else (if a0_2 < 0 then (regletlaw21_PaintWindow.j0 k a2 true a0_0 a0_1 a0_2 a1_0 a1_1) else (regletlaw21_PaintWindow.j0 k a2 (decide (a0_2 > 65536)) a0_0 a0_1 a0_2 a1_0 a1_1)))))) else (some false))
theorem regletlaw21_PaintWindow.mono_l : ∀ k, (∀ y0 y1 y2 y3 y4 y5 y6, LeO (regletlaw21_PaintWindow.j0 k y0 y1 y2 y3 y4 y5 y6) (regletlaw21_PaintWindow.j0 (k + 1) y0 y1 y2 y3 y4 y5 y6)) ∧ (∀ y0 y1 y2 y3 y4 y5 y6, LeO (regletlaw21_PaintWindow.j1 k y0 y1 y2 y3 y4 y5 y6) (regletlaw21_PaintWindow.j1 (k + 1) y0 y1 y2 y3 y4 y5 y6)) ∧ (∀ y0 y1 y2 y3 y4 y5 y6 y7 y8 y9 y10 y11 y12 y13, LeO (regletlaw21_PaintWindow.l0 k y0 y1 y2 y3 y4 y5 y6 y7 y8 y9 y10 y11 y12 y13) (regletlaw21_PaintWindow.l0 (k + 1) y0 y1 y2 y3 y4 y5 y6 y7 y8 y9 y10 y11 y12 y13)) ∧ (∀ y0 y1 y2 y3 y4 y5 y6 y7 y8 y9 y10 y11 y12 y13 y14 y15, LeO (regletlaw21_PaintWindow.j3 k y0 y1 y2 y3 y4 y5 y6 y7 y8 y9 y10 y11 y12 y13 y14 y15) (regletlaw21_PaintWindow.j3 (k + 1) y0 y1 y2 y3 y4 y5 y6 y7 y8 y9 y10 y11 y12 y13 y14 y15)) ∧ (∀ y0 y1 y2 y3 y4 y5 y6 y7 y8 y9 y10 y11 y12 y13 y14 y15, LeO (regletlaw21_PaintWindow.j4 k y0 y1 y2 y3 y4 y5 y6 y7 y8 y9 y10 y11 y12 y13 y14 y15) (regletlaw21_PaintWindow.j4 (k + 1) y0 y1 y2 y3 y4 y5 y6 y7 y8 y9 y10 y11 y12 y13 y14 y15)) ∧ (∀ y0 y1 y2 y3 y4 y5 y6 y7 y8 y9 y10 y11 y12 y13 y14, LeO (regletlaw21_PaintWindow.j5 k y0 y1 y2 y3 y4 y5 y6 y7 y8 y9 y10 y11 y12 y13 y14) (regletlaw21_PaintWindow.j5 (k + 1) y0 y1 y2 y3 y4 y5 y6 y7 y8 y9 y10 y11 y12 y13 y14)) ∧ (∀ y0 y1 y2 y3 y4 y5 y6 y7 y8 y9 y10 y11 y12 y13 y14 y15, LeO (regletlaw21_PaintWindow.j6 k y0 y1 y2 y3 y4 y5 y6 y7 y8 y9 y10 y11 y12 y13 y14 y15) (regletlaw21_PaintWindow.j6 (k + 1) y0 y1 y2 y3 y4 y5 y6 y7 y8 y9 y10 y11 y12 y13 y14 y15)) ∧ (∀ y0 y1 y2 y3 y4 y5 y6 y7 y8 y9, LeO (regletlaw21_PaintWindow.j7 k y0 y1 y2 y3 y4 y5 y6 y7 y8 y9) (regletlaw21_PaintWindow.j7 (k + 1) y0 y1 y2 y3 y4 y5 y6 y7 y8 y9)) ∧ (∀ y0 y1 y2 y3 y4 y5 y6 y7 y8 y9, LeO (regletlaw21_PaintWindow.l1 k y0 y1 y2 y3 y4 y5 y6 y7 y8 y9) (regletlaw21_PaintWindow.l1 (k + 1) y0 y1 y2 y3 y4 y5 y6 y7 y8 y9))
  | 0 => ⟨fun _ _ _ _ _ _ _ r h => by simp [regletlaw21_PaintWindow.j0] at h, fun _ _ _ _ _ _ _ r h => by simp [regletlaw21_PaintWindow.j1] at h, fun _ _ _ _ _ _ _ _ _ _ _ _ _ _ r h => by simp [regletlaw21_PaintWindow.l0] at h, fun _ _ _ _ _ _ _ _ _ _ _ _ _ _ _ _ r h => by simp [regletlaw21_PaintWindow.j3] at h, fun _ _ _ _ _ _ _ _ _ _ _ _ _ _ _ _ r h => by simp [regletlaw21_PaintWindow.j4] at h, fun _ _ _ _ _ _ _ _ _ _ _ _ _ _ _ r h => by simp [regletlaw21_PaintWindow.j5] at h, fun _ _ _ _ _ _ _ _ _ _ _ _ _ _ _ _ r h => by simp [regletlaw21_PaintWindow.j6] at h, fun _ _ _ _ _ _ _ _ _ _ r h => by simp [regletlaw21_PaintWindow.j7] at h, fun _ _ _ _ _ _ _ _ _ _ r h => by simp [regletlaw21_PaintWindow.l1] at h⟩
  | k + 1 => by
    obtain ⟨ih0, ih1, ih2, ih3, ih4, ih5, ih6, ih7, ih8⟩ := regletlaw21_PaintWindow.mono_l k
    refine ⟨?_, ?_, ?_, ?_, ?_, ?_, ?_, ?_, ?_⟩
    · intro y0 y1 y2 y3 y4 y5 y6
      unfold regletlaw21_PaintWindow.j0
      repeat' first | (with_reducible first | exact ih0 _ _ _ _ _ _ _ | exact ih1 _ _ _ _ _ _ _ | exact ih2 _ _ _ _ _ _ _ _ _ _ _ _ _ _ | exact ih3 _ _ _ _ _ _ _ _ _ _ _ _ _ _ _ _ | exact ih4 _ _ _ _ _ _ _ _ _ _ _ _ _ _ _ _ | exact ih5 _ _ _ _ _ _ _ _ _ _ _ _ _ _ _ | exact ih6 _ _ _ _ _ _ _ _ _ _ _ _ _ _ _ _ | exact ih7 _ _ _ _ _ _ _ _ _ _ | exact ih8 _ _ _ _ _ _ _ _ _ _ | exact paint_Window_At.mono _ _ _ _ _ | exact paint_Window_Seen.mono _ _ _ _ _ _ | exact regletlaw21_awake.mono _ | exact regletlaw21_bands.mono _ _ | exact LeO.refl _ | exact LeO.none _ | refine LeO.ite ?_ ?_ | refine LeO.bind ?_ (fun _ => ?_)) | exact ih0 _ _ _ _ _ _ _ | exact ih1 _ _ _ _ _ _ _ | exact ih2 _ _ _ _ _ _ _ _ _ _ _ _ _ _ | exact ih3 _ _ _ _ _ _ _ _ _ _ _ _ _ _ _ _ | exact ih4 _ _ _ _ _ _ _ _ _ _ _ _ _ _ _ _ | exact ih5 _ _ _ _ _ _ _ _ _ _ _ _ _ _ _ | exact ih6 _ _ _ _ _ _ _ _ _ _ _ _ _ _ _ _ | exact ih7 _ _ _ _ _ _ _ _ _ _ | exact ih8 _ _ _ _ _ _ _ _ _ _ | exact paint_Window_At.mono _ _ _ _ _ | exact paint_Window_Seen.mono _ _ _ _ _ _ | exact regletlaw21_awake.mono _ | exact regletlaw21_bands.mono _ _ | exact LeO.none _ | refine LeO.ite ?_ ?_ | refine LeO.bind ?_ (fun _ => ?_)
    · intro y0 y1 y2 y3 y4 y5 y6
      unfold regletlaw21_PaintWindow.j1
      repeat' first | (with_reducible first | exact ih0 _ _ _ _ _ _ _ | exact ih1 _ _ _ _ _ _ _ | exact ih2 _ _ _ _ _ _ _ _ _ _ _ _ _ _ | exact ih3 _ _ _ _ _ _ _ _ _ _ _ _ _ _ _ _ | exact ih4 _ _ _ _ _ _ _ _ _ _ _ _ _ _ _ _ | exact ih5 _ _ _ _ _ _ _ _ _ _ _ _ _ _ _ | exact ih6 _ _ _ _ _ _ _ _ _ _ _ _ _ _ _ _ | exact ih7 _ _ _ _ _ _ _ _ _ _ | exact ih8 _ _ _ _ _ _ _ _ _ _ | exact paint_Window_At.mono _ _ _ _ _ | exact paint_Window_Seen.mono _ _ _ _ _ _ | exact regletlaw21_awake.mono _ | exact regletlaw21_bands.mono _ _ | exact LeO.refl _ | exact LeO.none _ | refine LeO.ite ?_ ?_ | refine LeO.bind ?_ (fun _ => ?_)) | exact ih0 _ _ _ _ _ _ _ | exact ih1 _ _ _ _ _ _ _ | exact ih2 _ _ _ _ _ _ _ _ _ _ _ _ _ _ | exact ih3 _ _ _ _ _ _ _ _ _ _ _ _ _ _ _ _ | exact ih4 _ _ _ _ _ _ _ _ _ _ _ _ _ _ _ _ | exact ih5 _ _ _ _ _ _ _ _ _ _ _ _ _ _ _ | exact ih6 _ _ _ _ _ _ _ _ _ _ _ _ _ _ _ _ | exact ih7 _ _ _ _ _ _ _ _ _ _ | exact ih8 _ _ _ _ _ _ _ _ _ _ | exact paint_Window_At.mono _ _ _ _ _ | exact paint_Window_Seen.mono _ _ _ _ _ _ | exact regletlaw21_awake.mono _ | exact regletlaw21_bands.mono _ _ | exact LeO.none _ | refine LeO.ite ?_ ?_ | refine LeO.bind ?_ (fun _ => ?_)
    · intro y0 y1 y2 y3 y4 y5 y6 y7 y8 y9 y10 y11 y12 y13
      unfold regletlaw21_PaintWindow.l0
      repeat' first | (with_reducible first | exact ih0 _ _ _ _ _ _ _ | exact ih1 _ _ _ _ _ _ _ | exact ih2 _ _ _ _ _ _ _ _ _ _ _ _ _ _ | exact ih3 _ _ _ _ _ _ _ _ _ _ _ _ _ _ _ _ | exact ih4 _ _ _ _ _ _ _ _ _ _ _ _ _ _ _ _ | exact ih5 _ _ _ _ _ _ _ _ _ _ _ _ _ _ _ | exact ih6 _ _ _ _ _ _ _ _ _ _ _ _ _ _ _ _ | exact ih7 _ _ _ _ _ _ _ _ _ _ | exact ih8 _ _ _ _ _ _ _ _ _ _ | exact paint_Window_At.mono _ _ _ _ _ | exact paint_Window_Seen.mono _ _ _ _ _ _ | exact regletlaw21_awake.mono _ | exact regletlaw21_bands.mono _ _ | exact LeO.refl _ | exact LeO.none _ | refine LeO.ite ?_ ?_ | refine LeO.bind ?_ (fun _ => ?_)) | exact ih0 _ _ _ _ _ _ _ | exact ih1 _ _ _ _ _ _ _ | exact ih2 _ _ _ _ _ _ _ _ _ _ _ _ _ _ | exact ih3 _ _ _ _ _ _ _ _ _ _ _ _ _ _ _ _ | exact ih4 _ _ _ _ _ _ _ _ _ _ _ _ _ _ _ _ | exact ih5 _ _ _ _ _ _ _ _ _ _ _ _ _ _ _ | exact ih6 _ _ _ _ _ _ _ _ _ _ _ _ _ _ _ _ | exact ih7 _ _ _ _ _ _ _ _ _ _ | exact ih8 _ _ _ _ _ _ _ _ _ _ | exact paint_Window_At.mono _ _ _ _ _ | exact paint_Window_Seen.mono _ _ _ _ _ _ | exact regletlaw21_awake.mono _ | exact regletlaw21_bands.mono _ _ | exact LeO.none _ | refine LeO.ite ?_ ?_ | refine LeO.bind ?_ (fun _ => ?_)
    · intro y0 y1 y2 y3 y4 y5 y6 y7 y8 y9 y10 y11 y12 y13 y14 y15
      unfold regletlaw21_PaintWindow.j3
      repeat' first | (with_reducible first | exact ih0 _ _ _ _ _ _ _ | exact ih1 _ _ _ _ _ _ _ | exact ih2 _ _ _ _ _ _ _ _ _ _ _ _ _ _ | exact ih3 _ _ _ _ _ _ _ _ _ _ _ _ _ _ _ _ | exact ih4 _ _ _ _ _ _ _ _ _ _ _ _ _ _ _ _ | exact ih5 _ _ _ _ _ _ _ _ _ _ _ _ _ _ _ | exact ih6 _ _ _ _ _ _ _ _ _ _ _ _ _ _ _ _ | exact ih7 _ _ _ _ _ _ _ _ _ _ | exact ih8 _ _ _ _ _ _ _ _ _ _ | exact paint_Window_At.mono _ _ _ _ _ | exact paint_Window_Seen.mono _ _ _ _ _ _ | exact regletlaw21_awake.mono _ | exact regletlaw21_bands.mono _ _ | exact LeO.refl _ | exact LeO.none _ | refine LeO.ite ?_ ?_ | refine LeO.bind ?_ (fun _ => ?_)) | exact ih0 _ _ _ _ _ _ _ | exact ih1 _ _ _ _ _ _ _ | exact ih2 _ _ _ _ _ _ _ _ _ _ _ _ _ _ | exact ih3 _ _ _ _ _ _ _ _ _ _ _ _ _ _ _ _ | exact ih4 _ _ _ _ _ _ _ _ _ _ _ _ _ _ _ _ | exact ih5 _ _ _ _ _ _ _ _ _ _ _ _ _ _ _ | exact ih6 _ _ _ _ _ _ _ _ _ _ _ _ _ _ _ _ | exact ih7 _ _ _ _ _ _ _ _ _ _ | exact ih8 _ _ _ _ _ _ _ _ _ _ | exact paint_Window_At.mono _ _ _ _ _ | exact paint_Window_Seen.mono _ _ _ _ _ _ | exact regletlaw21_awake.mono _ | exact regletlaw21_bands.mono _ _ | exact LeO.none _ | refine LeO.ite ?_ ?_ | refine LeO.bind ?_ (fun _ => ?_)
    · intro y0 y1 y2 y3 y4 y5 y6 y7 y8 y9 y10 y11 y12 y13 y14 y15
      unfold regletlaw21_PaintWindow.j4
      repeat' first | (with_reducible first | exact ih0 _ _ _ _ _ _ _ | exact ih1 _ _ _ _ _ _ _ | exact ih2 _ _ _ _ _ _ _ _ _ _ _ _ _ _ | exact ih3 _ _ _ _ _ _ _ _ _ _ _ _ _ _ _ _ | exact ih4 _ _ _ _ _ _ _ _ _ _ _ _ _ _ _ _ | exact ih5 _ _ _ _ _ _ _ _ _ _ _ _ _ _ _ | exact ih6 _ _ _ _ _ _ _ _ _ _ _ _ _ _ _ _ | exact ih7 _ _ _ _ _ _ _ _ _ _ | exact ih8 _ _ _ _ _ _ _ _ _ _ | exact paint_Window_At.mono _ _ _ _ _ | exact paint_Window_Seen.mono _ _ _ _ _ _ | exact regletlaw21_awake.mono _ | exact regletlaw21_bands.mono _ _ | exact LeO.refl _ | exact LeO.none _ | refine LeO.ite ?_ ?_ | refine LeO.bind ?_ (fun _ => ?_)) | exact ih0 _ _ _ _ _ _ _ | exact ih1 _ _ _ _ _ _ _ | exact ih2 _ _ _ _ _ _ _ _ _ _ _ _ _ _ | exact ih3 _ _ _ _ _ _ _ _ _ _ _ _ _ _ _ _ | exact ih4 _ _ _ _ _ _ _ _ _ _ _ _ _ _ _ _ | exact ih5 _ _ _ _ _ _ _ _ _ _ _ _ _ _ _ | exact ih6 _ _ _ _ _ _ _ _ _ _ _ _ _ _ _ _ | exact ih7 _ _ _ _ _ _ _ _ _ _ | exact ih8 _ _ _ _ _ _ _ _ _ _ | exact paint_Window_At.mono _ _ _ _ _ | exact paint_Window_Seen.mono _ _ _ _ _ _ | exact regletlaw21_awake.mono _ | exact regletlaw21_bands.mono _ _ | exact LeO.none _ | refine LeO.ite ?_ ?_ | refine LeO.bind ?_ (fun _ => ?_)
    · intro y0 y1 y2 y3 y4 y5 y6 y7 y8 y9 y10 y11 y12 y13 y14
      unfold regletlaw21_PaintWindow.j5
      repeat' first | (with_reducible first | exact ih0 _ _ _ _ _ _ _ | exact ih1 _ _ _ _ _ _ _ | exact ih2 _ _ _ _ _ _ _ _ _ _ _ _ _ _ | exact ih3 _ _ _ _ _ _ _ _ _ _ _ _ _ _ _ _ | exact ih4 _ _ _ _ _ _ _ _ _ _ _ _ _ _ _ _ | exact ih5 _ _ _ _ _ _ _ _ _ _ _ _ _ _ _ | exact ih6 _ _ _ _ _ _ _ _ _ _ _ _ _ _ _ _ | exact ih7 _ _ _ _ _ _ _ _ _ _ | exact ih8 _ _ _ _ _ _ _ _ _ _ | exact paint_Window_At.mono _ _ _ _ _ | exact paint_Window_Seen.mono _ _ _ _ _ _ | exact regletlaw21_awake.mono _ | exact regletlaw21_bands.mono _ _ | exact LeO.refl _ | exact LeO.none _ | refine LeO.ite ?_ ?_ | refine LeO.bind ?_ (fun _ => ?_)) | exact ih0 _ _ _ _ _ _ _ | exact ih1 _ _ _ _ _ _ _ | exact ih2 _ _ _ _ _ _ _ _ _ _ _ _ _ _ | exact ih3 _ _ _ _ _ _ _ _ _ _ _ _ _ _ _ _ | exact ih4 _ _ _ _ _ _ _ _ _ _ _ _ _ _ _ _ | exact ih5 _ _ _ _ _ _ _ _ _ _ _ _ _ _ _ | exact ih6 _ _ _ _ _ _ _ _ _ _ _ _ _ _ _ _ | exact ih7 _ _ _ _ _ _ _ _ _ _ | exact ih8 _ _ _ _ _ _ _ _ _ _ | exact paint_Window_At.mono _ _ _ _ _ | exact paint_Window_Seen.mono _ _ _ _ _ _ | exact regletlaw21_awake.mono _ | exact regletlaw21_bands.mono _ _ | exact LeO.none _ | refine LeO.ite ?_ ?_ | refine LeO.bind ?_ (fun _ => ?_)
    · intro y0 y1 y2 y3 y4 y5 y6 y7 y8 y9 y10 y11 y12 y13 y14 y15
      unfold regletlaw21_PaintWindow.j6
      repeat' first | (with_reducible first | exact ih0 _ _ _ _ _ _ _ | exact ih1 _ _ _ _ _ _ _ | exact ih2 _ _ _ _ _ _ _ _ _ _ _ _ _ _ | exact ih3 _ _ _ _ _ _ _ _ _ _ _ _ _ _ _ _ | exact ih4 _ _ _ _ _ _ _ _ _ _ _ _ _ _ _ _ | exact ih5 _ _ _ _ _ _ _ _ _ _ _ _ _ _ _ | exact ih6 _ _ _ _ _ _ _ _ _ _ _ _ _ _ _ _ | exact ih7 _ _ _ _ _ _ _ _ _ _ | exact ih8 _ _ _ _ _ _ _ _ _ _ | exact paint_Window_At.mono _ _ _ _ _ | exact paint_Window_Seen.mono _ _ _ _ _ _ | exact regletlaw21_awake.mono _ | exact regletlaw21_bands.mono _ _ | exact LeO.refl _ | exact LeO.none _ | refine LeO.ite ?_ ?_ | refine LeO.bind ?_ (fun _ => ?_)) | exact ih0 _ _ _ _ _ _ _ | exact ih1 _ _ _ _ _ _ _ | exact ih2 _ _ _ _ _ _ _ _ _ _ _ _ _ _ | exact ih3 _ _ _ _ _ _ _ _ _ _ _ _ _ _ _ _ | exact ih4 _ _ _ _ _ _ _ _ _ _ _ _ _ _ _ _ | exact ih5 _ _ _ _ _ _ _ _ _ _ _ _ _ _ _ | exact ih6 _ _ _ _ _ _ _ _ _ _ _ _ _ _ _ _ | exact ih7 _ _ _ _ _ _ _ _ _ _ | exact ih8 _ _ _ _ _ _ _ _ _ _ | exact paint_Window_At.mono _ _ _ _ _ | exact paint_Window_Seen.mono _ _ _ _ _ _ | exact regletlaw21_awake.mono _ | exact regletlaw21_bands.mono _ _ | exact LeO.none _ | refine LeO.ite ?_ ?_ | refine LeO.bind ?_ (fun _ => ?_)
    · intro y0 y1 y2 y3 y4 y5 y6 y7 y8 y9
      unfold regletlaw21_PaintWindow.j7
      repeat' first | (with_reducible first | exact ih0 _ _ _ _ _ _ _ | exact ih1 _ _ _ _ _ _ _ | exact ih2 _ _ _ _ _ _ _ _ _ _ _ _ _ _ | exact ih3 _ _ _ _ _ _ _ _ _ _ _ _ _ _ _ _ | exact ih4 _ _ _ _ _ _ _ _ _ _ _ _ _ _ _ _ | exact ih5 _ _ _ _ _ _ _ _ _ _ _ _ _ _ _ | exact ih6 _ _ _ _ _ _ _ _ _ _ _ _ _ _ _ _ | exact ih7 _ _ _ _ _ _ _ _ _ _ | exact ih8 _ _ _ _ _ _ _ _ _ _ | exact paint_Window_At.mono _ _ _ _ _ | exact paint_Window_Seen.mono _ _ _ _ _ _ | exact regletlaw21_awake.mono _ | exact regletlaw21_bands.mono _ _ | exact LeO.refl _ | exact LeO.none _ | refine LeO.ite ?_ ?_ | refine LeO.bind ?_ (fun _ => ?_)) | exact ih0 _ _ _ _ _ _ _ | exact ih1 _ _ _ _ _ _ _ | exact ih2 _ _ _ _ _ _ _ _ _ _ _ _ _ _ | exact ih3 _ _ _ _ _ _ _ _ _ _ _ _ _ _ _ _ | exact ih4 _ _ _ _ _ _ _ _ _ _ _ _ _ _ _ _ | exact ih5 _ _ _ _ _ _ _ _ _ _ _ _ _ _ _ | exact ih6 _ _ _ _ _ _ _ _ _ _ _ _ _ _ _ _ | exact ih7 _ _ _ _ _ _ _ _ _ _ | exact ih8 _ _ _ _ _ _ _ _ _ _ | exact paint_Window_At.mono _ _ _ _ _ | exact paint_Window_Seen.mono _ _ _ _ _ _ | exact regletlaw21_awake.mono _ | exact regletlaw21_bands.mono _ _ | exact LeO.none _ | refine LeO.ite ?_ ?_ | refine LeO.bind ?_ (fun _ => ?_)
    · intro y0 y1 y2 y3 y4 y5 y6 y7 y8 y9
      unfold regletlaw21_PaintWindow.l1
      repeat' first | (with_reducible first | exact ih0 _ _ _ _ _ _ _ | exact ih1 _ _ _ _ _ _ _ | exact ih2 _ _ _ _ _ _ _ _ _ _ _ _ _ _ | exact ih3 _ _ _ _ _ _ _ _ _ _ _ _ _ _ _ _ | exact ih4 _ _ _ _ _ _ _ _ _ _ _ _ _ _ _ _ | exact ih5 _ _ _ _ _ _ _ _ _ _ _ _ _ _ _ | exact ih6 _ _ _ _ _ _ _ _ _ _ _ _ _ _ _ _ | exact ih7 _ _ _ _ _ _ _ _ _ _ | exact ih8 _ _ _ _ _ _ _ _ _ _ | exact paint_Window_At.mono _ _ _ _ _ | exact paint_Window_Seen.mono _ _ _ _ _ _ | exact regletlaw21_awake.mono _ | exact regletlaw21_bands.mono _ _ | exact LeO.refl _ | exact LeO.none _ | refine LeO.ite ?_ ?_ | refine LeO.bind ?_ (fun _ => ?_)) | exact ih0 _ _ _ _ _ _ _ | exact ih1 _ _ _ _ _ _ _ | exact ih2 _ _ _ _ _ _ _ _ _ _ _ _ _ _ | exact ih3 _ _ _ _ _ _ _ _ _ _ _ _ _ _ _ _ | exact ih4 _ _ _ _ _ _ _ _ _ _ _ _ _ _ _ _ | exact ih5 _ _ _ _ _ _ _ _ _ _ _ _ _ _ _ | exact ih6 _ _ _ _ _ _ _ _ _ _ _ _ _ _ _ _ | exact ih7 _ _ _ _ _ _ _ _ _ _ | exact ih8 _ _ _ _ _ _ _ _ _ _ | exact paint_Window_At.mono _ _ _ _ _ | exact paint_Window_Seen.mono _ _ _ _ _ _ | exact regletlaw21_awake.mono _ | exact regletlaw21_bands.mono _ _ | exact LeO.none _ | refine LeO.ite ?_ ?_ | refine LeO.bind ?_ (fun _ => ?_)
theorem regletlaw21_PaintWindow.mono : ∀ a0 a1 a2 a3 a4 a5 k, LeO (regletlaw21_PaintWindow.f k a0 a1 a2 a3 a4 a5) (regletlaw21_PaintWindow.f (k + 1) a0 a1 a2 a3 a4 a5) := by
  intro a0 a1 a2 a3 a4 a5 k
  obtain ⟨ih0, ih1, ih2, ih3, ih4, ih5, ih6, ih7, ih8⟩ := regletlaw21_PaintWindow.mono_l k
  unfold regletlaw21_PaintWindow.f
  repeat' first | (with_reducible first | exact ih0 _ _ _ _ _ _ _ | exact ih1 _ _ _ _ _ _ _ | exact ih2 _ _ _ _ _ _ _ _ _ _ _ _ _ _ | exact ih3 _ _ _ _ _ _ _ _ _ _ _ _ _ _ _ _ | exact ih4 _ _ _ _ _ _ _ _ _ _ _ _ _ _ _ _ | exact ih5 _ _ _ _ _ _ _ _ _ _ _ _ _ _ _ | exact ih6 _ _ _ _ _ _ _ _ _ _ _ _ _ _ _ _ | exact ih7 _ _ _ _ _ _ _ _ _ _ | exact ih8 _ _ _ _ _ _ _ _ _ _ | exact paint_Window_At.mono _ _ _ _ _ | exact paint_Window_Seen.mono _ _ _ _ _ _ | exact regletlaw21_awake.mono _ | exact regletlaw21_bands.mono _ _ | exact LeO.refl _ | exact LeO.none _ | refine LeO.ite ?_ ?_ | refine LeO.bind ?_ (fun _ => ?_)) | exact ih0 _ _ _ _ _ _ _ | exact ih1 _ _ _ _ _ _ _ | exact ih2 _ _ _ _ _ _ _ _ _ _ _ _ _ _ | exact ih3 _ _ _ _ _ _ _ _ _ _ _ _ _ _ _ _ | exact ih4 _ _ _ _ _ _ _ _ _ _ _ _ _ _ _ _ | exact ih5 _ _ _ _ _ _ _ _ _ _ _ _ _ _ _ | exact ih6 _ _ _ _ _ _ _ _ _ _ _ _ _ _ _ _ | exact ih7 _ _ _ _ _ _ _ _ _ _ | exact ih8 _ _ _ _ _ _ _ _ _ _ | exact paint_Window_At.mono _ _ _ _ _ | exact paint_Window_Seen.mono _ _ _ _ _ _ | exact regletlaw21_awake.mono _ | exact regletlaw21_bands.mono _ _ | exact LeO.none _ | refine LeO.ite ?_ ?_ | refine LeO.bind ?_ (fun _ => ?_)
set_option maxHeartbeats 100000000 in
set_option maxRecDepth 100000 in
theorem regletlaw21_PaintWindow.calls (k : Nat) (a0_0 : Int) (a0_1 : Int) (a0_2 : Int) (a1_0 : Int) (a1_1 : Int) (a2 : Int) (r : Bool) (w : World) (h : regletlaw21_PaintWindow.f k a0_0 a0_1 a0_2 a1_0 a1_1 a2 = some r) :
    Calls Try.prog 5 #[.agg #[.int .i64 a0_0, .int .i64 a0_1, .int .i64 a0_2], .agg #[.int .i64 a1_0, .int .i64 a1_1], .int .i64 a2] w fun e w' => e = .returned (.bool r) ∧ Below w.heap.size w w' := by
  have hu48 := Try.underlying48
  have hu49 := Try.underlying49
  have hu56 := Try.underlying56
  have HB := Aside0.mk (Below.refl w.heap.size w)
  have H : ((regletlaw21_awake.f k).bind fun t326 => (if t326 = true then (if a0_0 < 1 then (regletlaw21_PaintWindow.j0 k a2 true a0_0 a0_1 a0_2 a1_0 a1_1) else (if a0_0 > 1073741824 then (regletlaw21_PaintWindow.j0 k a2 true a0_0 a0_1 a0_2 a1_0 a1_1) else (if a0_1 < 0 then (regletlaw21_PaintWindow.j0 k a2 true a0_0 a0_1 a0_2 a1_0 a1_1) else (if a0_1 > 1073741824 then (regletlaw21_PaintWindow.j0 k a2 true a0_0 a0_1 a0_2 a1_0 a1_1) else (if a0_2 < 0 then (regletlaw21_PaintWindow.j0 k a2 true a0_0 a0_1 a0_2 a1_0 a1_1) else (regletlaw21_PaintWindow.j0 k a2 (decide (a0_2 > 65536)) a0_0 a0_1 a0_2 a1_0 a1_1)))))) else (some false))) = some r := h
  clear h
  replace H := Option.bind_eq_some_iff.mp H
  obtain ⟨t326, A40, H⟩ := H
  replace H : (if t326 = true then (if a0_0 < 1 then (regletlaw21_PaintWindow.j0 k a2 true a0_0 a0_1 a0_2 a1_0 a1_1) else (if a0_0 > 1073741824 then (regletlaw21_PaintWindow.j0 k a2 true a0_0 a0_1 a0_2 a1_0 a1_1) else (if a0_1 < 0 then (regletlaw21_PaintWindow.j0 k a2 true a0_0 a0_1 a0_2 a1_0 a1_1) else (if a0_1 > 1073741824 then (regletlaw21_PaintWindow.j0 k a2 true a0_0 a0_1 a0_2 a1_0 a1_1) else (if a0_2 < 0 then (regletlaw21_PaintWindow.j0 k a2 true a0_0 a0_1 a0_2 a1_0 a1_1) else (regletlaw21_PaintWindow.j0 k a2 (decide (a0_2 > 65536)) a0_0 a0_1 a0_2 a1_0 a1_1)))))) else (some false)) = some r := H
  have A4 := Aside0.mk A40
  clear A40
  by_cases c5 : t326 = true
  rotate_left
  · replace c5 := Bool.eq_false_iff.mpr c5
    subst c5
    have H1 : (some false) = some r := by rw [if_neg (show ¬ (false = true) by decide)] at H; exact H
    clear H
    have H := H1
    clear H1
    obtain rfl := Option.some.inj H
    go_enter Try.func5, Try.ntmps5
    go_wp2_with (first | ((with_reducible refine gate_dst (N := 3) rfl ?_); refine box_event ?hg (N := 3) ?hd (cs := #[.int .i64 a0_0, .int .i64 a0_1, .int .i64 a0_2]) (t := 48) ?hr ?_; (case hd => rfl); (case hg => rfl); (case hr => exact z209_); intro gb324 hg w133 hbox hb; have BK324 := Aside0.mk (hbox); have GW324 := Aside0.mk ((z85_ : w.heap.size ≤ gb324)); have GE324 := Aside0.mk ((z85_ : w.heap.size ≤ gb324)); replace HB := Aside0.mk (below_step z117_ hb); clear hb hbox hg) | ((with_reducible refine gate_dst (N := 4) rfl ?_); refine box_event ?hg (N := 4) ?hd (cs := #[.int .i64 a1_0, .int .i64 a1_1]) (t := 49) ?hr ?_; (case hd => rfl); (case hg => rfl); (case hr => exact z209_); intro gb325 hg w134 hbox hb; have BK325 := Aside0.mk (hbox); have GW325 := Aside0.mk ((z63_ : w.heap.size ≤ gb325)); have GE325 := Aside0.mk ((z63_ : w.heap.size ≤ gb325)); replace HB := Aside0.mk (below_step z106_ hb); have NB324_325 := Aside0.mk ((z35_ : gb324 ≠ gb325)); have NB325_324 := Aside0.mk ((z34_ : gb325 ≠ gb324)); replace BK324 := Aside0.mk (blk_below (g := gb324) (o := .cells #[.int .i64 a0_0, .int .i64 a0_1, .int .i64 a0_2] 48 (0, 0)) z150_ hb); clear hb hbox hg) | (go_at_call 10; (with_reducible refine (regletlaw21_awake.calls k  false _ A4.out).mono ?_); rintro e w135 ⟨rfl, hb⟩; replace BK324 := Aside0.mk (blk_below (g := gb324) (o := .cells #[.int .i64 a0_0, .int .i64 a0_1, .int .i64 a0_2] 48 (0, 0)) z150_ hb); replace BK325 := Aside0.mk (blk_below (g := gb325) (o := .cells #[.int .i64 a1_0, .int .i64 a1_1] 49 (0, 0)) z151_ hb); replace HB := Aside0.mk (below_step z70_ hb); (try clear hb); (try clear hb2); (try clear hk); (try clear hi)))
    repeat (go_quiet (first | ((with_reducible refine gate_dst (N := 3) rfl ?_); refine box_event ?hg (N := 3) ?hd (cs := #[.int .i64 a0_0, .int .i64 a0_1, .int .i64 a0_2]) (t := 48) ?hr ?_; (case hd => rfl); (case hg => rfl); (case hr => exact z209_); intro gb324 hg w133 hbox hb; have BK324 := Aside0.mk (hbox); have GW324 := Aside0.mk ((z85_ : w.heap.size ≤ gb324)); have GE324 := Aside0.mk ((z85_ : w.heap.size ≤ gb324)); replace HB := Aside0.mk (below_step z117_ hb); clear hb hbox hg) | ((with_reducible refine gate_dst (N := 4) rfl ?_); refine box_event ?hg (N := 4) ?hd (cs := #[.int .i64 a1_0, .int .i64 a1_1]) (t := 49) ?hr ?_; (case hd => rfl); (case hg => rfl); (case hr => exact z209_); intro gb325 hg w134 hbox hb; have BK325 := Aside0.mk (hbox); have GW325 := Aside0.mk ((z63_ : w.heap.size ≤ gb325)); have GE325 := Aside0.mk ((z63_ : w.heap.size ≤ gb325)); replace HB := Aside0.mk (below_step z106_ hb); have NB324_325 := Aside0.mk ((z35_ : gb324 ≠ gb325)); have NB325_324 := Aside0.mk ((z34_ : gb325 ≠ gb324)); replace BK324 := Aside0.mk (blk_below (g := gb324) (o := .cells #[.int .i64 a0_0, .int .i64 a0_1, .int .i64 a0_2] 48 (0, 0)) z150_ hb); clear hb hbox hg) | (go_at_call 10; (with_reducible refine (regletlaw21_awake.calls k  false _ A4.out).mono ?_); rintro e w135 ⟨rfl, hb⟩; replace BK324 := Aside0.mk (blk_below (g := gb324) (o := .cells #[.int .i64 a0_0, .int .i64 a0_1, .int .i64 a0_2] 48 (0, 0)) z150_ hb); replace BK325 := Aside0.mk (blk_below (g := gb325) (o := .cells #[.int .i64 a1_0, .int .i64 a1_1] 49 (0, 0)) z151_ hb); replace HB := Aside0.mk (below_step z70_ hb); (try clear hb); (try clear hb2); (try clear hk); (try clear hi))); try go_wp2_with (first | ((with_reducible refine gate_dst (N := 3) rfl ?_); refine box_event ?hg (N := 3) ?hd (cs := #[.int .i64 a0_0, .int .i64 a0_1, .int .i64 a0_2]) (t := 48) ?hr ?_; (case hd => rfl); (case hg => rfl); (case hr => exact z209_); intro gb324 hg w133 hbox hb; have BK324 := Aside0.mk (hbox); have GW324 := Aside0.mk ((z85_ : w.heap.size ≤ gb324)); have GE324 := Aside0.mk ((z85_ : w.heap.size ≤ gb324)); replace HB := Aside0.mk (below_step z117_ hb); clear hb hbox hg) | ((with_reducible refine gate_dst (N := 4) rfl ?_); refine box_event ?hg (N := 4) ?hd (cs := #[.int .i64 a1_0, .int .i64 a1_1]) (t := 49) ?hr ?_; (case hd => rfl); (case hg => rfl); (case hr => exact z209_); intro gb325 hg w134 hbox hb; have BK325 := Aside0.mk (hbox); have GW325 := Aside0.mk ((z63_ : w.heap.size ≤ gb325)); have GE325 := Aside0.mk ((z63_ : w.heap.size ≤ gb325)); replace HB := Aside0.mk (below_step z106_ hb); have NB324_325 := Aside0.mk ((z35_ : gb324 ≠ gb325)); have NB325_324 := Aside0.mk ((z34_ : gb325 ≠ gb324)); replace BK324 := Aside0.mk (blk_below (g := gb324) (o := .cells #[.int .i64 a0_0, .int .i64 a0_1, .int .i64 a0_2] 48 (0, 0)) z150_ hb); clear hb hbox hg) | (go_at_call 10; (with_reducible refine (regletlaw21_awake.calls k  false _ A4.out).mono ?_); rintro e w135 ⟨rfl, hb⟩; replace BK324 := Aside0.mk (blk_below (g := gb324) (o := .cells #[.int .i64 a0_0, .int .i64 a0_1, .int .i64 a0_2] 48 (0, 0)) z150_ hb); replace BK325 := Aside0.mk (blk_below (g := gb325) (o := .cells #[.int .i64 a1_0, .int .i64 a1_1] 49 (0, 0)) z151_ hb); replace HB := Aside0.mk (below_step z70_ hb); (try clear hb); (try clear hb2); (try clear hk); (try clear hi))))
    go_ret
    exact ⟨z178_, z70_⟩
  subst c5
  have H1 : (if a0_0 < 1 then (regletlaw21_PaintWindow.j0 k a2 true a0_0 a0_1 a0_2 a1_0 a1_1) else (if a0_0 > 1073741824 then (regletlaw21_PaintWindow.j0 k a2 true a0_0 a0_1 a0_2 a1_0 a1_1) else (if a0_1 < 0 then (regletlaw21_PaintWindow.j0 k a2 true a0_0 a0_1 a0_2 a1_0 a1_1) else (if a0_1 > 1073741824 then (regletlaw21_PaintWindow.j0 k a2 true a0_0 a0_1 a0_2 a1_0 a1_1) else (if a0_2 < 0 then (regletlaw21_PaintWindow.j0 k a2 true a0_0 a0_1 a0_2 a1_0 a1_1) else (regletlaw21_PaintWindow.j0 k a2 (decide (a0_2 > 65536)) a0_0 a0_1 a0_2 a1_0 a1_1)))))) = some r := by rw [if_pos rfl] at H; exact H
  clear H
  have H := H1
  clear H1
  have HC6 := Aside0.mk H
  clear H
  go_enter Try.func5, Try.ntmps5
  go_upto_region 3 with (first | ((with_reducible refine gate_dst (N := 3) rfl ?_); refine box_event ?hg (N := 3) ?hd (cs := #[.int .i64 a0_0, .int .i64 a0_1, .int .i64 a0_2]) (t := 48) ?hr ?_; (case hd => rfl); (case hg => rfl); (case hr => exact z209_); intro gb324 hg w7 hbox hb; have BK324 := Aside0.mk (hbox); have GW324 := Aside0.mk ((z85_ : w.heap.size ≤ gb324)); have GE324 := Aside0.mk ((z85_ : w.heap.size ≤ gb324)); replace HB := Aside0.mk (below_step z117_ hb); clear hb hbox hg) | ((with_reducible refine gate_dst (N := 4) rfl ?_); refine box_event ?hg (N := 4) ?hd (cs := #[.int .i64 a1_0, .int .i64 a1_1]) (t := 49) ?hr ?_; (case hd => rfl); (case hg => rfl); (case hr => exact z209_); intro gb325 hg w8 hbox hb; have BK325 := Aside0.mk (hbox); have GW325 := Aside0.mk ((z63_ : w.heap.size ≤ gb325)); have GE325 := Aside0.mk ((z63_ : w.heap.size ≤ gb325)); replace HB := Aside0.mk (below_step z106_ hb); have NB324_325 := Aside0.mk ((z35_ : gb324 ≠ gb325)); have NB325_324 := Aside0.mk ((z34_ : gb325 ≠ gb324)); replace BK324 := Aside0.mk (blk_below (g := gb324) (o := .cells #[.int .i64 a0_0, .int .i64 a0_1, .int .i64 a0_2] 48 (0, 0)) z150_ hb); clear hb hbox hg) | (go_at_call 10; (with_reducible refine (regletlaw21_awake.calls k  true _ A4.out).mono ?_); rintro e w9 ⟨rfl, hb⟩; replace BK324 := Aside0.mk (blk_below (g := gb324) (o := .cells #[.int .i64 a0_0, .int .i64 a0_1, .int .i64 a0_2] 48 (0, 0)) z150_ hb); replace BK325 := Aside0.mk (blk_below (g := gb325) (o := .cells #[.int .i64 a1_0, .int .i64 a1_1] 49 (0, 0)) z151_ hb); replace HB := Aside0.mk (below_step z70_ hb); (try clear hb); (try clear hb2); (try clear hk); (try clear hi)))
  repeat (go_quiet (first | ((with_reducible refine gate_dst (N := 3) rfl ?_); refine box_event ?hg (N := 3) ?hd (cs := #[.int .i64 a0_0, .int .i64 a0_1, .int .i64 a0_2]) (t := 48) ?hr ?_; (case hd => rfl); (case hg => rfl); (case hr => exact z209_); intro gb324 hg w7 hbox hb; have BK324 := Aside0.mk (hbox); have GW324 := Aside0.mk ((z85_ : w.heap.size ≤ gb324)); have GE324 := Aside0.mk ((z85_ : w.heap.size ≤ gb324)); replace HB := Aside0.mk (below_step z117_ hb); clear hb hbox hg) | ((with_reducible refine gate_dst (N := 4) rfl ?_); refine box_event ?hg (N := 4) ?hd (cs := #[.int .i64 a1_0, .int .i64 a1_1]) (t := 49) ?hr ?_; (case hd => rfl); (case hg => rfl); (case hr => exact z209_); intro gb325 hg w8 hbox hb; have BK325 := Aside0.mk (hbox); have GW325 := Aside0.mk ((z63_ : w.heap.size ≤ gb325)); have GE325 := Aside0.mk ((z63_ : w.heap.size ≤ gb325)); replace HB := Aside0.mk (below_step z106_ hb); have NB324_325 := Aside0.mk ((z35_ : gb324 ≠ gb325)); have NB325_324 := Aside0.mk ((z34_ : gb325 ≠ gb324)); replace BK324 := Aside0.mk (blk_below (g := gb324) (o := .cells #[.int .i64 a0_0, .int .i64 a0_1, .int .i64 a0_2] 48 (0, 0)) z150_ hb); clear hb hbox hg) | (go_at_call 10; (with_reducible refine (regletlaw21_awake.calls k  true _ A4.out).mono ?_); rintro e w9 ⟨rfl, hb⟩; replace BK324 := Aside0.mk (blk_below (g := gb324) (o := .cells #[.int .i64 a0_0, .int .i64 a0_1, .int .i64 a0_2] 48 (0, 0)) z150_ hb); replace BK325 := Aside0.mk (blk_below (g := gb325) (o := .cells #[.int .i64 a1_0, .int .i64 a1_1] 49 (0, 0)) z151_ hb); replace HB := Aside0.mk (below_step z70_ hb); (try clear hb); (try clear hb2); (try clear hk); (try clear hi))); go_upto_region 3 with (first | ((with_reducible refine gate_dst (N := 3) rfl ?_); refine box_event ?hg (N := 3) ?hd (cs := #[.int .i64 a0_0, .int .i64 a0_1, .int .i64 a0_2]) (t := 48) ?hr ?_; (case hd => rfl); (case hg => rfl); (case hr => exact z209_); intro gb324 hg w7 hbox hb; have BK324 := Aside0.mk (hbox); have GW324 := Aside0.mk ((z85_ : w.heap.size ≤ gb324)); have GE324 := Aside0.mk ((z85_ : w.heap.size ≤ gb324)); replace HB := Aside0.mk (below_step z117_ hb); clear hb hbox hg) | ((with_reducible refine gate_dst (N := 4) rfl ?_); refine box_event ?hg (N := 4) ?hd (cs := #[.int .i64 a1_0, .int .i64 a1_1]) (t := 49) ?hr ?_; (case hd => rfl); (case hg => rfl); (case hr => exact z209_); intro gb325 hg w8 hbox hb; have BK325 := Aside0.mk (hbox); have GW325 := Aside0.mk ((z63_ : w.heap.size ≤ gb325)); have GE325 := Aside0.mk ((z63_ : w.heap.size ≤ gb325)); replace HB := Aside0.mk (below_step z106_ hb); have NB324_325 := Aside0.mk ((z35_ : gb324 ≠ gb325)); have NB325_324 := Aside0.mk ((z34_ : gb325 ≠ gb324)); replace BK324 := Aside0.mk (blk_below (g := gb324) (o := .cells #[.int .i64 a0_0, .int .i64 a0_1, .int .i64 a0_2] 48 (0, 0)) z150_ hb); clear hb hbox hg) | (go_at_call 10; (with_reducible refine (regletlaw21_awake.calls k  true _ A4.out).mono ?_); rintro e w9 ⟨rfl, hb⟩; replace BK324 := Aside0.mk (blk_below (g := gb324) (o := .cells #[.int .i64 a0_0, .int .i64 a0_1, .int .i64 a0_2] 48 (0, 0)) z150_ hb); replace BK325 := Aside0.mk (blk_below (g := gb325) (o := .cells #[.int .i64 a1_0, .int .i64 a1_1] 49 (0, 0)) z151_ hb); replace HB := Aside0.mk (below_step z70_ hb); (try clear hb); (try clear hb2); (try clear hk); (try clear hi))))
  (try simp only [Act.put, List.setIfInBounds_toArray, List.set_cons_zero, List.set_cons_succ])
  go_cut [56] (fun v56 wc => ∃ (kq : Nat) (x56_5 : Bool), v56 = .bool x56_5 ∧ Aside0 (regletlaw21_PaintWindow.j0 kq a2 x56_5 a0_0 a0_1 a0_2 a1_0 a1_1 = some r) ∧ Aside0 (kq ≤ k) ∧ Aside0 (wc.heap[gb324]? = some (.cells #[.int .i64 a0_0, .int .i64 a0_1, .int .i64 a0_2] 48 (0, 0))) ∧ Aside0 (wc.heap[gb325]? = some (.cells #[.int .i64 a1_0, .int .i64 a1_1] 49 (0, 0))) ∧ Aside0 (Below w.heap.size w wc))
  case first =>
    have H := HC6.out
    clear HC6
    by_cases c10 : a0_0 < 1
    · rw [if_pos c10] at H
      have c10b0 : decide (a0_0 < 1) = true := decide_eq_true c10
      clear c10
      (first | rw [c10b0] | (simp only [i64_w, i32_w]; rw [c10b0]) | skip)
      have H' := Aside0.mk H
      clear H
      have hnb11 := NB324_325.out
      have hnc11 := NB325_324.out
      have hcz12_0 : w9.cell? ⟨gb324, 0, none⟩ = some (.int .i64 a0_0) := (blk_cell BK324.out 0).trans rfl
      have hcz12_1 : w9.cell? ⟨gb324, 1, none⟩ = some (.int .i64 a0_1) := (blk_cell BK324.out 1).trans rfl
      have hcz12_2 : w9.cell? ⟨gb324, 2, none⟩ = some (.int .i64 a0_2) := (blk_cell BK324.out 2).trans rfl
      have hfz12_0 := blk_frozen BK324.out 0
      have hfz12_1 := blk_frozen BK324.out 1
      have hfz12_2 := blk_frozen BK324.out 2
      go_wp2
      repeat (go_quiet (fail); try go_wp2)
      go_meet
      case rel => exact ⟨_, (true), z208_, H', ⟨z210_⟩, ⟨z150_⟩, ⟨z151_⟩, ⟨z70_⟩⟩
    rw [if_neg c10] at H
    have c10b0 : decide (a0_0 < 1) = false := decide_eq_false c10
    clear c10
    (first | rw [c10b0] | (simp only [i64_w, i32_w]; rw [c10b0]) | skip)
    by_cases c13 : a0_0 > 1073741824
    · rw [if_pos c13] at H
      have c13b0 : decide (1073741824 < a0_0) = true := decide_eq_true c13
      clear c13
      have H' := Aside0.mk H
      clear H
      have hnb14 := NB324_325.out
      have hnc14 := NB325_324.out
      have hcz15_0 : w9.cell? ⟨gb324, 0, none⟩ = some (.int .i64 a0_0) := (blk_cell BK324.out 0).trans rfl
      have hcz15_1 : w9.cell? ⟨gb324, 1, none⟩ = some (.int .i64 a0_1) := (blk_cell BK324.out 1).trans rfl
      have hcz15_2 : w9.cell? ⟨gb324, 2, none⟩ = some (.int .i64 a0_2) := (blk_cell BK324.out 2).trans rfl
      have hfz15_0 := blk_frozen BK324.out 0
      have hfz15_1 := blk_frozen BK324.out 1
      have hfz15_2 := blk_frozen BK324.out 2
      go_wp2
      repeat (go_quiet (fail); try go_wp2)
      go_meet
      case rel => exact ⟨_, (true), z208_, H', ⟨z210_⟩, ⟨z150_⟩, ⟨z151_⟩, ⟨z70_⟩⟩
    rw [if_neg c13] at H
    have c13b0 : decide (1073741824 < a0_0) = false := decide_eq_false c13
    clear c13
    by_cases c16 : a0_1 < 0
    · rw [if_pos c16] at H
      have c16b0 : decide (a0_1 < 0) = true := decide_eq_true c16
      clear c16
      have H' := Aside0.mk H
      clear H
      have hnb17 := NB324_325.out
      have hnc17 := NB325_324.out
      have hcz18_0 : w9.cell? ⟨gb324, 0, none⟩ = some (.int .i64 a0_0) := (blk_cell BK324.out 0).trans rfl
      have hcz18_1 : w9.cell? ⟨gb324, 1, none⟩ = some (.int .i64 a0_1) := (blk_cell BK324.out 1).trans rfl
      have hcz18_2 : w9.cell? ⟨gb324, 2, none⟩ = some (.int .i64 a0_2) := (blk_cell BK324.out 2).trans rfl
      have hfz18_0 := blk_frozen BK324.out 0
      have hfz18_1 := blk_frozen BK324.out 1
      have hfz18_2 := blk_frozen BK324.out 2
      go_wp2
      repeat (go_quiet (fail); try go_wp2)
      go_meet
      case rel => exact ⟨_, (true), z208_, H', ⟨z210_⟩, ⟨z150_⟩, ⟨z151_⟩, ⟨z70_⟩⟩
    rw [if_neg c16] at H
    have c16b0 : decide (a0_1 < 0) = false := decide_eq_false c16
    clear c16
    by_cases c19 : a0_1 > 1073741824
    · rw [if_pos c19] at H
      have c19b0 : decide (1073741824 < a0_1) = true := decide_eq_true c19
      clear c19
      have H' := Aside0.mk H
      clear H
      have hnb20 := NB324_325.out
      have hnc20 := NB325_324.out
      have hcz21_0 : w9.cell? ⟨gb324, 0, none⟩ = some (.int .i64 a0_0) := (blk_cell BK324.out 0).trans rfl
      have hcz21_1 : w9.cell? ⟨gb324, 1, none⟩ = some (.int .i64 a0_1) := (blk_cell BK324.out 1).trans rfl
      have hcz21_2 : w9.cell? ⟨gb324, 2, none⟩ = some (.int .i64 a0_2) := (blk_cell BK324.out 2).trans rfl
      have hfz21_0 := blk_frozen BK324.out 0
      have hfz21_1 := blk_frozen BK324.out 1
      have hfz21_2 := blk_frozen BK324.out 2
      go_wp2
      repeat (go_quiet (fail); try go_wp2)
      go_meet
      case rel => exact ⟨_, (true), z208_, H', ⟨z210_⟩, ⟨z150_⟩, ⟨z151_⟩, ⟨z70_⟩⟩
    rw [if_neg c19] at H
    have c19b0 : decide (1073741824 < a0_1) = false := decide_eq_false c19
    clear c19
    by_cases c22 : a0_2 < 0
    rotate_left
    · rw [if_neg c22] at H
      have c22b0 : decide (a0_2 < 0) = false := decide_eq_false c22
      clear c22
      have H' := Aside0.mk H
      clear H
      have hnb25 := NB324_325.out
      have hnc25 := NB325_324.out
      have hcz26_0 : w9.cell? ⟨gb324, 0, none⟩ = some (.int .i64 a0_0) := (blk_cell BK324.out 0).trans rfl
      have hcz26_1 : w9.cell? ⟨gb324, 1, none⟩ = some (.int .i64 a0_1) := (blk_cell BK324.out 1).trans rfl
      have hcz26_2 : w9.cell? ⟨gb324, 2, none⟩ = some (.int .i64 a0_2) := (blk_cell BK324.out 2).trans rfl
      have hfz26_0 := blk_frozen BK324.out 0
      have hfz26_1 := blk_frozen BK324.out 1
      have hfz26_2 := blk_frozen BK324.out 2
      go_wp2
      repeat (go_quiet (fail); try go_wp2)
      go_meet
      case rel => exact ⟨_, (decide (a0_2 > 65536)), z208_, H', ⟨z210_⟩, ⟨z150_⟩, ⟨z151_⟩, ⟨z70_⟩⟩
    rw [if_pos c22] at H
    have c22b0 : decide (a0_2 < 0) = true := decide_eq_true c22
    clear c22
    have H' := Aside0.mk H
    clear H
    have hnb23 := NB324_325.out
    have hnc23 := NB325_324.out
    have hcz24_0 : w9.cell? ⟨gb324, 0, none⟩ = some (.int .i64 a0_0) := (blk_cell BK324.out 0).trans rfl
    have hcz24_1 : w9.cell? ⟨gb324, 1, none⟩ = some (.int .i64 a0_1) := (blk_cell BK324.out 1).trans rfl
    have hcz24_2 : w9.cell? ⟨gb324, 2, none⟩ = some (.int .i64 a0_2) := (blk_cell BK324.out 2).trans rfl
    have hfz24_0 := blk_frozen BK324.out 0
    have hfz24_1 := blk_frozen BK324.out 1
    have hfz24_2 := blk_frozen BK324.out 2
    go_wp2
    repeat (go_quiet (fail); try go_wp2)
    go_meet
    case rel => exact ⟨_, (true), z208_, H', ⟨z210_⟩, ⟨z150_⟩, ⟨z151_⟩, ⟨z70_⟩⟩
  case rest =>
    clear HC6; (try clear c1); (try clear c2); (try clear p2); (try clear c5); (try clear c10); (try clear c10b0); (try clear c11); (try clear c13); (try clear c13b0); (try clear c14); (try clear c16); (try clear c16b0); (try clear c17); (try clear c19); (try clear c19b0); (try clear c20); (try clear c22); (try clear c22b0); (try clear c23); (try clear c25); (try clear hcz12_0); (try clear hcz12_1); (try clear hcz12_2); (try clear hcz15_0); (try clear hcz15_1); (try clear hcz15_2); (try clear hcz18_0); (try clear hcz18_1); (try clear hcz18_2); (try clear hcz21_0); (try clear hcz21_1); (try clear hcz21_2); (try clear hcz24_0); (try clear hcz24_1); (try clear hcz24_2); (try clear hcz26_0); (try clear hcz26_1); (try clear hcz26_2); (try clear hfz12_0); (try clear hfz12_1); (try clear hfz12_2); (try clear hfz15_0); (try clear hfz15_1); (try clear hfz15_2); (try clear hfz18_0); (try clear hfz18_1); (try clear hfz18_2); (try clear hfz21_0); (try clear hfz21_1); (try clear hfz21_2); (try clear hfz24_0); (try clear hfz24_1); (try clear hfz24_2); (try clear hfz26_0); (try clear hfz26_1); (try clear hfz26_2)
    obtain ⟨kq, x56_5, rfl, HA, HJ5, BK324, BK325, HB⟩ := hcut
    cases kq with
    | zero => exact absurd HA.out (by simp [regletlaw21_PaintWindow.j0])
    | succ kj5 =>
      have H := HA.out
      clear HA
      simp only [regletlaw21_PaintWindow.j0] at H
      by_cases c27 : x56_5 = true
      · subst c27
        have H1 : ((paint_Right.f a0_0 a0_1 a0_2).bind fun t327 => (some (t327 == 1))) = some r := by rw [if_pos rfl] at H; exact H
        clear H
        have H := H1
        clear H1
        replace H := Option.bind_eq_some_iff.mp H
        obtain ⟨t327, A280, H⟩ := H
        replace H : (some (t327 == 1)) = some r := H
        have A28 := Aside0.mk A280
        clear A280
        obtain rfl := Option.some.inj H
        have hnb29 := NB324_325.out
        have hnc29 := NB325_324.out
        have hcz30_0 : wc.cell? ⟨gb324, 0, none⟩ = some (.int .i64 a0_0) := (blk_cell BK324.out 0).trans rfl
        have hcz30_1 : wc.cell? ⟨gb324, 1, none⟩ = some (.int .i64 a0_1) := (blk_cell BK324.out 1).trans rfl
        have hcz30_2 : wc.cell? ⟨gb324, 2, none⟩ = some (.int .i64 a0_2) := (blk_cell BK324.out 2).trans rfl
        have hfz30_0 := blk_frozen BK324.out 0
        have hfz30_1 := blk_frozen BK324.out 1
        have hfz30_2 := blk_frozen BK324.out 2
        go_wp2_with (first | (go_at_call 20; (with_reducible refine (paint_Right.calls a0_0 a0_1 a0_2 t327 _ A28.out).mono ?_); rintro e w31 ⟨rfl, hb⟩; replace BK324 := Aside0.mk (blk_below (g := gb324) (o := .cells #[.int .i64 a0_0, .int .i64 a0_1, .int .i64 a0_2] 48 (0, 0)) z150_ hb); replace BK325 := Aside0.mk (blk_below (g := gb325) (o := .cells #[.int .i64 a1_0, .int .i64 a1_1] 49 (0, 0)) z151_ hb); replace HB := Aside0.mk (below_step z70_ hb); (try clear hb); (try clear hb2); (try clear hk); (try clear hi)))
        repeat (go_quiet (first | (go_at_call 20; (with_reducible refine (paint_Right.calls a0_0 a0_1 a0_2 t327 _ A28.out).mono ?_); rintro e w31 ⟨rfl, hb⟩; replace BK324 := Aside0.mk (blk_below (g := gb324) (o := .cells #[.int .i64 a0_0, .int .i64 a0_1, .int .i64 a0_2] 48 (0, 0)) z150_ hb); replace BK325 := Aside0.mk (blk_below (g := gb325) (o := .cells #[.int .i64 a1_0, .int .i64 a1_1] 49 (0, 0)) z151_ hb); replace HB := Aside0.mk (below_step z70_ hb); (try clear hb); (try clear hb2); (try clear hk); (try clear hi))); try go_wp2_with (first | (go_at_call 20; (with_reducible refine (paint_Right.calls a0_0 a0_1 a0_2 t327 _ A28.out).mono ?_); rintro e w31 ⟨rfl, hb⟩; replace BK324 := Aside0.mk (blk_below (g := gb324) (o := .cells #[.int .i64 a0_0, .int .i64 a0_1, .int .i64 a0_2] 48 (0, 0)) z150_ hb); replace BK325 := Aside0.mk (blk_below (g := gb325) (o := .cells #[.int .i64 a1_0, .int .i64 a1_1] 49 (0, 0)) z151_ hb); replace HB := Aside0.mk (below_step z70_ hb); (try clear hb); (try clear hb2); (try clear hk); (try clear hi))))
        go_ret
        exact ⟨z178_, z70_⟩
      replace c27 := Bool.eq_false_iff.mpr c27
      subst c27
      have H1 : ((paint_Right.f a0_0 a0_1 a0_2).bind fun t328 => (if t328 = 0 then (regletlaw21_PaintWindow.j1 kj5 a2 (decide (a0_2 > 50)) a0_0 a0_1 a0_2 a1_0 a1_1) else (regletlaw21_PaintWindow.j1 kj5 a2 true a0_0 a0_1 a0_2 a1_0 a1_1))) = some r := by rw [if_neg (show ¬ (false = true) by decide)] at H; exact H
      clear H
      have H := H1
      clear H1
      have HC32 := Aside0.mk H
      clear H
      go_upto_region 5 with (fail)
      repeat (go_quiet (fail); go_upto_region 5 with (fail))
      go_cut [67] (fun v67 wc => ∃ (kq : Nat) (x67_31 : Bool), v67 = .bool x67_31 ∧ Aside0 (regletlaw21_PaintWindow.j1 kq a2 x67_31 a0_0 a0_1 a0_2 a1_0 a1_1 = some r) ∧ Aside0 (kq ≤ kj5) ∧ Aside0 (wc.heap[gb324]? = some (.cells #[.int .i64 a0_0, .int .i64 a0_1, .int .i64 a0_2] 48 (0, 0))) ∧ Aside0 (wc.heap[gb325]? = some (.cells #[.int .i64 a1_0, .int .i64 a1_1] 49 (0, 0))) ∧ Aside0 (Below w.heap.size w wc))
      case first =>
        have H := HC32.out
        clear HC32
        replace H := Option.bind_eq_some_iff.mp H
        obtain ⟨t328, A330, H⟩ := H
        replace H : (if t328 = 0 then (regletlaw21_PaintWindow.j1 kj5 a2 (decide (a0_2 > 50)) a0_0 a0_1 a0_2 a1_0 a1_1) else (regletlaw21_PaintWindow.j1 kj5 a2 true a0_0 a0_1 a0_2 a1_0 a1_1)) = some r := H
        have A33 := Aside0.mk A330
        clear A330
        by_cases c34 : t328 = 0
        rotate_left
        · rw [if_neg c34] at H
          have c34b0 : (t328 == 0) = false := beq_eq_false_iff_ne.mpr c34
          have c34b1 : (t328 != 0) = true := bne_iff_ne.mpr c34
          (first | rw [c34b0] | (simp only [i64_w, i32_w]; rw [c34b0]) | skip)
          have H' := Aside0.mk H
          clear H
          have hnb39 := NB324_325.out
          have hnc39 := NB325_324.out
          have hcz40_0 : wc.cell? ⟨gb324, 0, none⟩ = some (.int .i64 a0_0) := (blk_cell BK324.out 0).trans rfl
          have hcz40_1 : wc.cell? ⟨gb324, 1, none⟩ = some (.int .i64 a0_1) := (blk_cell BK324.out 1).trans rfl
          have hcz40_2 : wc.cell? ⟨gb324, 2, none⟩ = some (.int .i64 a0_2) := (blk_cell BK324.out 2).trans rfl
          have hfz40_0 := blk_frozen BK324.out 0
          have hfz40_1 := blk_frozen BK324.out 1
          have hfz40_2 := blk_frozen BK324.out 2
          go_wp2_with (first | (go_at_call 20; (with_reducible refine (paint_Right.calls a0_0 a0_1 a0_2 t328 _ A33.out).mono ?_); rintro e w41 ⟨rfl, hb⟩; replace BK324 := Aside0.mk (blk_below (g := gb324) (o := .cells #[.int .i64 a0_0, .int .i64 a0_1, .int .i64 a0_2] 48 (0, 0)) z150_ hb); replace BK325 := Aside0.mk (blk_below (g := gb325) (o := .cells #[.int .i64 a1_0, .int .i64 a1_1] 49 (0, 0)) z151_ hb); replace HB := Aside0.mk (below_step z70_ hb); (try clear hb); (try clear hb2); (try clear hk); (try clear hi)))
          repeat (go_quiet (first | (go_at_call 20; (with_reducible refine (paint_Right.calls a0_0 a0_1 a0_2 t328 _ A33.out).mono ?_); rintro e w41 ⟨rfl, hb⟩; replace BK324 := Aside0.mk (blk_below (g := gb324) (o := .cells #[.int .i64 a0_0, .int .i64 a0_1, .int .i64 a0_2] 48 (0, 0)) z150_ hb); replace BK325 := Aside0.mk (blk_below (g := gb325) (o := .cells #[.int .i64 a1_0, .int .i64 a1_1] 49 (0, 0)) z151_ hb); replace HB := Aside0.mk (below_step z70_ hb); (try clear hb); (try clear hb2); (try clear hk); (try clear hi))); try go_wp2_with (first | (go_at_call 20; (with_reducible refine (paint_Right.calls a0_0 a0_1 a0_2 t328 _ A33.out).mono ?_); rintro e w41 ⟨rfl, hb⟩; replace BK324 := Aside0.mk (blk_below (g := gb324) (o := .cells #[.int .i64 a0_0, .int .i64 a0_1, .int .i64 a0_2] 48 (0, 0)) z150_ hb); replace BK325 := Aside0.mk (blk_below (g := gb325) (o := .cells #[.int .i64 a1_0, .int .i64 a1_1] 49 (0, 0)) z151_ hb); replace HB := Aside0.mk (below_step z70_ hb); (try clear hb); (try clear hb2); (try clear hk); (try clear hi))))
          go_meet
          case rel => exact ⟨_, (true), z208_, H', ⟨by have := HJ5.out; first | omega | exact Nat.le_refl _⟩, ⟨z150_⟩, ⟨z151_⟩, ⟨z70_⟩⟩
        rw [if_pos c34] at H
        have c34b0 : (t328 == 0) = true := beq_iff_eq.mpr c34
        have c34b1 : (t328 != 0) = false := bne_eq_false_iff_eq.mpr c34
        clear c34
        (first | rw [c34b0] | (simp only [i64_w, i32_w]; rw [c34b0]) | skip)
        have H' := Aside0.mk H
        clear H
        have hnb35 := NB324_325.out
        have hnc35 := NB325_324.out
        have hcz36_0 : wc.cell? ⟨gb324, 0, none⟩ = some (.int .i64 a0_0) := (blk_cell BK324.out 0).trans rfl
        have hcz36_1 : wc.cell? ⟨gb324, 1, none⟩ = some (.int .i64 a0_1) := (blk_cell BK324.out 1).trans rfl
        have hcz36_2 : wc.cell? ⟨gb324, 2, none⟩ = some (.int .i64 a0_2) := (blk_cell BK324.out 2).trans rfl
        have hfz36_0 := blk_frozen BK324.out 0
        have hfz36_1 := blk_frozen BK324.out 1
        have hfz36_2 := blk_frozen BK324.out 2
        go_wp2_with (first | (go_at_call 20; (with_reducible refine (paint_Right.calls a0_0 a0_1 a0_2 t328 _ A33.out).mono ?_); rintro e w37 ⟨rfl, hb⟩; replace BK324 := Aside0.mk (blk_below (g := gb324) (o := .cells #[.int .i64 a0_0, .int .i64 a0_1, .int .i64 a0_2] 48 (0, 0)) z150_ hb); replace BK325 := Aside0.mk (blk_below (g := gb325) (o := .cells #[.int .i64 a1_0, .int .i64 a1_1] 49 (0, 0)) z151_ hb); replace HB := Aside0.mk (below_step z70_ hb); (try clear hb); (try clear hb2); (try clear hk); (try clear hi); have hcz38_0 : w37.cell? ⟨gb324, 0, none⟩ = some (.int .i64 a0_0) := (blk_cell BK324.out 0).trans rfl; have hcz38_1 : w37.cell? ⟨gb324, 1, none⟩ = some (.int .i64 a0_1) := (blk_cell BK324.out 1).trans rfl; have hcz38_2 : w37.cell? ⟨gb324, 2, none⟩ = some (.int .i64 a0_2) := (blk_cell BK324.out 2).trans rfl; have hfz38_0 := blk_frozen BK324.out 0; have hfz38_1 := blk_frozen BK324.out 1; have hfz38_2 := blk_frozen BK324.out 2))
        repeat (go_quiet (first | (go_at_call 20; (with_reducible refine (paint_Right.calls a0_0 a0_1 a0_2 t328 _ A33.out).mono ?_); rintro e w37 ⟨rfl, hb⟩; replace BK324 := Aside0.mk (blk_below (g := gb324) (o := .cells #[.int .i64 a0_0, .int .i64 a0_1, .int .i64 a0_2] 48 (0, 0)) z150_ hb); replace BK325 := Aside0.mk (blk_below (g := gb325) (o := .cells #[.int .i64 a1_0, .int .i64 a1_1] 49 (0, 0)) z151_ hb); replace HB := Aside0.mk (below_step z70_ hb); (try clear hb); (try clear hb2); (try clear hk); (try clear hi); have hcz38_0 : w37.cell? ⟨gb324, 0, none⟩ = some (.int .i64 a0_0) := (blk_cell BK324.out 0).trans rfl; have hcz38_1 : w37.cell? ⟨gb324, 1, none⟩ = some (.int .i64 a0_1) := (blk_cell BK324.out 1).trans rfl; have hcz38_2 : w37.cell? ⟨gb324, 2, none⟩ = some (.int .i64 a0_2) := (blk_cell BK324.out 2).trans rfl; have hfz38_0 := blk_frozen BK324.out 0; have hfz38_1 := blk_frozen BK324.out 1; have hfz38_2 := blk_frozen BK324.out 2)); try go_wp2_with (first | (go_at_call 20; (with_reducible refine (paint_Right.calls a0_0 a0_1 a0_2 t328 _ A33.out).mono ?_); rintro e w37 ⟨rfl, hb⟩; replace BK324 := Aside0.mk (blk_below (g := gb324) (o := .cells #[.int .i64 a0_0, .int .i64 a0_1, .int .i64 a0_2] 48 (0, 0)) z150_ hb); replace BK325 := Aside0.mk (blk_below (g := gb325) (o := .cells #[.int .i64 a1_0, .int .i64 a1_1] 49 (0, 0)) z151_ hb); replace HB := Aside0.mk (below_step z70_ hb); (try clear hb); (try clear hb2); (try clear hk); (try clear hi); have hcz38_0 : w37.cell? ⟨gb324, 0, none⟩ = some (.int .i64 a0_0) := (blk_cell BK324.out 0).trans rfl; have hcz38_1 : w37.cell? ⟨gb324, 1, none⟩ = some (.int .i64 a0_1) := (blk_cell BK324.out 1).trans rfl; have hcz38_2 : w37.cell? ⟨gb324, 2, none⟩ = some (.int .i64 a0_2) := (blk_cell BK324.out 2).trans rfl; have hfz38_0 := blk_frozen BK324.out 0; have hfz38_1 := blk_frozen BK324.out 1; have hfz38_2 := blk_frozen BK324.out 2)))
        go_meet
        case rel => exact ⟨_, (decide (a0_2 > 50)), z208_, H', ⟨by have := HJ5.out; first | omega | exact Nat.le_refl _⟩, ⟨z150_⟩, ⟨z151_⟩, ⟨z70_⟩⟩
      case rest =>
        clear HC32; (try clear c1); (try clear c2); (try clear p2); (try clear c3); (try clear c5); (try clear c10); (try clear c10b0); (try clear c11); (try clear c13); (try clear c13b0); (try clear c14); (try clear c16); (try clear c16b0); (try clear c17); (try clear c19); (try clear c19b0); (try clear c20); (try clear c22); (try clear c22b0); (try clear c23); (try clear c25); (try clear c27); (try clear c29); (try clear c34); (try clear c34b0); (try clear c34b1); (try clear c35); (try clear c39); (try clear hcz12_0); (try clear hcz12_1); (try clear hcz12_2); (try clear hcz15_0); (try clear hcz15_1); (try clear hcz15_2); (try clear hcz18_0); (try clear hcz18_1); (try clear hcz18_2); (try clear hcz21_0); (try clear hcz21_1); (try clear hcz21_2); (try clear hcz24_0); (try clear hcz24_1); (try clear hcz24_2); (try clear hcz26_0); (try clear hcz26_1); (try clear hcz26_2); (try clear hcz30_0); (try clear hcz30_1); (try clear hcz30_2); (try clear hcz36_0); (try clear hcz36_1); (try clear hcz36_2); (try clear hcz38_0); (try clear hcz38_1); (try clear hcz38_2); (try clear hcz40_0); (try clear hcz40_1); (try clear hcz40_2); (try clear hfz12_0); (try clear hfz12_1); (try clear hfz12_2); (try clear hfz15_0); (try clear hfz15_1); (try clear hfz15_2); (try clear hfz18_0); (try clear hfz18_1); (try clear hfz18_2); (try clear hfz21_0); (try clear hfz21_1); (try clear hfz21_2); (try clear hfz24_0); (try clear hfz24_1); (try clear hfz24_2); (try clear hfz26_0); (try clear hfz26_1); (try clear hfz26_2); (try clear hfz30_0); (try clear hfz30_1); (try clear hfz30_2); (try clear hfz36_0); (try clear hfz36_1); (try clear hfz36_2); (try clear hfz38_0); (try clear hfz38_1); (try clear hfz38_2); (try clear hfz40_0); (try clear hfz40_1); (try clear hfz40_2); (try clear p2)
        obtain ⟨kq, x67_31, rfl, HA, HJ31, BK324, BK325, HB⟩ := hcut
        cases kq with
        | zero => exact absurd HA.out (by simp [regletlaw21_PaintWindow.j1])
        | succ kj31 =>
          have H := HA.out
          clear HA
          simp only [regletlaw21_PaintWindow.j1] at H
          by_cases c42 : x67_31 = true
          · subst c42
            have H1 : (some (decide (a0_2 > 50))) = some r := by rw [if_pos rfl] at H; exact H
            clear H
            have H := H1
            clear H1
            obtain rfl := Option.some.inj H
            have hnb43 := NB324_325.out
            have hnc43 := NB325_324.out
            have hcz44_0 : wc.cell? ⟨gb324, 0, none⟩ = some (.int .i64 a0_0) := (blk_cell BK324.out 0).trans rfl
            have hcz44_1 : wc.cell? ⟨gb324, 1, none⟩ = some (.int .i64 a0_1) := (blk_cell BK324.out 1).trans rfl
            have hcz44_2 : wc.cell? ⟨gb324, 2, none⟩ = some (.int .i64 a0_2) := (blk_cell BK324.out 2).trans rfl
            have hfz44_0 := blk_frozen BK324.out 0
            have hfz44_1 := blk_frozen BK324.out 1
            have hfz44_2 := blk_frozen BK324.out 2
            go_wp2
            repeat (go_quiet (fail); try go_wp2)
            go_ret
            exact ⟨z178_, z70_⟩
          replace c42 := Bool.eq_false_iff.mpr c42
          subst c42
          have H1 : (regletlaw21_PaintWindow.l0 kj31 a2 (mx 0 (wrap64 ((wrap64 (a0_2 * a0_0)) + (wrap64 ((wrap64 (a0_2 - 1)) * a0_1))))) ([] : List (S56)) (mx a1_0 (-1073741824)) (mn a1_1 281474976710656) 0 0 false 0 a0_0 a0_1 a0_2 a1_0 a1_1) = some r := by rw [if_neg (show ¬ (false = true) by decide)] at H; exact H
          clear H
          have H := H1
          clear H1
          obtain ⟨ji45, hji45⟩ : ∃ j_ : Int, (mx 0 (wrap64 ((wrap64 (a0_2 * a0_0)) + (wrap64 ((wrap64 (a0_2 - 1)) * a0_1))))) = j_ := ⟨_, rfl⟩
          replace H : (regletlaw21_PaintWindow.l0 kj31 a2 ji45 ([] : List (S56)) (mx a1_0 (-1073741824)) (mn a1_1 281474976710656) 0 0 false 0 a0_0 a0_1 a0_2 a1_0 a1_1) = some r := by first | (rw [hji45] at H; exact H) | (simp only [hji45] at H ⊢; exact H)
          have hji45_ : (if 0 < (wrap64 ((wrap64 (a0_2 * a0_0)) + (wrap64 ((wrap64 (a0_2 - 1)) * a0_1)))) then (wrap64 ((wrap64 (a0_2 * a0_0)) + (wrap64 ((wrap64 (a0_2 - 1)) * a0_1)))) else 0) = ji45 := hji45
          obtain ⟨ji46, hji46⟩ : ∃ j_ : Int, (mx a1_0 (-1073741824)) = j_ := ⟨_, rfl⟩
          replace H : (regletlaw21_PaintWindow.l0 kj31 a2 ji45 ([] : List (S56)) ji46 (mn a1_1 281474976710656) 0 0 false 0 a0_0 a0_1 a0_2 a1_0 a1_1) = some r := by first | (rw [hji46] at H; exact H) | (simp only [hji46] at H ⊢; exact H)
          have hji46_ : (if a1_0 < (-1073741824) then (-1073741824) else a1_0) = ji46 := hji46
          obtain ⟨ji47, hji47⟩ : ∃ j_ : Int, (mn a1_1 281474976710656) = j_ := ⟨_, rfl⟩
          replace H : (regletlaw21_PaintWindow.l0 kj31 a2 ji45 ([] : List (S56)) ji46 ji47 0 0 false 0 a0_0 a0_1 a0_2 a1_0 a1_1) = some r := by first | (rw [hji47] at H; exact H) | (simp only [hji47] at H ⊢; exact H)
          have hji47_ : (if 281474976710656 < a1_1 then 281474976710656 else a1_1) = ji47 := hji47
          have H' := Aside0.mk H
          clear H
          have hnb48 := NB324_325.out
          have hnc48 := NB325_324.out
          have hcz49_0 : wc.cell? ⟨gb324, 0, none⟩ = some (.int .i64 a0_0) := (blk_cell BK324.out 0).trans rfl
          have hcz49_1 : wc.cell? ⟨gb324, 1, none⟩ = some (.int .i64 a0_1) := (blk_cell BK324.out 1).trans rfl
          have hcz49_2 : wc.cell? ⟨gb324, 2, none⟩ = some (.int .i64 a0_2) := (blk_cell BK324.out 2).trans rfl
          have hfz49_0 := blk_frozen BK324.out 0
          have hfz49_1 := blk_frozen BK324.out 1
          have hfz49_2 := blk_frozen BK324.out 2
          have hcz50_0 : wc.cell? ⟨gb325, 0, none⟩ = some (.int .i64 a1_0) := (blk_cell BK325.out 0).trans rfl
          have hcz50_1 : wc.cell? ⟨gb325, 1, none⟩ = some (.int .i64 a1_1) := (blk_cell BK325.out 1).trans rfl
          have hfz50_0 := blk_frozen BK325.out 0
          have hfz50_1 := blk_frozen BK325.out 1
          go_wp2
          repeat (go_quiet (fail); try go_wp2)
          go_loopg [8, 11, 12, 13, 14] kj31 (fun kq v8 v11 v12 v13 v14 w' => ∃ (x8_3 : List (S56)) (x11_3 : Int) (x12_3 : Int) (x13_3 : Bool) (x14_3 : Int), v11 = .int .i64 x11_3 ∧ v12 = .int .i64 x12_3 ∧ v13 = .bool x13_3 ∧ v14 = .int .i64 x14_3 ∧ Aside0 (regletlaw21_PaintWindow.l0 kq a2 ji45 x8_3 ji46 ji47 x11_3 x12_3 x13_3 x14_3 a0_0 a0_1 a0_2 a1_0 a1_1 = some r) ∧ Aside0 (kq ≤ kj31) ∧ Aside0 (Kd.R k56 56 w' w.heap.size (fun _ => True) v8 x8_3) ∧ Aside0 (w'.heap[gb324]? = some (.cells #[.int .i64 a0_0, .int .i64 a0_1, .int .i64 a0_2] 48 (0, 0))) ∧ Aside0 (w'.heap[gb325]? = some (.cells #[.int .i64 a1_0, .int .i64 a1_1] 49 (0, 0))) ∧ Aside0 (Below w.heap.size w w'))
          case atStart => exact ⟨(([] : List (S56))), (0), (0), (false), (0), z208_, z208_, z208_, z208_, H', ⟨Nat.le_refl _⟩, ⟨z111_⟩, ⟨z150_⟩, ⟨z151_⟩, ⟨z70_⟩⟩
          case round =>
            clear H'; (try clear c1); (try clear c2); (try clear p2); (try clear c3); (try clear c4); (try clear c5); (try clear p6); (try clear c10); (try clear c10b0); (try clear c11); (try clear c13); (try clear c13b0); (try clear c14); (try clear c16); (try clear c16b0); (try clear c17); (try clear c19); (try clear c19b0); (try clear c20); (try clear c22); (try clear c22b0); (try clear c23); (try clear c25); (try clear c27); (try clear c29); (try clear c34); (try clear c34b0); (try clear c34b1); (try clear c35); (try clear c39); (try clear c42); (try clear c43); (try clear c48); (try clear hcz12_0); (try clear hcz12_1); (try clear hcz12_2); (try clear hcz15_0); (try clear hcz15_1); (try clear hcz15_2); (try clear hcz18_0); (try clear hcz18_1); (try clear hcz18_2); (try clear hcz21_0); (try clear hcz21_1); (try clear hcz21_2); (try clear hcz24_0); (try clear hcz24_1); (try clear hcz24_2); (try clear hcz26_0); (try clear hcz26_1); (try clear hcz26_2); (try clear hcz30_0); (try clear hcz30_1); (try clear hcz30_2); (try clear hcz36_0); (try clear hcz36_1); (try clear hcz36_2); (try clear hcz38_0); (try clear hcz38_1); (try clear hcz38_2); (try clear hcz40_0); (try clear hcz40_1); (try clear hcz40_2); (try clear hcz44_0); (try clear hcz44_1); (try clear hcz44_2); (try clear hcz49_0); (try clear hcz49_1); (try clear hcz49_2); (try clear hcz50_0); (try clear hcz50_1); (try clear hfz12_0); (try clear hfz12_1); (try clear hfz12_2); (try clear hfz15_0); (try clear hfz15_1); (try clear hfz15_2); (try clear hfz18_0); (try clear hfz18_1); (try clear hfz18_2); (try clear hfz21_0); (try clear hfz21_1); (try clear hfz21_2); (try clear hfz24_0); (try clear hfz24_1); (try clear hfz24_2); (try clear hfz26_0); (try clear hfz26_1); (try clear hfz26_2); (try clear hfz30_0); (try clear hfz30_1); (try clear hfz30_2); (try clear hfz36_0); (try clear hfz36_1); (try clear hfz36_2); (try clear hfz38_0); (try clear hfz38_1); (try clear hfz38_2); (try clear hfz40_0); (try clear hfz40_1); (try clear hfz40_2); (try clear hfz44_0); (try clear hfz44_1); (try clear hfz44_2); (try clear hfz49_0); (try clear hfz49_1); (try clear hfz49_2); (try clear hfz50_0); (try clear hfz50_1); (try clear p2)
            obtain ⟨x8_3, x11_3, x12_3, x13_3, x14_3, rfl, rfl, rfl, rfl, HA, HK3, HO_8, BK324, BK325, HB⟩ := hrel
            cases gk with
            | zero => exact absurd HA.out (by simp [regletlaw21_PaintWindow.l0])
            | succ k3 =>
              have H := HA.out
              clear HA
              simp only [regletlaw21_PaintWindow.l0] at H
              by_cases c51 : x14_3 < a0_2
              rotate_left
              · rw [if_neg c51] at H
                have c51b0 : decide (x14_3 < a0_2) = false := decide_eq_false c51
                clear c51
                replace H := Option.bind_eq_some_iff.mp H
                obtain ⟨t334, A770, H⟩ := H
                replace H : ((regletlaw21_bands.f k3 t334).bind fun t337 => (if (t337.length : Int) = (x8_3.length : Int) then ((paint_Window_Size.f a0_0 a0_1 a0_2).bind fun t340 => (regletlaw21_PaintWindow.j7 k3 a2 x8_3 x11_3 x12_3 x13_3 t337 (t340 != ji45) a0_0 a0_1 a0_2)) else (regletlaw21_PaintWindow.j7 k3 a2 x8_3 x11_3 x12_3 x13_3 t337 true a0_0 a0_1 a0_2))) = some r := H
                have A77 := Aside0.mk A770
                clear A770
                replace H := Option.bind_eq_some_iff.mp H
                obtain ⟨t337, A780, H⟩ := H
                replace H : (if (t337.length : Int) = (x8_3.length : Int) then ((paint_Window_Size.f a0_0 a0_1 a0_2).bind fun t340 => (regletlaw21_PaintWindow.j7 k3 a2 x8_3 x11_3 x12_3 x13_3 t337 (t340 != ji45) a0_0 a0_1 a0_2)) else (regletlaw21_PaintWindow.j7 k3 a2 x8_3 x11_3 x12_3 x13_3 t337 true a0_0 a0_1 a0_2)) = some r := H
                have A78 := Aside0.mk A780
                clear A780
                have HC79 := Aside0.mk H
                clear H
                have hnb80 := NB324_325.out
                have hnc80 := NB325_324.out
                have hcz81_0 : wr.cell? ⟨gb324, 0, none⟩ = some (.int .i64 a0_0) := (blk_cell BK324.out 0).trans rfl
                have hcz81_1 : wr.cell? ⟨gb324, 1, none⟩ = some (.int .i64 a0_1) := (blk_cell BK324.out 1).trans rfl
                have hcz81_2 : wr.cell? ⟨gb324, 2, none⟩ = some (.int .i64 a0_2) := (blk_cell BK324.out 2).trans rfl
                have hfz81_0 := blk_frozen BK324.out 0
                have hfz81_1 := blk_frozen BK324.out 1
                have hfz81_2 := blk_frozen BK324.out 2
                have hcz82_0 : wr.cell? ⟨gb325, 0, none⟩ = some (.int .i64 a1_0) := (blk_cell BK325.out 0).trans rfl
                have hcz82_1 : wr.cell? ⟨gb325, 1, none⟩ = some (.int .i64 a1_1) := (blk_cell BK325.out 1).trans rfl
                have hfz82_0 := blk_frozen BK325.out 0
                have hfz82_1 := blk_frozen BK325.out 1
                go_upto_region 26 with (first | (go_at_call 23; (with_reducible refine (paint_Window_Seen.calls k3 a0_0 a0_1 a0_2 a1_0 a1_1 t334 _ A77.out).mono ?_); rintro e w83 ⟨v335, rfl, ho0, hb⟩; replace HO_8 := Aside0.mk (Kd.R_below z173_ hb); have HO336 := Aside0.mk (Kd.R_lower ho0 (below_size z70_)); replace BK324 := Aside0.mk (blk_below (g := gb324) (o := .cells #[.int .i64 a0_0, .int .i64 a0_1, .int .i64 a0_2] 48 (0, 0)) z150_ hb); replace BK325 := Aside0.mk (blk_below (g := gb325) (o := .cells #[.int .i64 a1_0, .int .i64 a1_1] 49 (0, 0)) z151_ hb); replace HB := Aside0.mk (below_step z70_ hb); (try clear hb); (try clear hb2); (try clear hk); (try clear hi); (try clear ho0); obtain ⟨Ao84, co84, eo84⟩ := Kd.R_slice HO336.out; subst eo84) | (go_at_call 22; (with_reducible refine (regletlaw21_bands.calls k3 _ _ t334 t337 _ ?side1 ?side2 A78.out).mono ?_); (case side1 => exact z81_); (case side2 => exact z212_); rintro e w85 ⟨v338, rfl, ho0, hb⟩; replace HO336 := Aside0.mk (Kd.R_below z163_ hb); have HO339 := Aside0.mk (Kd.R_lower (Kd.R_new' ho0 (Kd.R_lt z173_)) (below_size z70_)); replace HO_8 := Aside0.mk (Kd.R_elder' z173_ (Kd.R_base ho0) hb); replace BK324 := Aside0.mk (blk_below (g := gb324) (o := .cells #[.int .i64 a0_0, .int .i64 a0_1, .int .i64 a0_2] 48 (0, 0)) z150_ hb); replace BK325 := Aside0.mk (blk_below (g := gb325) (o := .cells #[.int .i64 a1_0, .int .i64 a1_1] 49 (0, 0)) z151_ hb); replace HB := Aside0.mk (below_step z70_ hb); (try clear hb); (try clear hb2); (try clear hk); (try clear hi); (try clear ho0)))
                repeat (go_quiet (first | (go_at_call 23; (with_reducible refine (paint_Window_Seen.calls k3 a0_0 a0_1 a0_2 a1_0 a1_1 t334 _ A77.out).mono ?_); rintro e w83 ⟨v335, rfl, ho0, hb⟩; replace HO_8 := Aside0.mk (Kd.R_below z173_ hb); have HO336 := Aside0.mk (Kd.R_lower ho0 (below_size z70_)); replace BK324 := Aside0.mk (blk_below (g := gb324) (o := .cells #[.int .i64 a0_0, .int .i64 a0_1, .int .i64 a0_2] 48 (0, 0)) z150_ hb); replace BK325 := Aside0.mk (blk_below (g := gb325) (o := .cells #[.int .i64 a1_0, .int .i64 a1_1] 49 (0, 0)) z151_ hb); replace HB := Aside0.mk (below_step z70_ hb); (try clear hb); (try clear hb2); (try clear hk); (try clear hi); (try clear ho0); obtain ⟨Ao84, co84, eo84⟩ := Kd.R_slice HO336.out; subst eo84) | (go_at_call 22; (with_reducible refine (regletlaw21_bands.calls k3 _ _ t334 t337 _ ?side1 ?side2 A78.out).mono ?_); (case side1 => exact z81_); (case side2 => exact z212_); rintro e w85 ⟨v338, rfl, ho0, hb⟩; replace HO336 := Aside0.mk (Kd.R_below z163_ hb); have HO339 := Aside0.mk (Kd.R_lower (Kd.R_new' ho0 (Kd.R_lt z173_)) (below_size z70_)); replace HO_8 := Aside0.mk (Kd.R_elder' z173_ (Kd.R_base ho0) hb); replace BK324 := Aside0.mk (blk_below (g := gb324) (o := .cells #[.int .i64 a0_0, .int .i64 a0_1, .int .i64 a0_2] 48 (0, 0)) z150_ hb); replace BK325 := Aside0.mk (blk_below (g := gb325) (o := .cells #[.int .i64 a1_0, .int .i64 a1_1] 49 (0, 0)) z151_ hb); replace HB := Aside0.mk (below_step z70_ hb); (try clear hb); (try clear hb2); (try clear hk); (try clear hi); (try clear ho0))); go_upto_region 26 with (first | (go_at_call 23; (with_reducible refine (paint_Window_Seen.calls k3 a0_0 a0_1 a0_2 a1_0 a1_1 t334 _ A77.out).mono ?_); rintro e w83 ⟨v335, rfl, ho0, hb⟩; replace HO_8 := Aside0.mk (Kd.R_below z173_ hb); have HO336 := Aside0.mk (Kd.R_lower ho0 (below_size z70_)); replace BK324 := Aside0.mk (blk_below (g := gb324) (o := .cells #[.int .i64 a0_0, .int .i64 a0_1, .int .i64 a0_2] 48 (0, 0)) z150_ hb); replace BK325 := Aside0.mk (blk_below (g := gb325) (o := .cells #[.int .i64 a1_0, .int .i64 a1_1] 49 (0, 0)) z151_ hb); replace HB := Aside0.mk (below_step z70_ hb); (try clear hb); (try clear hb2); (try clear hk); (try clear hi); (try clear ho0); obtain ⟨Ao84, co84, eo84⟩ := Kd.R_slice HO336.out; subst eo84) | (go_at_call 22; (with_reducible refine (regletlaw21_bands.calls k3 _ _ t334 t337 _ ?side1 ?side2 A78.out).mono ?_); (case side1 => exact z81_); (case side2 => exact z212_); rintro e w85 ⟨v338, rfl, ho0, hb⟩; replace HO336 := Aside0.mk (Kd.R_below z163_ hb); have HO339 := Aside0.mk (Kd.R_lower (Kd.R_new' ho0 (Kd.R_lt z173_)) (below_size z70_)); replace HO_8 := Aside0.mk (Kd.R_elder' z173_ (Kd.R_base ho0) hb); replace BK324 := Aside0.mk (blk_below (g := gb324) (o := .cells #[.int .i64 a0_0, .int .i64 a0_1, .int .i64 a0_2] 48 (0, 0)) z150_ hb); replace BK325 := Aside0.mk (blk_below (g := gb325) (o := .cells #[.int .i64 a1_0, .int .i64 a1_1] 49 (0, 0)) z151_ hb); replace HB := Aside0.mk (below_step z70_ hb); (try clear hb); (try clear hb2); (try clear hk); (try clear hi); (try clear ho0))))
                (try simp only [Act.put, List.setIfInBounds_toArray, List.set_cons_zero, List.set_cons_succ])
                go_cut [176] (fun v176 wc => ∃ (kq : Nat) (x176_78 : Bool), v176 = .bool x176_78 ∧ Aside0 (regletlaw21_PaintWindow.j7 kq a2 x8_3 x11_3 x12_3 x13_3 t337 x176_78 a0_0 a0_1 a0_2 = some r) ∧ Aside0 (kq ≤ k3) ∧ Aside0 (Kd.R k56 56 wc w.heap.size (fun k_ => some k_ ≠ (v338 : Value).ownBlock) u8 x8_3) ∧ Aside0 (Kd.R k56 56 wc w.heap.size (fun k_ => some k_ ≠ (u8 : Value).ownBlock) v338 t337) ∧ Aside0 (wc.heap[gb324]? = some (.cells #[.int .i64 a0_0, .int .i64 a0_1, .int .i64 a0_2] 48 (0, 0))) ∧ Aside0 (wc.heap[gb325]? = some (.cells #[.int .i64 a1_0, .int .i64 a1_1] 49 (0, 0))) ∧ Aside0 (Below w.heap.size w wc))
                case first =>
                  have H := HC79.out
                  clear HC79
                  by_cases c86 : (t337.length : Int) = (x8_3.length : Int)
                  rotate_left
                  · rw [if_neg c86] at H
                    have c86b0 : ((t337.length : Int) == (x8_3.length : Int)) = false := beq_eq_false_iff_ne.mpr c86
                    have c86b1 : ((t337.length : Int) != (x8_3.length : Int)) = true := bne_iff_ne.mpr c86
                    have c86b2 : (t337.length == x8_3.length) = false := by first | simpa using c86 | (simp at c86 ⊢; omega)
                    (first | rw [c86b0] | (simp only [i64_w, i32_w]; rw [c86b0]) | skip)
                    have H' := Aside0.mk H
                    clear H
                    obtain ⟨Ao93, co93, eo93⟩ := Kd.R_slice HO339.out
                    subst eo93
                    obtain ⟨Ao94, co94, eo94⟩ := Kd.R_slice HO_8.out
                    subst eo94
                    go_wp2
                    repeat (go_quiet (fail); try go_wp2)
                    go_meet
                    case rel => exact ⟨_, (true), z208_, H', ⟨z187_⟩, ⟨z115_⟩, ⟨z114_⟩, ⟨z150_⟩, ⟨z151_⟩, ⟨z70_⟩⟩
                  rw [if_pos c86] at H
                  have c86b0 : ((t337.length : Int) == (x8_3.length : Int)) = true := beq_iff_eq.mpr c86
                  have c86b1 : ((t337.length : Int) != (x8_3.length : Int)) = false := bne_eq_false_iff_eq.mpr c86
                  have c86b2 : (t337.length == x8_3.length) = true := by first | simpa using c86 | (simp at c86 ⊢; omega)
                  clear c86
                  (first | rw [c86b0] | (simp only [i64_w, i32_w]; rw [c86b0]) | skip)
                  replace H := Option.bind_eq_some_iff.mp H
                  obtain ⟨t340, A870, H⟩ := H
                  replace H : (regletlaw21_PaintWindow.j7 k3 a2 x8_3 x11_3 x12_3 x13_3 t337 (t340 != ji45) a0_0 a0_1 a0_2) = some r := H
                  have A87 := Aside0.mk A870
                  clear A870
                  have H' := Aside0.mk H
                  clear H
                  obtain ⟨Ao88, co88, eo88⟩ := Kd.R_slice HO339.out
                  subst eo88
                  obtain ⟨Ao89, co89, eo89⟩ := Kd.R_slice HO_8.out
                  subst eo89
                  have hnb90 := NB324_325.out
                  have hnc90 := NB325_324.out
                  have hcz91_0 : w85.cell? ⟨gb324, 0, none⟩ = some (.int .i64 a0_0) := (blk_cell BK324.out 0).trans rfl
                  have hcz91_1 : w85.cell? ⟨gb324, 1, none⟩ = some (.int .i64 a0_1) := (blk_cell BK324.out 1).trans rfl
                  have hcz91_2 : w85.cell? ⟨gb324, 2, none⟩ = some (.int .i64 a0_2) := (blk_cell BK324.out 2).trans rfl
                  have hfz91_0 := blk_frozen BK324.out 0
                  have hfz91_1 := blk_frozen BK324.out 1
                  have hfz91_2 := blk_frozen BK324.out 2
                  go_wp2_with (first | (go_at_call 24; (with_reducible refine (paint_Window_Size.calls a0_0 a0_1 a0_2 t340 _ A87.out).mono ?_); rintro e w92 ⟨rfl, hb⟩; replace HO_8 := Aside0.mk (Kd.R_below z173_ hb); replace HO336 := Aside0.mk (Kd.R_below z163_ hb); replace HO339 := Aside0.mk (Kd.R_below z164_ hb); replace BK324 := Aside0.mk (blk_below (g := gb324) (o := .cells #[.int .i64 a0_0, .int .i64 a0_1, .int .i64 a0_2] 48 (0, 0)) z150_ hb); replace BK325 := Aside0.mk (blk_below (g := gb325) (o := .cells #[.int .i64 a1_0, .int .i64 a1_1] 49 (0, 0)) z151_ hb); replace HB := Aside0.mk (below_step z70_ hb); (try clear hb); (try clear hb2); (try clear hk); (try clear hi)))
                  repeat (go_quiet (first | (go_at_call 24; (with_reducible refine (paint_Window_Size.calls a0_0 a0_1 a0_2 t340 _ A87.out).mono ?_); rintro e w92 ⟨rfl, hb⟩; replace HO_8 := Aside0.mk (Kd.R_below z173_ hb); replace HO336 := Aside0.mk (Kd.R_below z163_ hb); replace HO339 := Aside0.mk (Kd.R_below z164_ hb); replace BK324 := Aside0.mk (blk_below (g := gb324) (o := .cells #[.int .i64 a0_0, .int .i64 a0_1, .int .i64 a0_2] 48 (0, 0)) z150_ hb); replace BK325 := Aside0.mk (blk_below (g := gb325) (o := .cells #[.int .i64 a1_0, .int .i64 a1_1] 49 (0, 0)) z151_ hb); replace HB := Aside0.mk (below_step z70_ hb); (try clear hb); (try clear hb2); (try clear hk); (try clear hi))); try go_wp2_with (first | (go_at_call 24; (with_reducible refine (paint_Window_Size.calls a0_0 a0_1 a0_2 t340 _ A87.out).mono ?_); rintro e w92 ⟨rfl, hb⟩; replace HO_8 := Aside0.mk (Kd.R_below z173_ hb); replace HO336 := Aside0.mk (Kd.R_below z163_ hb); replace HO339 := Aside0.mk (Kd.R_below z164_ hb); replace BK324 := Aside0.mk (blk_below (g := gb324) (o := .cells #[.int .i64 a0_0, .int .i64 a0_1, .int .i64 a0_2] 48 (0, 0)) z150_ hb); replace BK325 := Aside0.mk (blk_below (g := gb325) (o := .cells #[.int .i64 a1_0, .int .i64 a1_1] 49 (0, 0)) z151_ hb); replace HB := Aside0.mk (below_step z70_ hb); (try clear hb); (try clear hb2); (try clear hk); (try clear hi))))
                  go_meet
                  case rel => exact ⟨_, ((t340 != ji45)), z181_, H', ⟨z187_⟩, ⟨z115_⟩, ⟨z114_⟩, ⟨z150_⟩, ⟨z151_⟩, ⟨z70_⟩⟩
                case rest => as_aux_lemma =>
                  clear HC79; (try clear c1); (try clear c2); (try clear p2); (try clear c3); (try clear c4); (try clear c5); (try clear c6); (try clear p6); (try clear c7); (try clear c8); (try clear c9); (try clear c10); (try clear c10b0); (try clear c11); (try clear c13); (try clear c13b0); (try clear c14); (try clear c16); (try clear c16b0); (try clear c17); (try clear c19); (try clear c19b0); (try clear c20); (try clear c22); (try clear c22b0); (try clear c23); (try clear c25); (try clear c27); (try clear c29); (try clear c34); (try clear c34b0); (try clear c34b1); (try clear c35); (try clear c39); (try clear c42); (try clear c43); (try clear c48); (try clear c51); (try clear c51b0); (try clear c54); (try clear c57); (try clear c57b0); (try clear c57b1); (try clear c58); (try clear c60); (try clear c60b0); (try clear c61); (try clear c64); (try clear p64); (try clear c66); (try clear c66b0); (try clear c67); (try clear c70); (try clear c70b0); (try clear c71); (try clear c72); (try clear c75); (try clear c80); (try clear c86); (try clear c86b0); (try clear c86b1); (try clear c86b2); (try clear c90); (try clear hcz12_0); (try clear hcz12_1); (try clear hcz12_2); (try clear hcz15_0); (try clear hcz15_1); (try clear hcz15_2); (try clear hcz18_0); (try clear hcz18_1); (try clear hcz18_2); (try clear hcz21_0); (try clear hcz21_1); (try clear hcz21_2); (try clear hcz24_0); (try clear hcz24_1); (try clear hcz24_2); (try clear hcz26_0); (try clear hcz26_1); (try clear hcz26_2); (try clear hcz30_0); (try clear hcz30_1); (try clear hcz30_2); (try clear hcz36_0); (try clear hcz36_1); (try clear hcz36_2); (try clear hcz38_0); (try clear hcz38_1); (try clear hcz38_2); (try clear hcz40_0); (try clear hcz40_1); (try clear hcz40_2); (try clear hcz44_0); (try clear hcz44_1); (try clear hcz44_2); (try clear hcz49_0); (try clear hcz49_1); (try clear hcz49_2); (try clear hcz50_0); (try clear hcz50_1); (try clear hcz55_0); (try clear hcz55_1); (try clear hcz55_2); (try clear hcz62_0); (try clear hcz62_1); (try clear hcz62_2); (try clear hcz73_0); (try clear hcz73_1); (try clear hcz73_2); (try clear hcz76_0); (try clear hcz76_1); (try clear hcz76_2); (try clear hcz81_0); (try clear hcz81_1); (try clear hcz81_2); (try clear hcz82_0); (try clear hcz82_1); (try clear hcz91_0); (try clear hcz91_1); (try clear hcz91_2); (try clear hfz12_0); (try clear hfz12_1); (try clear hfz12_2); (try clear hfz15_0); (try clear hfz15_1); (try clear hfz15_2); (try clear hfz18_0); (try clear hfz18_1); (try clear hfz18_2); (try clear hfz21_0); (try clear hfz21_1); (try clear hfz21_2); (try clear hfz24_0); (try clear hfz24_1); (try clear hfz24_2); (try clear hfz26_0); (try clear hfz26_1); (try clear hfz26_2); (try clear hfz30_0); (try clear hfz30_1); (try clear hfz30_2); (try clear hfz36_0); (try clear hfz36_1); (try clear hfz36_2); (try clear hfz38_0); (try clear hfz38_1); (try clear hfz38_2); (try clear hfz40_0); (try clear hfz40_1); (try clear hfz40_2); (try clear hfz44_0); (try clear hfz44_1); (try clear hfz44_2); (try clear hfz49_0); (try clear hfz49_1); (try clear hfz49_2); (try clear hfz50_0); (try clear hfz50_1); (try clear hfz55_0); (try clear hfz55_1); (try clear hfz55_2); (try clear hfz62_0); (try clear hfz62_1); (try clear hfz62_2); (try clear hfz73_0); (try clear hfz73_1); (try clear hfz73_2); (try clear hfz76_0); (try clear hfz76_1); (try clear hfz76_2); (try clear hfz81_0); (try clear hfz81_1); (try clear hfz81_2); (try clear hfz82_0); (try clear hfz82_1); (try clear hfz91_0); (try clear hfz91_1); (try clear hfz91_2); (try clear p2); (try clear p6); (try clear p64)
                  obtain ⟨kq, x176_78, rfl, HA, HJ78, HO_8, HO_20, BK324, BK325, HB⟩ := hcut
                  cases kq with
                  | zero => exact absurd HA.out (by simp [regletlaw21_PaintWindow.j7])
                  | succ kj78 =>
                    have H := HA.out
                    clear HA
                    simp only [regletlaw21_PaintWindow.j7] at H
                    by_cases c95 : x176_78 = true
                    · subst c95
                      have H1 : (some false) = some r := by rw [if_pos rfl] at H; exact H
                      clear H
                      have H := H1
                      clear H1
                      obtain rfl := Option.some.inj H
                      go_wp2
                      repeat (go_quiet (fail); try go_wp2)
                      go_ret
                      exact ⟨z71_, z70_⟩
                    replace c95 := Bool.eq_false_iff.mpr c95
                    subst c95
                    have H1 : (regletlaw21_PaintWindow.l1 kj78 a2 x8_3 x11_3 x12_3 x13_3 t337 0 a0_0 a0_1 a0_2) = some r := by rw [if_neg (show ¬ (false = true) by decide)] at H; exact H
                    clear H
                    have H := H1
                    clear H1
                    have H' := Aside0.mk H
                    clear H
                    go_wp2
                    repeat (go_quiet (fail); try go_wp2)
                    go_loopg [21] kj78 (fun kq v21 w' => ∃ (x21_5 : Int), v21 = .int .i64 x21_5 ∧ Aside0 (regletlaw21_PaintWindow.l1 kq a2 x8_3 x11_3 x12_3 x13_3 t337 x21_5 a0_0 a0_1 a0_2 = some r) ∧ Aside0 (kq ≤ kj78) ∧ Aside0 (Kd.R k56 56 w' w.heap.size (fun k_ => some k_ ≠ (v338 : Value).ownBlock) u8 x8_3) ∧ Aside0 (Kd.R k56 56 w' w.heap.size (fun k_ => some k_ ≠ (u8 : Value).ownBlock) v338 t337) ∧ Aside0 (w'.heap[gb324]? = some (.cells #[.int .i64 a0_0, .int .i64 a0_1, .int .i64 a0_2] 48 (0, 0))) ∧ Aside0 (w'.heap[gb325]? = some (.cells #[.int .i64 a1_0, .int .i64 a1_1] 49 (0, 0))) ∧ Aside0 (Below w.heap.size w w'))
                    case atStart => exact ⟨(0), z208_, H', ⟨Nat.le_refl _⟩, ⟨z173_⟩, ⟨z165_⟩, ⟨z150_⟩, ⟨z151_⟩, ⟨z70_⟩⟩
                    case round =>
                      clear H'; (try clear c1); (try clear c2); (try clear p2); (try clear c3); (try clear c4); (try clear c5); (try clear c6); (try clear p6); (try clear c7); (try clear c8); (try clear c9); (try clear c10); (try clear c10b0); (try clear c11); (try clear c13); (try clear c13b0); (try clear c14); (try clear c16); (try clear c16b0); (try clear c17); (try clear c19); (try clear c19b0); (try clear c20); (try clear c22); (try clear c22b0); (try clear c23); (try clear c25); (try clear c27); (try clear c29); (try clear c34); (try clear c34b0); (try clear c34b1); (try clear c35); (try clear c39); (try clear c42); (try clear c43); (try clear c48); (try clear c51); (try clear c51b0); (try clear c54); (try clear c57); (try clear c57b0); (try clear c57b1); (try clear c58); (try clear c60); (try clear c60b0); (try clear c61); (try clear c64); (try clear p64); (try clear c66); (try clear c66b0); (try clear c67); (try clear c70); (try clear c70b0); (try clear c71); (try clear c72); (try clear c75); (try clear c80); (try clear c86); (try clear c86b0); (try clear c86b1); (try clear c86b2); (try clear c90); (try clear c95); (try clear hcz12_0); (try clear hcz12_1); (try clear hcz12_2); (try clear hcz15_0); (try clear hcz15_1); (try clear hcz15_2); (try clear hcz18_0); (try clear hcz18_1); (try clear hcz18_2); (try clear hcz21_0); (try clear hcz21_1); (try clear hcz21_2); (try clear hcz24_0); (try clear hcz24_1); (try clear hcz24_2); (try clear hcz26_0); (try clear hcz26_1); (try clear hcz26_2); (try clear hcz30_0); (try clear hcz30_1); (try clear hcz30_2); (try clear hcz36_0); (try clear hcz36_1); (try clear hcz36_2); (try clear hcz38_0); (try clear hcz38_1); (try clear hcz38_2); (try clear hcz40_0); (try clear hcz40_1); (try clear hcz40_2); (try clear hcz44_0); (try clear hcz44_1); (try clear hcz44_2); (try clear hcz49_0); (try clear hcz49_1); (try clear hcz49_2); (try clear hcz50_0); (try clear hcz50_1); (try clear hcz55_0); (try clear hcz55_1); (try clear hcz55_2); (try clear hcz62_0); (try clear hcz62_1); (try clear hcz62_2); (try clear hcz73_0); (try clear hcz73_1); (try clear hcz73_2); (try clear hcz76_0); (try clear hcz76_1); (try clear hcz76_2); (try clear hcz81_0); (try clear hcz81_1); (try clear hcz81_2); (try clear hcz82_0); (try clear hcz82_1); (try clear hcz91_0); (try clear hcz91_1); (try clear hcz91_2); (try clear hfz12_0); (try clear hfz12_1); (try clear hfz12_2); (try clear hfz15_0); (try clear hfz15_1); (try clear hfz15_2); (try clear hfz18_0); (try clear hfz18_1); (try clear hfz18_2); (try clear hfz21_0); (try clear hfz21_1); (try clear hfz21_2); (try clear hfz24_0); (try clear hfz24_1); (try clear hfz24_2); (try clear hfz26_0); (try clear hfz26_1); (try clear hfz26_2); (try clear hfz30_0); (try clear hfz30_1); (try clear hfz30_2); (try clear hfz36_0); (try clear hfz36_1); (try clear hfz36_2); (try clear hfz38_0); (try clear hfz38_1); (try clear hfz38_2); (try clear hfz40_0); (try clear hfz40_1); (try clear hfz40_2); (try clear hfz44_0); (try clear hfz44_1); (try clear hfz44_2); (try clear hfz49_0); (try clear hfz49_1); (try clear hfz49_2); (try clear hfz50_0); (try clear hfz50_1); (try clear hfz55_0); (try clear hfz55_1); (try clear hfz55_2); (try clear hfz62_0); (try clear hfz62_1); (try clear hfz62_2); (try clear hfz73_0); (try clear hfz73_1); (try clear hfz73_2); (try clear hfz76_0); (try clear hfz76_1); (try clear hfz76_2); (try clear hfz81_0); (try clear hfz81_1); (try clear hfz81_2); (try clear hfz82_0); (try clear hfz82_1); (try clear hfz91_0); (try clear hfz91_1); (try clear hfz91_2); (try clear p2); (try clear p6); (try clear p64)
                      obtain ⟨x21_5, rfl, HA, HK5, HO_8, HO_20, BK324, BK325, HB⟩ := hrel
                      cases gk with
                      | zero => exact absurd HA.out (by simp [regletlaw21_PaintWindow.l1])
                      | succ k5 =>
                        have H := HA.out
                        clear HA
                        simp only [regletlaw21_PaintWindow.l1] at H
                        by_cases c96 : x21_5 < (t337.length : Int)
                        · rw [if_pos c96] at H
                          have c96b0 : decide (x21_5 < (t337.length : Int)) = true := decide_eq_true c96
                          clear c96
                          by_cases c97 : 0 ≤ x21_5
                          rotate_left
                          · rw [if_neg c97] at H
                            exact absurd H (by simp)
                          rw [if_pos c97] at H
                          have c97b0 : decide (0 ≤ x21_5) = true := decide_eq_true c97
                          clear c97
                          by_cases c98 : x21_5 < (x8_3.length : Int)
                          rotate_left
                          · rw [if_neg c98] at H
                            exact absurd H (by simp)
                          rw [if_pos c98] at H
                          have c98b0 : decide (x21_5 < (x8_3.length : Int)) = true := decide_eq_true c98
                          clear c98
                          by_cases c99 : (!(((rd_T56 t337 x21_5).f0) == ((rd_T56 x8_3 x21_5).f0)) || (!(((rd_T56 t337 x21_5).f1) == ((rd_T56 x8_3 x21_5).f1)) || (!(((rd_T56 t337 x21_5).f2) == ((rd_T56 x8_3 x21_5).f2))))) = true
                          · rw [if_pos c99] at H
                            have c99b0 : (!(((rd_T56 t337 x21_5).f0) == ((rd_T56 x8_3 x21_5).f0)) || (!(((rd_T56 t337 x21_5).f1) == ((rd_T56 x8_3 x21_5).f1)) || (!(((rd_T56 t337 x21_5).f2) == ((rd_T56 x8_3 x21_5).f2))))) = true := c99
                            clear c99
                            obtain rfl := Option.some.inj H
                            obtain ⟨Ao100, co100, eo100⟩ := Kd.R_slice HO_20.out
                            subst eo100
                            have p341 : 0 ≤ (x21_5 : Int) := of_decide_eq_true z204_
                            have q341 : x21_5 < (t337.length : Int) := of_decide_eq_true z204_
                            obtain ⟨ad341, e341, hx341_0, hx341_1, hx341_2⟩ := at_T56 (Kd.R_reads' HO_20.out).2.2 x21_5 p341 q341
                            cases e341
                            replace p341 := eq_true p341
                            replace q341 := eq_true q341
                            obtain ⟨Ao101, co101, eo101⟩ := Kd.R_slice HO_8.out
                            subst eo101
                            have p342 : 0 ≤ (x21_5 : Int) := of_decide_eq_true z204_
                            have q342 : x21_5 < (x8_3.length : Int) := of_decide_eq_true z204_
                            obtain ⟨ad342, e342, hx342_0, hx342_1, hx342_2⟩ := at_T56 (Kd.R_reads' HO_8.out).2.2 x21_5 p342 q342
                            cases e342
                            replace p342 := eq_true p342
                            replace q342 := eq_true q342
                            go_wp2
                            repeat (go_quiet (fail); try go_wp2)
                            go_ret
                            exact ⟨z71_, z70_⟩
                          rw [if_neg c99] at H
                          have c99b0 : (!(((rd_T56 t337 x21_5).f0) == ((rd_T56 x8_3 x21_5).f0)) || (!(((rd_T56 t337 x21_5).f1) == ((rd_T56 x8_3 x21_5).f1)) || (!(((rd_T56 t337 x21_5).f2) == ((rd_T56 x8_3 x21_5).f2))))) = false := by simpa using c99
                          clear c99
                          have H' := Aside0.mk H
                          clear H
                          obtain ⟨Ao102, co102, eo102⟩ := Kd.R_slice HO_20.out
                          subst eo102
                          have p341 : 0 ≤ (x21_5 : Int) := of_decide_eq_true z204_
                          have q341 : x21_5 < (t337.length : Int) := of_decide_eq_true z204_
                          obtain ⟨ad341, e341, hx341_0, hx341_1, hx341_2⟩ := at_T56 (Kd.R_reads' HO_20.out).2.2 x21_5 p341 q341
                          cases e341
                          replace p341 := eq_true p341
                          replace q341 := eq_true q341
                          obtain ⟨Ao103, co103, eo103⟩ := Kd.R_slice HO_8.out
                          subst eo103
                          have p342 : 0 ≤ (x21_5 : Int) := of_decide_eq_true z204_
                          have q342 : x21_5 < (x8_3.length : Int) := of_decide_eq_true z204_
                          obtain ⟨ad342, e342, hx342_0, hx342_1, hx342_2⟩ := at_T56 (Kd.R_reads' HO_8.out).2.2 x21_5 p342 q342
                          cases e342
                          replace p342 := eq_true p342
                          replace q342 := eq_true q342
                          go_wp2
                          repeat (go_quiet (fail); try go_wp2)
                          go_roundg k5
                          case measure => have := HJ5.out; have := HJ31.out; have := HK3.out; have := HJ78.out; have := HK5.out; omega
                          case rel => exact ⟨(wrap64 (x21_5 + 1)), z208_, H', ⟨by have := HJ5.out; have := HJ31.out; have := HK3.out; have := HJ78.out; have := HK5.out; omega⟩, ⟨z173_⟩, ⟨z165_⟩, ⟨z150_⟩, ⟨z151_⟩, ⟨z70_⟩⟩
                        rw [if_neg c96] at H
                        have c96b0 : decide (x21_5 < (t337.length : Int)) = false := decide_eq_false c96
                        clear c96
                        replace H := Option.bind_eq_some_iff.mp H
                        obtain ⟨⟨t343, t344, t345⟩, A1040, H⟩ := H
                        replace H : ((paint_Window_Top.f a0_0 a0_1 a0_2 a0_2).bind fun bt346 => (if t343 = x11_3 then (if t344 = x12_3 then (if (t345 == x13_3) = true then (some (!bt346.2)) else (some false)) else (some false)) else (some false))) = some r := H
                        have A104 := Aside0.mk A1040
                        clear A1040
                        replace H := Option.bind_eq_some_iff.mp H
                        obtain ⟨⟨t346, t347⟩, A1050, H⟩ := H
                        replace H : (if t343 = x11_3 then (if t344 = x12_3 then (if (t345 == x13_3) = true then (some (!t347)) else (some false)) else (some false)) else (some false)) = some r := H
                        have A105 := Aside0.mk A1050
                        clear A1050
                        by_cases c106 : t343 = x11_3
                        rotate_left
                        · rw [if_neg c106] at H
                          have c106b0 : (t343 == x11_3) = false := beq_eq_false_iff_ne.mpr c106
                          have c106b1 : (t343 != x11_3) = true := bne_iff_ne.mpr c106
                          obtain rfl := Option.some.inj H
                          obtain ⟨Ao127, co127, eo127⟩ := Kd.R_slice HO_20.out
                          subst eo127
                          have hnb128 := NB324_325.out
                          have hnc128 := NB325_324.out
                          have hcz129_0 : wr.cell? ⟨gb324, 0, none⟩ = some (.int .i64 a0_0) := (blk_cell BK324.out 0).trans rfl
                          have hcz129_1 : wr.cell? ⟨gb324, 1, none⟩ = some (.int .i64 a0_1) := (blk_cell BK324.out 1).trans rfl
                          have hcz129_2 : wr.cell? ⟨gb324, 2, none⟩ = some (.int .i64 a0_2) := (blk_cell BK324.out 2).trans rfl
                          have hfz129_0 := blk_frozen BK324.out 0
                          have hfz129_1 := blk_frozen BK324.out 1
                          have hfz129_2 := blk_frozen BK324.out 2
                          go_wp2_with (first | (go_at_call 25; (with_reducible refine (paint_Window_At.calls k5 a0_0 a0_1 a0_2 a2 t343 t344 t345 _ A104.out).mono ?_); rintro e w130 ⟨rfl, hb⟩; replace HO_8 := Aside0.mk (Kd.R_below z173_ hb); replace HO_20 := Aside0.mk (Kd.R_below z165_ hb); replace BK324 := Aside0.mk (blk_below (g := gb324) (o := .cells #[.int .i64 a0_0, .int .i64 a0_1, .int .i64 a0_2] 48 (0, 0)) z150_ hb); replace BK325 := Aside0.mk (blk_below (g := gb325) (o := .cells #[.int .i64 a1_0, .int .i64 a1_1] 49 (0, 0)) z151_ hb); replace HB := Aside0.mk (below_step z70_ hb); (try clear hb); (try clear hb2); (try clear hk); (try clear hi); have hcz131_0 : w130.cell? ⟨gb324, 0, none⟩ = some (.int .i64 a0_0) := (blk_cell BK324.out 0).trans rfl; have hcz131_1 : w130.cell? ⟨gb324, 1, none⟩ = some (.int .i64 a0_1) := (blk_cell BK324.out 1).trans rfl; have hcz131_2 : w130.cell? ⟨gb324, 2, none⟩ = some (.int .i64 a0_2) := (blk_cell BK324.out 2).trans rfl; have hfz131_0 := blk_frozen BK324.out 0; have hfz131_1 := blk_frozen BK324.out 1; have hfz131_2 := blk_frozen BK324.out 2) | (go_at_call 21; (with_reducible refine (paint_Window_Top.calls a0_0 a0_1 a0_2 a0_2 t346 t347 _ A105.out).mono ?_); rintro e w132 ⟨rfl, hb⟩; replace HO_8 := Aside0.mk (Kd.R_below z173_ hb); replace HO_20 := Aside0.mk (Kd.R_below z165_ hb); replace BK324 := Aside0.mk (blk_below (g := gb324) (o := .cells #[.int .i64 a0_0, .int .i64 a0_1, .int .i64 a0_2] 48 (0, 0)) z150_ hb); replace BK325 := Aside0.mk (blk_below (g := gb325) (o := .cells #[.int .i64 a1_0, .int .i64 a1_1] 49 (0, 0)) z151_ hb); replace HB := Aside0.mk (below_step z70_ hb); (try clear hb); (try clear hb2); (try clear hk); (try clear hi)))
                          repeat (go_quiet (first | (go_at_call 25; (with_reducible refine (paint_Window_At.calls k5 a0_0 a0_1 a0_2 a2 t343 t344 t345 _ A104.out).mono ?_); rintro e w130 ⟨rfl, hb⟩; replace HO_8 := Aside0.mk (Kd.R_below z173_ hb); replace HO_20 := Aside0.mk (Kd.R_below z165_ hb); replace BK324 := Aside0.mk (blk_below (g := gb324) (o := .cells #[.int .i64 a0_0, .int .i64 a0_1, .int .i64 a0_2] 48 (0, 0)) z150_ hb); replace BK325 := Aside0.mk (blk_below (g := gb325) (o := .cells #[.int .i64 a1_0, .int .i64 a1_1] 49 (0, 0)) z151_ hb); replace HB := Aside0.mk (below_step z70_ hb); (try clear hb); (try clear hb2); (try clear hk); (try clear hi); have hcz131_0 : w130.cell? ⟨gb324, 0, none⟩ = some (.int .i64 a0_0) := (blk_cell BK324.out 0).trans rfl; have hcz131_1 : w130.cell? ⟨gb324, 1, none⟩ = some (.int .i64 a0_1) := (blk_cell BK324.out 1).trans rfl; have hcz131_2 : w130.cell? ⟨gb324, 2, none⟩ = some (.int .i64 a0_2) := (blk_cell BK324.out 2).trans rfl; have hfz131_0 := blk_frozen BK324.out 0; have hfz131_1 := blk_frozen BK324.out 1; have hfz131_2 := blk_frozen BK324.out 2) | (go_at_call 21; (with_reducible refine (paint_Window_Top.calls a0_0 a0_1 a0_2 a0_2 t346 t347 _ A105.out).mono ?_); rintro e w132 ⟨rfl, hb⟩; replace HO_8 := Aside0.mk (Kd.R_below z173_ hb); replace HO_20 := Aside0.mk (Kd.R_below z165_ hb); replace BK324 := Aside0.mk (blk_below (g := gb324) (o := .cells #[.int .i64 a0_0, .int .i64 a0_1, .int .i64 a0_2] 48 (0, 0)) z150_ hb); replace BK325 := Aside0.mk (blk_below (g := gb325) (o := .cells #[.int .i64 a1_0, .int .i64 a1_1] 49 (0, 0)) z151_ hb); replace HB := Aside0.mk (below_step z70_ hb); (try clear hb); (try clear hb2); (try clear hk); (try clear hi))); try go_wp2_with (first | (go_at_call 25; (with_reducible refine (paint_Window_At.calls k5 a0_0 a0_1 a0_2 a2 t343 t344 t345 _ A104.out).mono ?_); rintro e w130 ⟨rfl, hb⟩; replace HO_8 := Aside0.mk (Kd.R_below z173_ hb); replace HO_20 := Aside0.mk (Kd.R_below z165_ hb); replace BK324 := Aside0.mk (blk_below (g := gb324) (o := .cells #[.int .i64 a0_0, .int .i64 a0_1, .int .i64 a0_2] 48 (0, 0)) z150_ hb); replace BK325 := Aside0.mk (blk_below (g := gb325) (o := .cells #[.int .i64 a1_0, .int .i64 a1_1] 49 (0, 0)) z151_ hb); replace HB := Aside0.mk (below_step z70_ hb); (try clear hb); (try clear hb2); (try clear hk); (try clear hi); have hcz131_0 : w130.cell? ⟨gb324, 0, none⟩ = some (.int .i64 a0_0) := (blk_cell BK324.out 0).trans rfl; have hcz131_1 : w130.cell? ⟨gb324, 1, none⟩ = some (.int .i64 a0_1) := (blk_cell BK324.out 1).trans rfl; have hcz131_2 : w130.cell? ⟨gb324, 2, none⟩ = some (.int .i64 a0_2) := (blk_cell BK324.out 2).trans rfl; have hfz131_0 := blk_frozen BK324.out 0; have hfz131_1 := blk_frozen BK324.out 1; have hfz131_2 := blk_frozen BK324.out 2) | (go_at_call 21; (with_reducible refine (paint_Window_Top.calls a0_0 a0_1 a0_2 a0_2 t346 t347 _ A105.out).mono ?_); rintro e w132 ⟨rfl, hb⟩; replace HO_8 := Aside0.mk (Kd.R_below z173_ hb); replace HO_20 := Aside0.mk (Kd.R_below z165_ hb); replace BK324 := Aside0.mk (blk_below (g := gb324) (o := .cells #[.int .i64 a0_0, .int .i64 a0_1, .int .i64 a0_2] 48 (0, 0)) z150_ hb); replace BK325 := Aside0.mk (blk_below (g := gb325) (o := .cells #[.int .i64 a1_0, .int .i64 a1_1] 49 (0, 0)) z151_ hb); replace HB := Aside0.mk (below_step z70_ hb); (try clear hb); (try clear hb2); (try clear hk); (try clear hi))))
                          go_ret
                          exact ⟨z71_, z70_⟩
                        rw [if_pos c106] at H
                        have c106b0 : (t343 == x11_3) = true := beq_iff_eq.mpr c106
                        have c106b1 : (t343 != x11_3) = false := bne_eq_false_iff_eq.mpr c106
                        clear c106
                        by_cases c107 : t344 = x12_3
                        rotate_left
                        · rw [if_neg c107] at H
                          have c107b0 : (t344 == x12_3) = false := beq_eq_false_iff_ne.mpr c107
                          have c107b1 : (t344 != x12_3) = true := bne_iff_ne.mpr c107
                          obtain rfl := Option.some.inj H
                          obtain ⟨Ao121, co121, eo121⟩ := Kd.R_slice HO_20.out
                          subst eo121
                          have hnb122 := NB324_325.out
                          have hnc122 := NB325_324.out
                          have hcz123_0 : wr.cell? ⟨gb324, 0, none⟩ = some (.int .i64 a0_0) := (blk_cell BK324.out 0).trans rfl
                          have hcz123_1 : wr.cell? ⟨gb324, 1, none⟩ = some (.int .i64 a0_1) := (blk_cell BK324.out 1).trans rfl
                          have hcz123_2 : wr.cell? ⟨gb324, 2, none⟩ = some (.int .i64 a0_2) := (blk_cell BK324.out 2).trans rfl
                          have hfz123_0 := blk_frozen BK324.out 0
                          have hfz123_1 := blk_frozen BK324.out 1
                          have hfz123_2 := blk_frozen BK324.out 2
                          go_wp2_with (first | (go_at_call 25; (with_reducible refine (paint_Window_At.calls k5 a0_0 a0_1 a0_2 a2 t343 t344 t345 _ A104.out).mono ?_); rintro e w124 ⟨rfl, hb⟩; replace HO_8 := Aside0.mk (Kd.R_below z173_ hb); replace HO_20 := Aside0.mk (Kd.R_below z165_ hb); replace BK324 := Aside0.mk (blk_below (g := gb324) (o := .cells #[.int .i64 a0_0, .int .i64 a0_1, .int .i64 a0_2] 48 (0, 0)) z150_ hb); replace BK325 := Aside0.mk (blk_below (g := gb325) (o := .cells #[.int .i64 a1_0, .int .i64 a1_1] 49 (0, 0)) z151_ hb); replace HB := Aside0.mk (below_step z70_ hb); (try clear hb); (try clear hb2); (try clear hk); (try clear hi); have hcz125_0 : w124.cell? ⟨gb324, 0, none⟩ = some (.int .i64 a0_0) := (blk_cell BK324.out 0).trans rfl; have hcz125_1 : w124.cell? ⟨gb324, 1, none⟩ = some (.int .i64 a0_1) := (blk_cell BK324.out 1).trans rfl; have hcz125_2 : w124.cell? ⟨gb324, 2, none⟩ = some (.int .i64 a0_2) := (blk_cell BK324.out 2).trans rfl; have hfz125_0 := blk_frozen BK324.out 0; have hfz125_1 := blk_frozen BK324.out 1; have hfz125_2 := blk_frozen BK324.out 2) | (go_at_call 21; (with_reducible refine (paint_Window_Top.calls a0_0 a0_1 a0_2 a0_2 t346 t347 _ A105.out).mono ?_); rintro e w126 ⟨rfl, hb⟩; replace HO_8 := Aside0.mk (Kd.R_below z173_ hb); replace HO_20 := Aside0.mk (Kd.R_below z165_ hb); replace BK324 := Aside0.mk (blk_below (g := gb324) (o := .cells #[.int .i64 a0_0, .int .i64 a0_1, .int .i64 a0_2] 48 (0, 0)) z150_ hb); replace BK325 := Aside0.mk (blk_below (g := gb325) (o := .cells #[.int .i64 a1_0, .int .i64 a1_1] 49 (0, 0)) z151_ hb); replace HB := Aside0.mk (below_step z70_ hb); (try clear hb); (try clear hb2); (try clear hk); (try clear hi)))
                          repeat (go_quiet (first | (go_at_call 25; (with_reducible refine (paint_Window_At.calls k5 a0_0 a0_1 a0_2 a2 t343 t344 t345 _ A104.out).mono ?_); rintro e w124 ⟨rfl, hb⟩; replace HO_8 := Aside0.mk (Kd.R_below z173_ hb); replace HO_20 := Aside0.mk (Kd.R_below z165_ hb); replace BK324 := Aside0.mk (blk_below (g := gb324) (o := .cells #[.int .i64 a0_0, .int .i64 a0_1, .int .i64 a0_2] 48 (0, 0)) z150_ hb); replace BK325 := Aside0.mk (blk_below (g := gb325) (o := .cells #[.int .i64 a1_0, .int .i64 a1_1] 49 (0, 0)) z151_ hb); replace HB := Aside0.mk (below_step z70_ hb); (try clear hb); (try clear hb2); (try clear hk); (try clear hi); have hcz125_0 : w124.cell? ⟨gb324, 0, none⟩ = some (.int .i64 a0_0) := (blk_cell BK324.out 0).trans rfl; have hcz125_1 : w124.cell? ⟨gb324, 1, none⟩ = some (.int .i64 a0_1) := (blk_cell BK324.out 1).trans rfl; have hcz125_2 : w124.cell? ⟨gb324, 2, none⟩ = some (.int .i64 a0_2) := (blk_cell BK324.out 2).trans rfl; have hfz125_0 := blk_frozen BK324.out 0; have hfz125_1 := blk_frozen BK324.out 1; have hfz125_2 := blk_frozen BK324.out 2) | (go_at_call 21; (with_reducible refine (paint_Window_Top.calls a0_0 a0_1 a0_2 a0_2 t346 t347 _ A105.out).mono ?_); rintro e w126 ⟨rfl, hb⟩; replace HO_8 := Aside0.mk (Kd.R_below z173_ hb); replace HO_20 := Aside0.mk (Kd.R_below z165_ hb); replace BK324 := Aside0.mk (blk_below (g := gb324) (o := .cells #[.int .i64 a0_0, .int .i64 a0_1, .int .i64 a0_2] 48 (0, 0)) z150_ hb); replace BK325 := Aside0.mk (blk_below (g := gb325) (o := .cells #[.int .i64 a1_0, .int .i64 a1_1] 49 (0, 0)) z151_ hb); replace HB := Aside0.mk (below_step z70_ hb); (try clear hb); (try clear hb2); (try clear hk); (try clear hi))); try go_wp2_with (first | (go_at_call 25; (with_reducible refine (paint_Window_At.calls k5 a0_0 a0_1 a0_2 a2 t343 t344 t345 _ A104.out).mono ?_); rintro e w124 ⟨rfl, hb⟩; replace HO_8 := Aside0.mk (Kd.R_below z173_ hb); replace HO_20 := Aside0.mk (Kd.R_below z165_ hb); replace BK324 := Aside0.mk (blk_below (g := gb324) (o := .cells #[.int .i64 a0_0, .int .i64 a0_1, .int .i64 a0_2] 48 (0, 0)) z150_ hb); replace BK325 := Aside0.mk (blk_below (g := gb325) (o := .cells #[.int .i64 a1_0, .int .i64 a1_1] 49 (0, 0)) z151_ hb); replace HB := Aside0.mk (below_step z70_ hb); (try clear hb); (try clear hb2); (try clear hk); (try clear hi); have hcz125_0 : w124.cell? ⟨gb324, 0, none⟩ = some (.int .i64 a0_0) := (blk_cell BK324.out 0).trans rfl; have hcz125_1 : w124.cell? ⟨gb324, 1, none⟩ = some (.int .i64 a0_1) := (blk_cell BK324.out 1).trans rfl; have hcz125_2 : w124.cell? ⟨gb324, 2, none⟩ = some (.int .i64 a0_2) := (blk_cell BK324.out 2).trans rfl; have hfz125_0 := blk_frozen BK324.out 0; have hfz125_1 := blk_frozen BK324.out 1; have hfz125_2 := blk_frozen BK324.out 2) | (go_at_call 21; (with_reducible refine (paint_Window_Top.calls a0_0 a0_1 a0_2 a0_2 t346 t347 _ A105.out).mono ?_); rintro e w126 ⟨rfl, hb⟩; replace HO_8 := Aside0.mk (Kd.R_below z173_ hb); replace HO_20 := Aside0.mk (Kd.R_below z165_ hb); replace BK324 := Aside0.mk (blk_below (g := gb324) (o := .cells #[.int .i64 a0_0, .int .i64 a0_1, .int .i64 a0_2] 48 (0, 0)) z150_ hb); replace BK325 := Aside0.mk (blk_below (g := gb325) (o := .cells #[.int .i64 a1_0, .int .i64 a1_1] 49 (0, 0)) z151_ hb); replace HB := Aside0.mk (below_step z70_ hb); (try clear hb); (try clear hb2); (try clear hk); (try clear hi))))
                          go_ret
                          exact ⟨z71_, z70_⟩
                        rw [if_pos c107] at H
                        have c107b0 : (t344 == x12_3) = true := beq_iff_eq.mpr c107
                        have c107b1 : (t344 != x12_3) = false := bne_eq_false_iff_eq.mpr c107
                        clear c107
                        by_cases c108 : (t345 == x13_3) = true
                        · rw [if_pos c108] at H
                          have c108b0 : (t345 == x13_3) = true := c108
                          (try (have c108b1 : decide (t345 = x13_3) = true := by simpa using c108))
                          (try (have c108b2 : (t345 == x13_3) = true := by simpa using c108))
                          clear c108
                          obtain rfl := Option.some.inj H
                          obtain ⟨Ao109, co109, eo109⟩ := Kd.R_slice HO_20.out
                          subst eo109
                          have hnb110 := NB324_325.out
                          have hnc110 := NB325_324.out
                          have hcz111_0 : wr.cell? ⟨gb324, 0, none⟩ = some (.int .i64 a0_0) := (blk_cell BK324.out 0).trans rfl
                          have hcz111_1 : wr.cell? ⟨gb324, 1, none⟩ = some (.int .i64 a0_1) := (blk_cell BK324.out 1).trans rfl
                          have hcz111_2 : wr.cell? ⟨gb324, 2, none⟩ = some (.int .i64 a0_2) := (blk_cell BK324.out 2).trans rfl
                          have hfz111_0 := blk_frozen BK324.out 0
                          have hfz111_1 := blk_frozen BK324.out 1
                          have hfz111_2 := blk_frozen BK324.out 2
                          go_wp2_with (first | (go_at_call 25; (with_reducible refine (paint_Window_At.calls k5 a0_0 a0_1 a0_2 a2 t343 t344 t345 _ A104.out).mono ?_); rintro e w112 ⟨rfl, hb⟩; replace HO_8 := Aside0.mk (Kd.R_below z173_ hb); replace HO_20 := Aside0.mk (Kd.R_below z165_ hb); replace BK324 := Aside0.mk (blk_below (g := gb324) (o := .cells #[.int .i64 a0_0, .int .i64 a0_1, .int .i64 a0_2] 48 (0, 0)) z150_ hb); replace BK325 := Aside0.mk (blk_below (g := gb325) (o := .cells #[.int .i64 a1_0, .int .i64 a1_1] 49 (0, 0)) z151_ hb); replace HB := Aside0.mk (below_step z70_ hb); (try clear hb); (try clear hb2); (try clear hk); (try clear hi); have hcz113_0 : w112.cell? ⟨gb324, 0, none⟩ = some (.int .i64 a0_0) := (blk_cell BK324.out 0).trans rfl; have hcz113_1 : w112.cell? ⟨gb324, 1, none⟩ = some (.int .i64 a0_1) := (blk_cell BK324.out 1).trans rfl; have hcz113_2 : w112.cell? ⟨gb324, 2, none⟩ = some (.int .i64 a0_2) := (blk_cell BK324.out 2).trans rfl; have hfz113_0 := blk_frozen BK324.out 0; have hfz113_1 := blk_frozen BK324.out 1; have hfz113_2 := blk_frozen BK324.out 2) | (go_at_call 21; (with_reducible refine (paint_Window_Top.calls a0_0 a0_1 a0_2 a0_2 t346 t347 _ A105.out).mono ?_); rintro e w114 ⟨rfl, hb⟩; replace HO_8 := Aside0.mk (Kd.R_below z173_ hb); replace HO_20 := Aside0.mk (Kd.R_below z165_ hb); replace BK324 := Aside0.mk (blk_below (g := gb324) (o := .cells #[.int .i64 a0_0, .int .i64 a0_1, .int .i64 a0_2] 48 (0, 0)) z150_ hb); replace BK325 := Aside0.mk (blk_below (g := gb325) (o := .cells #[.int .i64 a1_0, .int .i64 a1_1] 49 (0, 0)) z151_ hb); replace HB := Aside0.mk (below_step z70_ hb); (try clear hb); (try clear hb2); (try clear hk); (try clear hi)))
                          repeat (go_quiet (first | (go_at_call 25; (with_reducible refine (paint_Window_At.calls k5 a0_0 a0_1 a0_2 a2 t343 t344 t345 _ A104.out).mono ?_); rintro e w112 ⟨rfl, hb⟩; replace HO_8 := Aside0.mk (Kd.R_below z173_ hb); replace HO_20 := Aside0.mk (Kd.R_below z165_ hb); replace BK324 := Aside0.mk (blk_below (g := gb324) (o := .cells #[.int .i64 a0_0, .int .i64 a0_1, .int .i64 a0_2] 48 (0, 0)) z150_ hb); replace BK325 := Aside0.mk (blk_below (g := gb325) (o := .cells #[.int .i64 a1_0, .int .i64 a1_1] 49 (0, 0)) z151_ hb); replace HB := Aside0.mk (below_step z70_ hb); (try clear hb); (try clear hb2); (try clear hk); (try clear hi); have hcz113_0 : w112.cell? ⟨gb324, 0, none⟩ = some (.int .i64 a0_0) := (blk_cell BK324.out 0).trans rfl; have hcz113_1 : w112.cell? ⟨gb324, 1, none⟩ = some (.int .i64 a0_1) := (blk_cell BK324.out 1).trans rfl; have hcz113_2 : w112.cell? ⟨gb324, 2, none⟩ = some (.int .i64 a0_2) := (blk_cell BK324.out 2).trans rfl; have hfz113_0 := blk_frozen BK324.out 0; have hfz113_1 := blk_frozen BK324.out 1; have hfz113_2 := blk_frozen BK324.out 2) | (go_at_call 21; (with_reducible refine (paint_Window_Top.calls a0_0 a0_1 a0_2 a0_2 t346 t347 _ A105.out).mono ?_); rintro e w114 ⟨rfl, hb⟩; replace HO_8 := Aside0.mk (Kd.R_below z173_ hb); replace HO_20 := Aside0.mk (Kd.R_below z165_ hb); replace BK324 := Aside0.mk (blk_below (g := gb324) (o := .cells #[.int .i64 a0_0, .int .i64 a0_1, .int .i64 a0_2] 48 (0, 0)) z150_ hb); replace BK325 := Aside0.mk (blk_below (g := gb325) (o := .cells #[.int .i64 a1_0, .int .i64 a1_1] 49 (0, 0)) z151_ hb); replace HB := Aside0.mk (below_step z70_ hb); (try clear hb); (try clear hb2); (try clear hk); (try clear hi))); try go_wp2_with (first | (go_at_call 25; (with_reducible refine (paint_Window_At.calls k5 a0_0 a0_1 a0_2 a2 t343 t344 t345 _ A104.out).mono ?_); rintro e w112 ⟨rfl, hb⟩; replace HO_8 := Aside0.mk (Kd.R_below z173_ hb); replace HO_20 := Aside0.mk (Kd.R_below z165_ hb); replace BK324 := Aside0.mk (blk_below (g := gb324) (o := .cells #[.int .i64 a0_0, .int .i64 a0_1, .int .i64 a0_2] 48 (0, 0)) z150_ hb); replace BK325 := Aside0.mk (blk_below (g := gb325) (o := .cells #[.int .i64 a1_0, .int .i64 a1_1] 49 (0, 0)) z151_ hb); replace HB := Aside0.mk (below_step z70_ hb); (try clear hb); (try clear hb2); (try clear hk); (try clear hi); have hcz113_0 : w112.cell? ⟨gb324, 0, none⟩ = some (.int .i64 a0_0) := (blk_cell BK324.out 0).trans rfl; have hcz113_1 : w112.cell? ⟨gb324, 1, none⟩ = some (.int .i64 a0_1) := (blk_cell BK324.out 1).trans rfl; have hcz113_2 : w112.cell? ⟨gb324, 2, none⟩ = some (.int .i64 a0_2) := (blk_cell BK324.out 2).trans rfl; have hfz113_0 := blk_frozen BK324.out 0; have hfz113_1 := blk_frozen BK324.out 1; have hfz113_2 := blk_frozen BK324.out 2) | (go_at_call 21; (with_reducible refine (paint_Window_Top.calls a0_0 a0_1 a0_2 a0_2 t346 t347 _ A105.out).mono ?_); rintro e w114 ⟨rfl, hb⟩; replace HO_8 := Aside0.mk (Kd.R_below z173_ hb); replace HO_20 := Aside0.mk (Kd.R_below z165_ hb); replace BK324 := Aside0.mk (blk_below (g := gb324) (o := .cells #[.int .i64 a0_0, .int .i64 a0_1, .int .i64 a0_2] 48 (0, 0)) z150_ hb); replace BK325 := Aside0.mk (blk_below (g := gb325) (o := .cells #[.int .i64 a1_0, .int .i64 a1_1] 49 (0, 0)) z151_ hb); replace HB := Aside0.mk (below_step z70_ hb); (try clear hb); (try clear hb2); (try clear hk); (try clear hi))))
                          go_ret
                          exact ⟨z71_, z70_⟩
                        rw [if_neg c108] at H
                        have c108b0 : (t345 == x13_3) = false := by simpa using c108
                        (try (have c108b1 : decide (t345 = x13_3) = false := by simpa using c108))
                        (try (have c108b2 : (t345 == x13_3) = false := by simpa using c108))
                        (try (have c108b3 : ¬ (t345 = x13_3) := by simpa using c108))
                        clear c108
                        obtain rfl := Option.some.inj H
                        obtain ⟨Ao115, co115, eo115⟩ := Kd.R_slice HO_20.out
                        subst eo115
                        have hnb116 := NB324_325.out
                        have hnc116 := NB325_324.out
                        have hcz117_0 : wr.cell? ⟨gb324, 0, none⟩ = some (.int .i64 a0_0) := (blk_cell BK324.out 0).trans rfl
                        have hcz117_1 : wr.cell? ⟨gb324, 1, none⟩ = some (.int .i64 a0_1) := (blk_cell BK324.out 1).trans rfl
                        have hcz117_2 : wr.cell? ⟨gb324, 2, none⟩ = some (.int .i64 a0_2) := (blk_cell BK324.out 2).trans rfl
                        have hfz117_0 := blk_frozen BK324.out 0
                        have hfz117_1 := blk_frozen BK324.out 1
                        have hfz117_2 := blk_frozen BK324.out 2
                        go_wp2_with (first | (go_at_call 25; (with_reducible refine (paint_Window_At.calls k5 a0_0 a0_1 a0_2 a2 t343 t344 t345 _ A104.out).mono ?_); rintro e w118 ⟨rfl, hb⟩; replace HO_8 := Aside0.mk (Kd.R_below z173_ hb); replace HO_20 := Aside0.mk (Kd.R_below z165_ hb); replace BK324 := Aside0.mk (blk_below (g := gb324) (o := .cells #[.int .i64 a0_0, .int .i64 a0_1, .int .i64 a0_2] 48 (0, 0)) z150_ hb); replace BK325 := Aside0.mk (blk_below (g := gb325) (o := .cells #[.int .i64 a1_0, .int .i64 a1_1] 49 (0, 0)) z151_ hb); replace HB := Aside0.mk (below_step z70_ hb); (try clear hb); (try clear hb2); (try clear hk); (try clear hi); have hcz119_0 : w118.cell? ⟨gb324, 0, none⟩ = some (.int .i64 a0_0) := (blk_cell BK324.out 0).trans rfl; have hcz119_1 : w118.cell? ⟨gb324, 1, none⟩ = some (.int .i64 a0_1) := (blk_cell BK324.out 1).trans rfl; have hcz119_2 : w118.cell? ⟨gb324, 2, none⟩ = some (.int .i64 a0_2) := (blk_cell BK324.out 2).trans rfl; have hfz119_0 := blk_frozen BK324.out 0; have hfz119_1 := blk_frozen BK324.out 1; have hfz119_2 := blk_frozen BK324.out 2) | (go_at_call 21; (with_reducible refine (paint_Window_Top.calls a0_0 a0_1 a0_2 a0_2 t346 t347 _ A105.out).mono ?_); rintro e w120 ⟨rfl, hb⟩; replace HO_8 := Aside0.mk (Kd.R_below z173_ hb); replace HO_20 := Aside0.mk (Kd.R_below z165_ hb); replace BK324 := Aside0.mk (blk_below (g := gb324) (o := .cells #[.int .i64 a0_0, .int .i64 a0_1, .int .i64 a0_2] 48 (0, 0)) z150_ hb); replace BK325 := Aside0.mk (blk_below (g := gb325) (o := .cells #[.int .i64 a1_0, .int .i64 a1_1] 49 (0, 0)) z151_ hb); replace HB := Aside0.mk (below_step z70_ hb); (try clear hb); (try clear hb2); (try clear hk); (try clear hi)))
                        repeat (go_quiet (first | (go_at_call 25; (with_reducible refine (paint_Window_At.calls k5 a0_0 a0_1 a0_2 a2 t343 t344 t345 _ A104.out).mono ?_); rintro e w118 ⟨rfl, hb⟩; replace HO_8 := Aside0.mk (Kd.R_below z173_ hb); replace HO_20 := Aside0.mk (Kd.R_below z165_ hb); replace BK324 := Aside0.mk (blk_below (g := gb324) (o := .cells #[.int .i64 a0_0, .int .i64 a0_1, .int .i64 a0_2] 48 (0, 0)) z150_ hb); replace BK325 := Aside0.mk (blk_below (g := gb325) (o := .cells #[.int .i64 a1_0, .int .i64 a1_1] 49 (0, 0)) z151_ hb); replace HB := Aside0.mk (below_step z70_ hb); (try clear hb); (try clear hb2); (try clear hk); (try clear hi); have hcz119_0 : w118.cell? ⟨gb324, 0, none⟩ = some (.int .i64 a0_0) := (blk_cell BK324.out 0).trans rfl; have hcz119_1 : w118.cell? ⟨gb324, 1, none⟩ = some (.int .i64 a0_1) := (blk_cell BK324.out 1).trans rfl; have hcz119_2 : w118.cell? ⟨gb324, 2, none⟩ = some (.int .i64 a0_2) := (blk_cell BK324.out 2).trans rfl; have hfz119_0 := blk_frozen BK324.out 0; have hfz119_1 := blk_frozen BK324.out 1; have hfz119_2 := blk_frozen BK324.out 2) | (go_at_call 21; (with_reducible refine (paint_Window_Top.calls a0_0 a0_1 a0_2 a0_2 t346 t347 _ A105.out).mono ?_); rintro e w120 ⟨rfl, hb⟩; replace HO_8 := Aside0.mk (Kd.R_below z173_ hb); replace HO_20 := Aside0.mk (Kd.R_below z165_ hb); replace BK324 := Aside0.mk (blk_below (g := gb324) (o := .cells #[.int .i64 a0_0, .int .i64 a0_1, .int .i64 a0_2] 48 (0, 0)) z150_ hb); replace BK325 := Aside0.mk (blk_below (g := gb325) (o := .cells #[.int .i64 a1_0, .int .i64 a1_1] 49 (0, 0)) z151_ hb); replace HB := Aside0.mk (below_step z70_ hb); (try clear hb); (try clear hb2); (try clear hk); (try clear hi))); try go_wp2_with (first | (go_at_call 25; (with_reducible refine (paint_Window_At.calls k5 a0_0 a0_1 a0_2 a2 t343 t344 t345 _ A104.out).mono ?_); rintro e w118 ⟨rfl, hb⟩; replace HO_8 := Aside0.mk (Kd.R_below z173_ hb); replace HO_20 := Aside0.mk (Kd.R_below z165_ hb); replace BK324 := Aside0.mk (blk_below (g := gb324) (o := .cells #[.int .i64 a0_0, .int .i64 a0_1, .int .i64 a0_2] 48 (0, 0)) z150_ hb); replace BK325 := Aside0.mk (blk_below (g := gb325) (o := .cells #[.int .i64 a1_0, .int .i64 a1_1] 49 (0, 0)) z151_ hb); replace HB := Aside0.mk (below_step z70_ hb); (try clear hb); (try clear hb2); (try clear hk); (try clear hi); have hcz119_0 : w118.cell? ⟨gb324, 0, none⟩ = some (.int .i64 a0_0) := (blk_cell BK324.out 0).trans rfl; have hcz119_1 : w118.cell? ⟨gb324, 1, none⟩ = some (.int .i64 a0_1) := (blk_cell BK324.out 1).trans rfl; have hcz119_2 : w118.cell? ⟨gb324, 2, none⟩ = some (.int .i64 a0_2) := (blk_cell BK324.out 2).trans rfl; have hfz119_0 := blk_frozen BK324.out 0; have hfz119_1 := blk_frozen BK324.out 1; have hfz119_2 := blk_frozen BK324.out 2) | (go_at_call 21; (with_reducible refine (paint_Window_Top.calls a0_0 a0_1 a0_2 a0_2 t346 t347 _ A105.out).mono ?_); rintro e w120 ⟨rfl, hb⟩; replace HO_8 := Aside0.mk (Kd.R_below z173_ hb); replace HO_20 := Aside0.mk (Kd.R_below z165_ hb); replace BK324 := Aside0.mk (blk_below (g := gb324) (o := .cells #[.int .i64 a0_0, .int .i64 a0_1, .int .i64 a0_2] 48 (0, 0)) z150_ hb); replace BK325 := Aside0.mk (blk_below (g := gb325) (o := .cells #[.int .i64 a1_0, .int .i64 a1_1] 49 (0, 0)) z151_ hb); replace HB := Aside0.mk (below_step z70_ hb); (try clear hb); (try clear hb2); (try clear hk); (try clear hi))))
                        go_ret
                        exact ⟨z71_, z70_⟩
              rw [if_pos c51] at H
              have c51b0 : decide (x14_3 < a0_2) = true := decide_eq_true c51
              clear c51
              replace H := Option.bind_eq_some_iff.mp H
              obtain ⟨⟨t329, t330⟩, A520, H⟩ := H
              replace H : (if t329 = (wrap64 (x14_3 * (wrap64 (a0_0 + a0_1)))) then (regletlaw21_PaintWindow.j3 k3 a2 ji45 x8_3 ji46 ji47 x11_3 x12_3 x13_3 x14_3 (wrap64 (x14_3 * (wrap64 (a0_0 + a0_1)))) (!t330) a0_0 a0_1 a0_2 a1_0 a1_1) else (regletlaw21_PaintWindow.j3 k3 a2 ji45 x8_3 ji46 ji47 x11_3 x12_3 x13_3 x14_3 (wrap64 (x14_3 * (wrap64 (a0_0 + a0_1)))) true a0_0 a0_1 a0_2 a1_0 a1_1)) = some r := H
              have A52 := Aside0.mk A520
              clear A520
              have HC53 := Aside0.mk H
              clear H
              have hnb54 := NB324_325.out
              have hnc54 := NB325_324.out
              have hcz55_0 : wr.cell? ⟨gb324, 0, none⟩ = some (.int .i64 a0_0) := (blk_cell BK324.out 0).trans rfl
              have hcz55_1 : wr.cell? ⟨gb324, 1, none⟩ = some (.int .i64 a0_1) := (blk_cell BK324.out 1).trans rfl
              have hcz55_2 : wr.cell? ⟨gb324, 2, none⟩ = some (.int .i64 a0_2) := (blk_cell BK324.out 2).trans rfl
              have hfz55_0 := blk_frozen BK324.out 0
              have hfz55_1 := blk_frozen BK324.out 1
              have hfz55_2 := blk_frozen BK324.out 2
              go_upto_region 17 with (first | (go_at_call 21; (with_reducible refine (paint_Window_Top.calls a0_0 a0_1 a0_2 x14_3 t329 t330 _ A52.out).mono ?_); rintro e w56 ⟨rfl, hb⟩; replace HO_8 := Aside0.mk (Kd.R_below z173_ hb); replace BK324 := Aside0.mk (blk_below (g := gb324) (o := .cells #[.int .i64 a0_0, .int .i64 a0_1, .int .i64 a0_2] 48 (0, 0)) z150_ hb); replace BK325 := Aside0.mk (blk_below (g := gb325) (o := .cells #[.int .i64 a1_0, .int .i64 a1_1] 49 (0, 0)) z151_ hb); replace HB := Aside0.mk (below_step z70_ hb); (try clear hb); (try clear hb2); (try clear hk); (try clear hi)))
              repeat (go_quiet (first | (go_at_call 21; (with_reducible refine (paint_Window_Top.calls a0_0 a0_1 a0_2 x14_3 t329 t330 _ A52.out).mono ?_); rintro e w56 ⟨rfl, hb⟩; replace HO_8 := Aside0.mk (Kd.R_below z173_ hb); replace BK324 := Aside0.mk (blk_below (g := gb324) (o := .cells #[.int .i64 a0_0, .int .i64 a0_1, .int .i64 a0_2] 48 (0, 0)) z150_ hb); replace BK325 := Aside0.mk (blk_below (g := gb325) (o := .cells #[.int .i64 a1_0, .int .i64 a1_1] 49 (0, 0)) z151_ hb); replace HB := Aside0.mk (below_step z70_ hb); (try clear hb); (try clear hb2); (try clear hk); (try clear hi))); go_upto_region 17 with (first | (go_at_call 21; (with_reducible refine (paint_Window_Top.calls a0_0 a0_1 a0_2 x14_3 t329 t330 _ A52.out).mono ?_); rintro e w56 ⟨rfl, hb⟩; replace HO_8 := Aside0.mk (Kd.R_below z173_ hb); replace BK324 := Aside0.mk (blk_below (g := gb324) (o := .cells #[.int .i64 a0_0, .int .i64 a0_1, .int .i64 a0_2] 48 (0, 0)) z150_ hb); replace BK325 := Aside0.mk (blk_below (g := gb325) (o := .cells #[.int .i64 a1_0, .int .i64 a1_1] 49 (0, 0)) z151_ hb); replace HB := Aside0.mk (below_step z70_ hb); (try clear hb); (try clear hb2); (try clear hk); (try clear hi))))
              (try simp only [Act.put, List.setIfInBounds_toArray, List.set_cons_zero, List.set_cons_succ])
              go_cut [115] (fun v115 wc => ∃ (kq : Nat) (x115_52 : Bool), v115 = .bool x115_52 ∧ Aside0 (regletlaw21_PaintWindow.j3 kq a2 ji45 x8_3 ji46 ji47 x11_3 x12_3 x13_3 x14_3 (wrap64 (x14_3 * (wrap64 (a0_0 + a0_1)))) x115_52 a0_0 a0_1 a0_2 a1_0 a1_1 = some r) ∧ Aside0 (kq ≤ k3) ∧ Aside0 (Kd.R k56 56 wc w.heap.size (fun _ => True) u8 x8_3) ∧ Aside0 (wc.heap[gb324]? = some (.cells #[.int .i64 a0_0, .int .i64 a0_1, .int .i64 a0_2] 48 (0, 0))) ∧ Aside0 (wc.heap[gb325]? = some (.cells #[.int .i64 a1_0, .int .i64 a1_1] 49 (0, 0))) ∧ Aside0 (Below w.heap.size w wc))
              case first =>
                have H := HC53.out
                clear HC53
                by_cases c57 : t329 = (wrap64 (x14_3 * (wrap64 (a0_0 + a0_1))))
                rotate_left
                · rw [if_neg c57] at H
                  have c57b0 : (t329 == (wrap64 (x14_3 * (wrap64 (a0_0 + a0_1))))) = false := beq_eq_false_iff_ne.mpr c57
                  have c57b1 : (t329 != (wrap64 (x14_3 * (wrap64 (a0_0 + a0_1))))) = true := bne_iff_ne.mpr c57
                  (first | rw [c57b0] | (simp only [i64_w, i32_w]; rw [c57b0]) | skip)
                  have H' := Aside0.mk H
                  clear H
                  go_wp2
                  repeat (go_quiet (fail); try go_wp2)
                  go_meet
                  case rel => exact ⟨_, (true), z208_, H', ⟨z187_⟩, ⟨z173_⟩, ⟨z150_⟩, ⟨z151_⟩, ⟨z70_⟩⟩
                rw [if_pos c57] at H
                have c57b0 : (t329 == (wrap64 (x14_3 * (wrap64 (a0_0 + a0_1))))) = true := beq_iff_eq.mpr c57
                have c57b1 : (t329 != (wrap64 (x14_3 * (wrap64 (a0_0 + a0_1))))) = false := bne_eq_false_iff_eq.mpr c57
                clear c57
                (first | rw [c57b0] | (simp only [i64_w, i32_w]; rw [c57b0]) | skip)
                have H' := Aside0.mk H
                clear H
                go_wp2
                repeat (go_quiet (fail); try go_wp2)
                go_meet
                case rel => exact ⟨_, (!t330), z208_, H', ⟨z187_⟩, ⟨z173_⟩, ⟨z150_⟩, ⟨z151_⟩, ⟨z70_⟩⟩
              case rest => as_aux_lemma =>
                clear HC53; (try clear c1); (try clear c2); (try clear p2); (try clear c3); (try clear c4); (try clear c5); (try clear p6); (try clear c10); (try clear c10b0); (try clear c11); (try clear c13); (try clear c13b0); (try clear c14); (try clear c16); (try clear c16b0); (try clear c17); (try clear c19); (try clear c19b0); (try clear c20); (try clear c22); (try clear c22b0); (try clear c23); (try clear c25); (try clear c27); (try clear c29); (try clear c34); (try clear c34b0); (try clear c34b1); (try clear c35); (try clear c39); (try clear c42); (try clear c43); (try clear c48); (try clear c51); (try clear c51b0); (try clear c54); (try clear c57); (try clear c57b0); (try clear c57b1); (try clear hcz12_0); (try clear hcz12_1); (try clear hcz12_2); (try clear hcz15_0); (try clear hcz15_1); (try clear hcz15_2); (try clear hcz18_0); (try clear hcz18_1); (try clear hcz18_2); (try clear hcz21_0); (try clear hcz21_1); (try clear hcz21_2); (try clear hcz24_0); (try clear hcz24_1); (try clear hcz24_2); (try clear hcz26_0); (try clear hcz26_1); (try clear hcz26_2); (try clear hcz30_0); (try clear hcz30_1); (try clear hcz30_2); (try clear hcz36_0); (try clear hcz36_1); (try clear hcz36_2); (try clear hcz38_0); (try clear hcz38_1); (try clear hcz38_2); (try clear hcz40_0); (try clear hcz40_1); (try clear hcz40_2); (try clear hcz44_0); (try clear hcz44_1); (try clear hcz44_2); (try clear hcz49_0); (try clear hcz49_1); (try clear hcz49_2); (try clear hcz50_0); (try clear hcz50_1); (try clear hcz55_0); (try clear hcz55_1); (try clear hcz55_2); (try clear hfz12_0); (try clear hfz12_1); (try clear hfz12_2); (try clear hfz15_0); (try clear hfz15_1); (try clear hfz15_2); (try clear hfz18_0); (try clear hfz18_1); (try clear hfz18_2); (try clear hfz21_0); (try clear hfz21_1); (try clear hfz21_2); (try clear hfz24_0); (try clear hfz24_1); (try clear hfz24_2); (try clear hfz26_0); (try clear hfz26_1); (try clear hfz26_2); (try clear hfz30_0); (try clear hfz30_1); (try clear hfz30_2); (try clear hfz36_0); (try clear hfz36_1); (try clear hfz36_2); (try clear hfz38_0); (try clear hfz38_1); (try clear hfz38_2); (try clear hfz40_0); (try clear hfz40_1); (try clear hfz40_2); (try clear hfz44_0); (try clear hfz44_1); (try clear hfz44_2); (try clear hfz49_0); (try clear hfz49_1); (try clear hfz49_2); (try clear hfz50_0); (try clear hfz50_1); (try clear hfz55_0); (try clear hfz55_1); (try clear hfz55_2); (try clear p2); (try clear p6)
                obtain ⟨kq, x115_52, rfl, HA, HJ52, HO_8, BK324, BK325, HB⟩ := hcut
                cases kq with
                | zero => exact absurd HA.out (by simp [regletlaw21_PaintWindow.j3])
                | succ kj52 =>
                  have H := HA.out
                  clear HA
                  simp only [regletlaw21_PaintWindow.j3] at H
                  by_cases c58 : x115_52 = true
                  · subst c58
                    have H1 : (some false) = some r := by rw [if_pos rfl] at H; exact H
                    clear H
                    have H := H1
                    clear H1
                    obtain rfl := Option.some.inj H
                    go_wp2
                    repeat (go_quiet (fail); try go_wp2)
                    go_ret
                    exact ⟨z71_, z70_⟩
                  replace c58 := Bool.eq_false_iff.mpr c58
                  subst c58
                  have H1 : (if a2 ≥ (wrap64 (x14_3 * (wrap64 (a0_0 + a0_1)))) then (regletlaw21_PaintWindow.j4 kj52 a2 ji45 x8_3 ji46 ji47 x11_3 x12_3 x13_3 x14_3 (wrap64 (x14_3 * (wrap64 (a0_0 + a0_1)))) (decide ((wrap64 (a2 - (wrap64 (x14_3 * (wrap64 (a0_0 + a0_1)))))) < a0_0)) a0_0 a0_1 a0_2 a1_0 a1_1) else (regletlaw21_PaintWindow.j4 kj52 a2 ji45 x8_3 ji46 ji47 x11_3 x12_3 x13_3 x14_3 (wrap64 (x14_3 * (wrap64 (a0_0 + a0_1)))) false a0_0 a0_1 a0_2 a1_0 a1_1)) = some r := by rw [if_neg (show ¬ (false = true) by decide)] at H; exact H
                  clear H
                  have H := H1
                  clear H1
                  have HC59 := Aside0.mk H
                  clear H
                  go_upto_region 19 with (fail)
                  repeat (go_quiet (fail); go_upto_region 19 with (fail))
                  go_cut [126] (fun v126 wc => ∃ (kq : Nat) (x126_58 : Bool), v126 = .bool x126_58 ∧ Aside0 (regletlaw21_PaintWindow.j4 kq a2 ji45 x8_3 ji46 ji47 x11_3 x12_3 x13_3 x14_3 (wrap64 (x14_3 * (wrap64 (a0_0 + a0_1)))) x126_58 a0_0 a0_1 a0_2 a1_0 a1_1 = some r) ∧ Aside0 (kq ≤ kj52) ∧ Aside0 (Kd.R k56 56 wc w.heap.size (fun _ => True) u8 x8_3) ∧ Aside0 (wc.heap[gb324]? = some (.cells #[.int .i64 a0_0, .int .i64 a0_1, .int .i64 a0_2] 48 (0, 0))) ∧ Aside0 (wc.heap[gb325]? = some (.cells #[.int .i64 a1_0, .int .i64 a1_1] 49 (0, 0))) ∧ Aside0 (Below w.heap.size w wc))
                  case first =>
                    have H := HC59.out
                    clear HC59
                    by_cases c60 : a2 ≥ (wrap64 (x14_3 * (wrap64 (a0_0 + a0_1))))
                    rotate_left
                    · rw [if_neg c60] at H
                      have c60b0 : decide ((wrap64 (x14_3 * (wrap64 (a0_0 + a0_1)))) ≤ a2) = false := decide_eq_false c60
                      clear c60
                      (first | rw [c60b0] | (simp only [i64_w, i32_w]; rw [c60b0]) | skip)
                      have H' := Aside0.mk H
                      clear H
                      go_wp2
                      repeat (go_quiet (fail); try go_wp2)
                      go_meet
                      case rel => exact ⟨_, (false), z208_, H', ⟨z157_⟩, ⟨z173_⟩, ⟨z150_⟩, ⟨z151_⟩, ⟨z70_⟩⟩
                    rw [if_pos c60] at H
                    have c60b0 : decide ((wrap64 (x14_3 * (wrap64 (a0_0 + a0_1)))) ≤ a2) = true := decide_eq_true c60
                    clear c60
                    (first | rw [c60b0] | (simp only [i64_w, i32_w]; rw [c60b0]) | skip)
                    have H' := Aside0.mk H
                    clear H
                    have hnb61 := NB324_325.out
                    have hnc61 := NB325_324.out
                    have hcz62_0 : wc.cell? ⟨gb324, 0, none⟩ = some (.int .i64 a0_0) := (blk_cell BK324.out 0).trans rfl
                    have hcz62_1 : wc.cell? ⟨gb324, 1, none⟩ = some (.int .i64 a0_1) := (blk_cell BK324.out 1).trans rfl
                    have hcz62_2 : wc.cell? ⟨gb324, 2, none⟩ = some (.int .i64 a0_2) := (blk_cell BK324.out 2).trans rfl
                    have hfz62_0 := blk_frozen BK324.out 0
                    have hfz62_1 := blk_frozen BK324.out 1
                    have hfz62_2 := blk_frozen BK324.out 2
                    go_wp2
                    repeat (go_quiet (fail); try go_wp2)
                    go_meet
                    case rel => exact ⟨_, (decide ((wrap64 (a2 - (wrap64 (x14_3 * (wrap64 (a0_0 + a0_1)))))) < a0_0)), z208_, H', ⟨z157_⟩, ⟨z173_⟩, ⟨z150_⟩, ⟨z151_⟩, ⟨z70_⟩⟩
                  case rest =>
                    clear HC59; (try clear c1); (try clear c2); (try clear p2); (try clear c3); (try clear c4); (try clear c5); (try clear c6); (try clear p6); (try clear c10); (try clear c10b0); (try clear c11); (try clear c13); (try clear c13b0); (try clear c14); (try clear c16); (try clear c16b0); (try clear c17); (try clear c19); (try clear c19b0); (try clear c20); (try clear c22); (try clear c22b0); (try clear c23); (try clear c25); (try clear c27); (try clear c29); (try clear c34); (try clear c34b0); (try clear c34b1); (try clear c35); (try clear c39); (try clear c42); (try clear c43); (try clear c48); (try clear c51); (try clear c51b0); (try clear c54); (try clear c57); (try clear c57b0); (try clear c57b1); (try clear c58); (try clear c60); (try clear c60b0); (try clear c61); (try clear hcz12_0); (try clear hcz12_1); (try clear hcz12_2); (try clear hcz15_0); (try clear hcz15_1); (try clear hcz15_2); (try clear hcz18_0); (try clear hcz18_1); (try clear hcz18_2); (try clear hcz21_0); (try clear hcz21_1); (try clear hcz21_2); (try clear hcz24_0); (try clear hcz24_1); (try clear hcz24_2); (try clear hcz26_0); (try clear hcz26_1); (try clear hcz26_2); (try clear hcz30_0); (try clear hcz30_1); (try clear hcz30_2); (try clear hcz36_0); (try clear hcz36_1); (try clear hcz36_2); (try clear hcz38_0); (try clear hcz38_1); (try clear hcz38_2); (try clear hcz40_0); (try clear hcz40_1); (try clear hcz40_2); (try clear hcz44_0); (try clear hcz44_1); (try clear hcz44_2); (try clear hcz49_0); (try clear hcz49_1); (try clear hcz49_2); (try clear hcz50_0); (try clear hcz50_1); (try clear hcz55_0); (try clear hcz55_1); (try clear hcz55_2); (try clear hcz62_0); (try clear hcz62_1); (try clear hcz62_2); (try clear hfz12_0); (try clear hfz12_1); (try clear hfz12_2); (try clear hfz15_0); (try clear hfz15_1); (try clear hfz15_2); (try clear hfz18_0); (try clear hfz18_1); (try clear hfz18_2); (try clear hfz21_0); (try clear hfz21_1); (try clear hfz21_2); (try clear hfz24_0); (try clear hfz24_1); (try clear hfz24_2); (try clear hfz26_0); (try clear hfz26_1); (try clear hfz26_2); (try clear hfz30_0); (try clear hfz30_1); (try clear hfz30_2); (try clear hfz36_0); (try clear hfz36_1); (try clear hfz36_2); (try clear hfz38_0); (try clear hfz38_1); (try clear hfz38_2); (try clear hfz40_0); (try clear hfz40_1); (try clear hfz40_2); (try clear hfz44_0); (try clear hfz44_1); (try clear hfz44_2); (try clear hfz49_0); (try clear hfz49_1); (try clear hfz49_2); (try clear hfz50_0); (try clear hfz50_1); (try clear hfz55_0); (try clear hfz55_1); (try clear hfz55_2); (try clear hfz62_0); (try clear hfz62_1); (try clear hfz62_2); (try clear p2); (try clear p6)
                    obtain ⟨kq, x126_58, rfl, HA, HJ58, HO_8, BK324, BK325, HB⟩ := hcut
                    cases kq with
                    | zero => exact absurd HA.out (by simp [regletlaw21_PaintWindow.j4])
                    | succ kj58 =>
                      have H := HA.out
                      clear HA
                      simp only [regletlaw21_PaintWindow.j4] at H
                      have HC63 := Aside0.mk H
                      clear H
                      go_upto_if 126 with (fail)
                      repeat (go_quiet (fail); go_upto_if 126 with (fail))
                      go_cut [11, 12, 13] (fun v11 v12 v13 wc => ∃ (kq : Nat) (x11_62 : Int) (x12_62 : Int) (x13_62 : Bool), v11 = .int .i64 x11_62 ∧ v12 = .int .i64 x12_62 ∧ v13 = .bool x13_62 ∧ Aside0 (regletlaw21_PaintWindow.j5 kq a2 ji45 x8_3 ji46 ji47 x11_62 x12_62 x13_62 x14_3 (wrap64 (x14_3 * (wrap64 (a0_0 + a0_1)))) a0_0 a0_1 a0_2 a1_0 a1_1 = some r) ∧ Aside0 (kq ≤ kj58) ∧ Aside0 (Kd.R k56 56 wc w.heap.size (fun _ => True) u8 x8_3) ∧ Aside0 (wc.heap[gb324]? = some (.cells #[.int .i64 a0_0, .int .i64 a0_1, .int .i64 a0_2] 48 (0, 0))) ∧ Aside0 (wc.heap[gb325]? = some (.cells #[.int .i64 a1_0, .int .i64 a1_1] 49 (0, 0))) ∧ Aside0 (Below w.heap.size w wc))
                      case first =>
                        have H := HC63.out
                        clear HC63
                        by_cases c64 : x126_58 = true
                        · subst c64
                          have H1 : (regletlaw21_PaintWindow.j5 kj58 a2 ji45 x8_3 ji46 ji47 x14_3 (wrap64 (a2 - (wrap64 (x14_3 * (wrap64 (a0_0 + a0_1)))))) true x14_3 (wrap64 (x14_3 * (wrap64 (a0_0 + a0_1)))) a0_0 a0_1 a0_2 a1_0 a1_1) = some r := by rw [if_pos rfl] at H; exact H
                          clear H
                          have H := H1
                          clear H1
                          have H' := Aside0.mk H
                          clear H
                          go_wp2
                          repeat (go_quiet (fail); try go_wp2)
                          go_meet
                          case rel => exact ⟨_, (x14_3), (wrap64 (a2 - (wrap64 (x14_3 * (wrap64 (a0_0 + a0_1)))))), (true), z208_, z208_, z208_, H', ⟨z124_⟩, ⟨z173_⟩, ⟨z150_⟩, ⟨z151_⟩, ⟨z70_⟩⟩
                        replace c64 := Bool.eq_false_iff.mpr c64
                        subst c64
                        have H1 : (regletlaw21_PaintWindow.j5 kj58 a2 ji45 x8_3 ji46 ji47 x11_3 x12_3 x13_3 x14_3 (wrap64 (x14_3 * (wrap64 (a0_0 + a0_1)))) a0_0 a0_1 a0_2 a1_0 a1_1) = some r := by rw [if_neg (show ¬ (false = true) by decide)] at H; exact H
                        clear H
                        have H := H1
                        clear H1
                        have H' := Aside0.mk H
                        clear H
                        go_wp2
                        repeat (go_quiet (fail); try go_wp2)
                        go_meet
                        case rel => exact ⟨_, (x11_3), (x12_3), (x13_3), z208_, z208_, z208_, H', ⟨z124_⟩, ⟨z173_⟩, ⟨z150_⟩, ⟨z151_⟩, ⟨z70_⟩⟩
                      case rest =>
                        clear HC63; (try clear c1); (try clear c2); (try clear p2); (try clear c3); (try clear c4); (try clear c5); (try clear c6); (try clear p6); (try clear c10); (try clear c10b0); (try clear c11); (try clear c13); (try clear c13b0); (try clear c14); (try clear c16); (try clear c16b0); (try clear c17); (try clear c19); (try clear c19b0); (try clear c20); (try clear c22); (try clear c22b0); (try clear c23); (try clear c25); (try clear c27); (try clear c29); (try clear c34); (try clear c34b0); (try clear c34b1); (try clear c35); (try clear c39); (try clear c42); (try clear c43); (try clear c48); (try clear c51); (try clear c51b0); (try clear c54); (try clear c57); (try clear c57b0); (try clear c57b1); (try clear c58); (try clear c60); (try clear c60b0); (try clear c61); (try clear c64); (try clear p64); (try clear hcz12_0); (try clear hcz12_1); (try clear hcz12_2); (try clear hcz15_0); (try clear hcz15_1); (try clear hcz15_2); (try clear hcz18_0); (try clear hcz18_1); (try clear hcz18_2); (try clear hcz21_0); (try clear hcz21_1); (try clear hcz21_2); (try clear hcz24_0); (try clear hcz24_1); (try clear hcz24_2); (try clear hcz26_0); (try clear hcz26_1); (try clear hcz26_2); (try clear hcz30_0); (try clear hcz30_1); (try clear hcz30_2); (try clear hcz36_0); (try clear hcz36_1); (try clear hcz36_2); (try clear hcz38_0); (try clear hcz38_1); (try clear hcz38_2); (try clear hcz40_0); (try clear hcz40_1); (try clear hcz40_2); (try clear hcz44_0); (try clear hcz44_1); (try clear hcz44_2); (try clear hcz49_0); (try clear hcz49_1); (try clear hcz49_2); (try clear hcz50_0); (try clear hcz50_1); (try clear hcz55_0); (try clear hcz55_1); (try clear hcz55_2); (try clear hcz62_0); (try clear hcz62_1); (try clear hcz62_2); (try clear hfz12_0); (try clear hfz12_1); (try clear hfz12_2); (try clear hfz15_0); (try clear hfz15_1); (try clear hfz15_2); (try clear hfz18_0); (try clear hfz18_1); (try clear hfz18_2); (try clear hfz21_0); (try clear hfz21_1); (try clear hfz21_2); (try clear hfz24_0); (try clear hfz24_1); (try clear hfz24_2); (try clear hfz26_0); (try clear hfz26_1); (try clear hfz26_2); (try clear hfz30_0); (try clear hfz30_1); (try clear hfz30_2); (try clear hfz36_0); (try clear hfz36_1); (try clear hfz36_2); (try clear hfz38_0); (try clear hfz38_1); (try clear hfz38_2); (try clear hfz40_0); (try clear hfz40_1); (try clear hfz40_2); (try clear hfz44_0); (try clear hfz44_1); (try clear hfz44_2); (try clear hfz49_0); (try clear hfz49_1); (try clear hfz49_2); (try clear hfz50_0); (try clear hfz50_1); (try clear hfz55_0); (try clear hfz55_1); (try clear hfz55_2); (try clear hfz62_0); (try clear hfz62_1); (try clear hfz62_2); (try clear p2); (try clear p6)
                        obtain ⟨kq, x11_62, x12_62, x13_62, rfl, rfl, rfl, HA, HJ62, HO_8, BK324, BK325, HB⟩ := hcut
                        cases kq with
                        | zero => exact absurd HA.out (by simp [regletlaw21_PaintWindow.j5])
                        | succ kj62 =>
                          have H := HA.out
                          clear HA
                          simp only [regletlaw21_PaintWindow.j5] at H
                          have HC65 := Aside0.mk H
                          clear H
                          go_upto_region 21 with (fail)
                          repeat (go_quiet (fail); go_upto_region 21 with (fail))
                          go_cut [136] (fun v136 wc => ∃ (kq : Nat) (x136_64 : Bool), v136 = .bool x136_64 ∧ Aside0 (regletlaw21_PaintWindow.j6 kq a2 ji45 x8_3 ji46 ji47 x11_62 x12_62 x13_62 x14_3 (wrap64 (x14_3 * (wrap64 (a0_0 + a0_1)))) x136_64 a0_0 a0_1 a0_2 a1_0 a1_1 = some r) ∧ Aside0 (kq ≤ kj62) ∧ Aside0 (Kd.R k56 56 wc w.heap.size (fun _ => True) u8 x8_3) ∧ Aside0 (wc.heap[gb324]? = some (.cells #[.int .i64 a0_0, .int .i64 a0_1, .int .i64 a0_2] 48 (0, 0))) ∧ Aside0 (wc.heap[gb325]? = some (.cells #[.int .i64 a1_0, .int .i64 a1_1] 49 (0, 0))) ∧ Aside0 (Below w.heap.size w wc))
                          case first =>
                            have H := HC65.out
                            clear HC65
                            by_cases c66 : ji46 > 1125899906842624
                            rotate_left
                            · rw [if_neg c66] at H
                              have c66b0 : decide (1125899906842624 < ji46) = false := decide_eq_false c66
                              clear c66
                              (first | rw [c66b0] | (simp only [i64_w, i32_w]; rw [c66b0]) | skip)
                              have H' := Aside0.mk H
                              clear H
                              go_wp2
                              repeat (go_quiet (fail); try go_wp2)
                              go_meet
                              case rel => exact ⟨_, (decide (ji47 ≤ 0)), (by first | rfl | (simp; done) | (simp only [← hji47] <;> (first | rfl | simp)) | (simp [*]; done)), H', ⟨z110_⟩, ⟨z173_⟩, ⟨z150_⟩, ⟨z151_⟩, ⟨z70_⟩⟩
                            rw [if_pos c66] at H
                            have c66b0 : decide (1125899906842624 < ji46) = true := decide_eq_true c66
                            clear c66
                            (first | rw [c66b0] | (simp only [i64_w, i32_w]; rw [c66b0]) | skip)
                            have H' := Aside0.mk H
                            clear H
                            go_wp2
                            repeat (go_quiet (fail); try go_wp2)
                            go_meet
                            case rel => exact ⟨_, (true), z208_, H', ⟨z110_⟩, ⟨z173_⟩, ⟨z150_⟩, ⟨z151_⟩, ⟨z70_⟩⟩
                          case rest =>
                            clear HC65; (try clear c1); (try clear c2); (try clear p2); (try clear c3); (try clear c4); (try clear c5); (try clear c6); (try clear p6); (try clear c10); (try clear c10b0); (try clear c11); (try clear c13); (try clear c13b0); (try clear c14); (try clear c16); (try clear c16b0); (try clear c17); (try clear c19); (try clear c19b0); (try clear c20); (try clear c22); (try clear c22b0); (try clear c23); (try clear c25); (try clear c27); (try clear c29); (try clear c34); (try clear c34b0); (try clear c34b1); (try clear c35); (try clear c39); (try clear c42); (try clear c43); (try clear c48); (try clear c51); (try clear c51b0); (try clear c54); (try clear c57); (try clear c57b0); (try clear c57b1); (try clear c58); (try clear c60); (try clear c60b0); (try clear c61); (try clear c64); (try clear p64); (try clear c66); (try clear c66b0); (try clear hcz12_0); (try clear hcz12_1); (try clear hcz12_2); (try clear hcz15_0); (try clear hcz15_1); (try clear hcz15_2); (try clear hcz18_0); (try clear hcz18_1); (try clear hcz18_2); (try clear hcz21_0); (try clear hcz21_1); (try clear hcz21_2); (try clear hcz24_0); (try clear hcz24_1); (try clear hcz24_2); (try clear hcz26_0); (try clear hcz26_1); (try clear hcz26_2); (try clear hcz30_0); (try clear hcz30_1); (try clear hcz30_2); (try clear hcz36_0); (try clear hcz36_1); (try clear hcz36_2); (try clear hcz38_0); (try clear hcz38_1); (try clear hcz38_2); (try clear hcz40_0); (try clear hcz40_1); (try clear hcz40_2); (try clear hcz44_0); (try clear hcz44_1); (try clear hcz44_2); (try clear hcz49_0); (try clear hcz49_1); (try clear hcz49_2); (try clear hcz50_0); (try clear hcz50_1); (try clear hcz55_0); (try clear hcz55_1); (try clear hcz55_2); (try clear hcz62_0); (try clear hcz62_1); (try clear hcz62_2); (try clear hfz12_0); (try clear hfz12_1); (try clear hfz12_2); (try clear hfz15_0); (try clear hfz15_1); (try clear hfz15_2); (try clear hfz18_0); (try clear hfz18_1); (try clear hfz18_2); (try clear hfz21_0); (try clear hfz21_1); (try clear hfz21_2); (try clear hfz24_0); (try clear hfz24_1); (try clear hfz24_2); (try clear hfz26_0); (try clear hfz26_1); (try clear hfz26_2); (try clear hfz30_0); (try clear hfz30_1); (try clear hfz30_2); (try clear hfz36_0); (try clear hfz36_1); (try clear hfz36_2); (try clear hfz38_0); (try clear hfz38_1); (try clear hfz38_2); (try clear hfz40_0); (try clear hfz40_1); (try clear hfz40_2); (try clear hfz44_0); (try clear hfz44_1); (try clear hfz44_2); (try clear hfz49_0); (try clear hfz49_1); (try clear hfz49_2); (try clear hfz50_0); (try clear hfz50_1); (try clear hfz55_0); (try clear hfz55_1); (try clear hfz55_2); (try clear hfz62_0); (try clear hfz62_1); (try clear hfz62_2); (try clear p2); (try clear p6); (try clear p64)
                            obtain ⟨kq, x136_64, rfl, HA, HJ64, HO_8, BK324, BK325, HB⟩ := hcut
                            cases kq with
                            | zero => exact absurd HA.out (by simp [regletlaw21_PaintWindow.j6])
                            | succ kj64 =>
                              have H := HA.out
                              clear HA
                              simp only [regletlaw21_PaintWindow.j6] at H
                              by_cases c67 : x136_64 = true
                              · subst c67
                                have H1 : (regletlaw21_PaintWindow.l0 kj64 a2 ji45 x8_3 ji46 ji47 x11_62 x12_62 x13_62 (wrap64 (x14_3 + 1)) a0_0 a0_1 a0_2 a1_0 a1_1) = some r := by rw [if_pos rfl] at H; exact H
                                clear H
                                have H := H1
                                clear H1
                                have H' := Aside0.mk H
                                clear H
                                go_wp2
                                repeat (go_quiet (fail); try go_wp2)
                                go_roundg kj64
                                case measure => have := HJ5.out; have := HJ31.out; have := HK3.out; have := HJ52.out; have := HJ58.out; have := HJ62.out; have := HJ64.out; omega
                                case rel => exact ⟨(x8_3), (x11_62), (x12_62), (x13_62), (wrap64 (x14_3 + 1)), z208_, z208_, z208_, z208_, H', ⟨z118_⟩, ⟨z173_⟩, ⟨z150_⟩, ⟨z151_⟩, ⟨z70_⟩⟩
                              replace c67 := Bool.eq_false_iff.mpr c67
                              subst c67
                              have H1 : (if (mx 0 (wrap64 (ji46 - (wrap64 (x14_3 * (wrap64 (a0_0 + a0_1))))))) < (mn a0_0 (wrap64 ((wrap64 (ji46 + ji47)) - (wrap64 (x14_3 * (wrap64 (a0_0 + a0_1))))))) then (if x8_3.length < 5864062014805 then (regletlaw21_PaintWindow.l0 kj64 a2 ji45 (x8_3 ++ [(⟨x14_3, mx 0 (wrap64 (ji46 - (wrap64 (x14_3 * (wrap64 (a0_0 + a0_1)))))), mn a0_0 (wrap64 ((wrap64 (ji46 + ji47)) - (wrap64 (x14_3 * (wrap64 (a0_0 + a0_1))))))⟩ : S56)]) ji46 ji47 x11_62 x12_62 x13_62 (wrap64 (x14_3 + 1)) a0_0 a0_1 a0_2 a1_0 a1_1) else (none)) else (regletlaw21_PaintWindow.l0 kj64 a2 ji45 x8_3 ji46 ji47 x11_62 x12_62 x13_62 (wrap64 (x14_3 + 1)) a0_0 a0_1 a0_2 a1_0 a1_1)) = some r := by rw [if_neg (show ¬ (false = true) by decide)] at H; exact H
                              clear H
                              have H := H1
                              clear H1
                              obtain ⟨ji68, hji68⟩ : ∃ j_ : Int, (mx 0 (wrap64 (ji46 - (wrap64 (x14_3 * (wrap64 (a0_0 + a0_1))))))) = j_ := ⟨_, rfl⟩
                              replace H : (if (ji68) < (mn a0_0 (wrap64 ((wrap64 (ji46 + ji47)) - (wrap64 (x14_3 * (wrap64 (a0_0 + a0_1))))))) then (if x8_3.length < 5864062014805 then (regletlaw21_PaintWindow.l0 kj64 a2 ji45 (x8_3 ++ [(⟨x14_3, ji68, mn a0_0 (wrap64 ((wrap64 (ji46 + ji47)) - (wrap64 (x14_3 * (wrap64 (a0_0 + a0_1))))))⟩ : S56)]) ji46 ji47 x11_62 x12_62 x13_62 (wrap64 (x14_3 + 1)) a0_0 a0_1 a0_2 a1_0 a1_1) else (none)) else (regletlaw21_PaintWindow.l0 kj64 a2 ji45 x8_3 ji46 ji47 x11_62 x12_62 x13_62 (wrap64 (x14_3 + 1)) a0_0 a0_1 a0_2 a1_0 a1_1)) = some r := by first | (rw [hji68] at H; exact H) | (simp only [hji68] at H ⊢; exact H)
                              have hji68_ : (if 0 < (wrap64 (ji46 - (wrap64 (x14_3 * (wrap64 (a0_0 + a0_1)))))) then (wrap64 (ji46 - (wrap64 (x14_3 * (wrap64 (a0_0 + a0_1)))))) else 0) = ji68 := hji68
                              obtain ⟨ji69, hji69⟩ : ∃ j_ : Int, (mn a0_0 (wrap64 ((wrap64 (ji46 + ji47)) - (wrap64 (x14_3 * (wrap64 (a0_0 + a0_1))))))) = j_ := ⟨_, rfl⟩
                              replace H : (if (ji68) < (ji69) then (if x8_3.length < 5864062014805 then (regletlaw21_PaintWindow.l0 kj64 a2 ji45 (x8_3 ++ [(⟨x14_3, ji68, ji69⟩ : S56)]) ji46 ji47 x11_62 x12_62 x13_62 (wrap64 (x14_3 + 1)) a0_0 a0_1 a0_2 a1_0 a1_1) else (none)) else (regletlaw21_PaintWindow.l0 kj64 a2 ji45 x8_3 ji46 ji47 x11_62 x12_62 x13_62 (wrap64 (x14_3 + 1)) a0_0 a0_1 a0_2 a1_0 a1_1)) = some r := by first | (rw [hji69] at H; exact H) | (simp only [hji69] at H ⊢; exact H)
                              have hji69_ : (if (wrap64 ((wrap64 (ji46 + ji47)) - (wrap64 (x14_3 * (wrap64 (a0_0 + a0_1)))))) < a0_0 then (wrap64 ((wrap64 (ji46 + ji47)) - (wrap64 (x14_3 * (wrap64 (a0_0 + a0_1)))))) else a0_0) = ji69 := hji69
                              by_cases c70 : (ji68) < (ji69)
                              rotate_left
                              · rw [if_neg c70] at H
                                have c70b0 : decide ((ji68) < (ji69)) = false := decide_eq_false c70
                                clear c70
                                have H' := Aside0.mk H
                                clear H
                                have hnb75 := NB324_325.out
                                have hnc75 := NB325_324.out
                                have hcz76_0 : wc.cell? ⟨gb324, 0, none⟩ = some (.int .i64 a0_0) := (blk_cell BK324.out 0).trans rfl
                                have hcz76_1 : wc.cell? ⟨gb324, 1, none⟩ = some (.int .i64 a0_1) := (blk_cell BK324.out 1).trans rfl
                                have hcz76_2 : wc.cell? ⟨gb324, 2, none⟩ = some (.int .i64 a0_2) := (blk_cell BK324.out 2).trans rfl
                                have hfz76_0 := blk_frozen BK324.out 0
                                have hfz76_1 := blk_frozen BK324.out 1
                                have hfz76_2 := blk_frozen BK324.out 2
                                go_wp2
                                repeat (go_quiet (fail); try go_wp2)
                                go_roundg kj64
                                case measure => have := HJ5.out; have := HJ31.out; have := HK3.out; have := HJ52.out; have := HJ58.out; have := HJ62.out; have := HJ64.out; omega
                                case rel => exact ⟨(x8_3), (x11_62), (x12_62), (x13_62), (wrap64 (x14_3 + 1)), z208_, z208_, z208_, z208_, H', ⟨z118_⟩, ⟨z173_⟩, ⟨z150_⟩, ⟨z151_⟩, ⟨z70_⟩⟩
                              rw [if_pos c70] at H
                              have c70b0 : decide ((ji68) < (ji69)) = true := decide_eq_true c70
                              clear c70
                              by_cases c71 : x8_3.length < 5864062014805
                              rotate_left
                              · rw [if_neg c71] at H
                                exact absurd H (by simp)
                              rw [if_pos c71] at H
                              have LMc71 := Aside0.mk c71
                              clear c71
                              obtain ⟨y331, hy331⟩ : ∃ y_ : List (S56), y_ = (x8_3 ++ [(⟨x14_3, ji68, ji69⟩ : S56)]) := ⟨_, rfl⟩
                              replace H : (regletlaw21_PaintWindow.l0 kj64 a2 ji45 y331 ji46 ji47 x11_62 x12_62 x13_62 (wrap64 (x14_3 + 1)) a0_0 a0_1 a0_2 a1_0 a1_1) = some r := by first | (rw [hy331]; with_reducible exact H) | (have H2_ := (Option.bind_some _ _).symm.trans H; rw [hy331]; with_reducible exact H2_) | (have H2_ := (Option.bind_some _ _).symm.trans H; with_reducible exact H2_) | with_reducible exact H | (rw [hy331]; exact H) | exact H
                              have Ny331 := Aside0.mk hy331
                              clear hy331
                              have H' := Aside0.mk H
                              clear H
                              have hnb72 := NB324_325.out
                              have hnc72 := NB325_324.out
                              have hcz73_0 : wc.cell? ⟨gb324, 0, none⟩ = some (.int .i64 a0_0) := (blk_cell BK324.out 0).trans rfl
                              have hcz73_1 : wc.cell? ⟨gb324, 1, none⟩ = some (.int .i64 a0_1) := (blk_cell BK324.out 1).trans rfl
                              have hcz73_2 : wc.cell? ⟨gb324, 2, none⟩ = some (.int .i64 a0_2) := (blk_cell BK324.out 2).trans rfl
                              have hfz73_0 := blk_frozen BK324.out 0
                              have hfz73_1 := blk_frozen BK324.out 1
                              have hfz73_2 := blk_frozen BK324.out 2
                              go_wp2_with (first | ((with_reducible refine gate_builtin (b := .append) (xs := #[.tmp 152, .tmp 157]) rfl ?_); at_builtin; refine Kd.R_append k56 (w0 := w) w.heap.size rfl (.tmp 152) (.tmp 157) 52 56 (.agg #[(.int .i64 0), (.int .i64 0), (.int .i64 0)]) 24 rfl Try.underlying52 info56 rfl (by decide) (by omega) u8 x8_3 (⟨x14_3, ji68, ji69⟩ : S56) [.int .i64 x14_3, .int .i64 ji68, .int .i64 ji69] (fun _ => True) (fun _ => False) rfl rfl ?aP (fun _ hk => hk.elim) ?aF ?aO ?aB ?aS ?aL ?_; (case aP => exact z205_); (case aB => exact z54_); (case aF => exact z215_); (case aO => exact z154_); (case aS => exact z48_); (case aL => have := LMc71.out; omega); intro v332 w74 ho hb hg hat; rw [← Ny331.out] at ho; have n0_ := Aside0.mk (blk_grown (g := gb324) (o := .cells #[.int .i64 a0_0, .int .i64 a0_1, .int .i64 a0_2] 48 (0, 0)) z150_ hg (Kd.R_ne HO_8.out BK324.out (by decide))); have n1_ := Aside0.mk (blk_grown (g := gb325) (o := .cells #[.int .i64 a1_0, .int .i64 a1_1] 49 (0, 0)) z151_ hg (Kd.R_ne HO_8.out BK325.out (by decide))); have n2_ := Aside0.mk (hb); have n3_ := Aside0.mk (ho); clear BK324; clear BK325; clear HB; clear HO_8; have BK324 := n0_; have BK325 := n1_; have HB := n2_; have HO333 := n3_; clear n0_ n1_ n2_ n3_; clear ho hb hg hat))
                              repeat (go_quiet (first | ((with_reducible refine gate_builtin (b := .append) (xs := #[.tmp 152, .tmp 157]) rfl ?_); at_builtin; refine Kd.R_append k56 (w0 := w) w.heap.size rfl (.tmp 152) (.tmp 157) 52 56 (.agg #[(.int .i64 0), (.int .i64 0), (.int .i64 0)]) 24 rfl Try.underlying52 info56 rfl (by decide) (by omega) u8 x8_3 (⟨x14_3, ji68, ji69⟩ : S56) [.int .i64 x14_3, .int .i64 ji68, .int .i64 ji69] (fun _ => True) (fun _ => False) rfl rfl ?aP (fun _ hk => hk.elim) ?aF ?aO ?aB ?aS ?aL ?_; (case aP => exact z205_); (case aB => exact z54_); (case aF => exact z215_); (case aO => exact z154_); (case aS => exact z48_); (case aL => have := LMc71.out; omega); intro v332 w74 ho hb hg hat; rw [← Ny331.out] at ho; have n0_ := Aside0.mk (blk_grown (g := gb324) (o := .cells #[.int .i64 a0_0, .int .i64 a0_1, .int .i64 a0_2] 48 (0, 0)) z150_ hg (Kd.R_ne HO_8.out BK324.out (by decide))); have n1_ := Aside0.mk (blk_grown (g := gb325) (o := .cells #[.int .i64 a1_0, .int .i64 a1_1] 49 (0, 0)) z151_ hg (Kd.R_ne HO_8.out BK325.out (by decide))); have n2_ := Aside0.mk (hb); have n3_ := Aside0.mk (ho); clear BK324; clear BK325; clear HB; clear HO_8; have BK324 := n0_; have BK325 := n1_; have HB := n2_; have HO333 := n3_; clear n0_ n1_ n2_ n3_; clear ho hb hg hat)); try go_wp2_with (first | ((with_reducible refine gate_builtin (b := .append) (xs := #[.tmp 152, .tmp 157]) rfl ?_); at_builtin; refine Kd.R_append k56 (w0 := w) w.heap.size rfl (.tmp 152) (.tmp 157) 52 56 (.agg #[(.int .i64 0), (.int .i64 0), (.int .i64 0)]) 24 rfl Try.underlying52 info56 rfl (by decide) (by omega) u8 x8_3 (⟨x14_3, ji68, ji69⟩ : S56) [.int .i64 x14_3, .int .i64 ji68, .int .i64 ji69] (fun _ => True) (fun _ => False) rfl rfl ?aP (fun _ hk => hk.elim) ?aF ?aO ?aB ?aS ?aL ?_; (case aP => exact z205_); (case aB => exact z54_); (case aF => exact z215_); (case aO => exact z154_); (case aS => exact z48_); (case aL => have := LMc71.out; omega); intro v332 w74 ho hb hg hat; rw [← Ny331.out] at ho; have n0_ := Aside0.mk (blk_grown (g := gb324) (o := .cells #[.int .i64 a0_0, .int .i64 a0_1, .int .i64 a0_2] 48 (0, 0)) z150_ hg (Kd.R_ne HO_8.out BK324.out (by decide))); have n1_ := Aside0.mk (blk_grown (g := gb325) (o := .cells #[.int .i64 a1_0, .int .i64 a1_1] 49 (0, 0)) z151_ hg (Kd.R_ne HO_8.out BK325.out (by decide))); have n2_ := Aside0.mk (hb); have n3_ := Aside0.mk (ho); clear BK324; clear BK325; clear HB; clear HO_8; have BK324 := n0_; have BK325 := n1_; have HB := n2_; have HO333 := n3_; clear n0_ n1_ n2_ n3_; clear ho hb hg hat)))
                              go_roundg kj64
                              case measure => have := HJ5.out; have := HJ31.out; have := HK3.out; have := HJ52.out; have := HJ58.out; have := HJ62.out; have := HJ64.out; omega
                              case rel => exact ⟨(y331), (x11_62), (x12_62), (x13_62), (wrap64 (x14_3 + 1)), z208_, z208_, z208_, z208_, H', ⟨z118_⟩, ⟨y185_ HO333.out⟩, ⟨z150_⟩, ⟨z151_⟩, ⟨z70_⟩⟩
end Go.Proofs.Ytblmcdpfhdamjaa.PPaintWindow
