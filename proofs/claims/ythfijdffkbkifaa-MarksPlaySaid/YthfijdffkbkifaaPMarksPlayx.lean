-- The models of the law MarksPlay's functions, as wip/xprint.py of this repo printed them (chosen by wip/al/pure.py)
import Derived.Test.YthfijdffkbkifaaKMarksPlay
import Derived.IntWalk
namespace Go.Proofs.Ythfijdffkbkifaa.PMarksPlay
open Go.RowKit Go.Proofs.YthfijdffkbkifaaW.PrintWords Go.Proofs.YthfijdffkbkifaaW.PrintLast Go.Proofs.YthfijdffkbkifaaW.PrintMore
set_option linter.unusedVariables false
set_option linter.unusedSimpArgs false
abbrev wrap64 (n : Int) : Int := IntKind.i64.wrap n
theorem wrap64_def (n : Int) : wrap64 n = (n + 9223372036854775808) % 18446744073709551616 - 9223372036854775808 := IntKind.wrap_i64 n
abbrev mx (a b : Int) : Int := max a b
abbrev mn (a b : Int) : Int := min a b
abbrev shl (k : IntKind) (x y : Int) : Int := k.wrap (x * 2 ^ min y.toNat k.bits)
abbrev shr (k : IntKind) (x y : Int) : Int := x.fdiv (2 ^ min y.toNat k.bits)
structure S46 where
  f0 : Int
  f1 : Int
  f2 : Bool
def z46 : S46 := ⟨(0 : Int), (0 : Int), false⟩
def rd_T46 (xs : List S46) (i : Int) : S46 := xs.getD i.toNat z46
structure S51 where
  f0 : Int
  f1 : Int
  f2 : Bool
def z51 : S51 := ⟨(0 : Int), (0 : Int), false⟩
def rd_T51 (xs : List S51) (i : Int) : S51 := xs.getD i.toNat z51
def regletref16_Put.j0 : Nat → Int → Bool → Bool → Int → Int → List (S51) → Option (Int × Int × (List (S51)) × Int × Int)
  | 0, _, _, _, _, _, _ => none
  | k + 1, x1, x2, x17, x104000, x104001, x104002 => if x17 = true then (some (x104000, x104001, x104002, 0, 30)) else (if (x104002.length : Int) ≥ 1024 then (some (x104000, x104001, x104002, 0, 2)) else ((some (([] : List (S51)) : List (S51))).bind fun y105 => (if y105.length + x104002.length < 5864062014805 then ((some (y105 ++ x104002 : List (S51))).bind fun y108 => (if y108.length < 5864062014805 then (some (x104000, wrap64 (x104001 + 1), (y108 ++ [(⟨wrap64 (x104001 + 1), x1, x2⟩ : S51)]), wrap64 (x104001 + 1), 0)) else (none))) else (none))))
def regletref16_Put.f (k : Nat) (a0_0 : Int) (a0_1 : Int) (l0_2 : List (S51)) (a1 : Int) (a2 : Bool) : Option (Int × Int × (List (S51)) × Int × Int) := if a1 < 0 then (regletref16_Put.j0 k a1 a2 true a0_0 a0_1 l0_2) else (regletref16_Put.j0 k a1 a2 (decide (a1 > a0_0)) a0_0 a0_1 l0_2)
theorem regletref16_Put.mono_l : ∀ k, (∀ y0 y1 y2 y3 y4 y5, LeO (regletref16_Put.j0 k y0 y1 y2 y3 y4 y5) (regletref16_Put.j0 (k + 1) y0 y1 y2 y3 y4 y5))
  | 0 => fun _ _ _ _ _ _ r h => by simp [regletref16_Put.j0] at h
  | k + 1 => by
    have ih0 := regletref16_Put.mono_l k
    · intro y0 y1 y2 y3 y4 y5
      unfold regletref16_Put.j0
      repeat' first
      | (with_reducible exact ih0 _ _ _ _ _ _)
      | (with_reducible exact LeO.refl _)
      | (with_reducible exact LeO.none _)
      | (with_reducible refine LeO.ite ?_ ?_)
      | (with_reducible refine LeO.bind ?_ (fun _ => ?_))
      | exact ih0 _ _ _ _ _ _
      | exact LeO.none _
      | refine LeO.ite ?_ ?_
      | refine LeO.bind ?_ (fun _ => ?_)
theorem regletref16_Put.mono : ∀ a0 a1 a2 a3 a4 k, LeO (regletref16_Put.f k a0 a1 a2 a3 a4) (regletref16_Put.f (k + 1) a0 a1 a2 a3 a4) := by
  intro a0 a1 a2 a3 a4 k
  have ih0 := regletref16_Put.mono_l k
  unfold regletref16_Put.f
  repeat' first
      | (with_reducible exact ih0 _ _ _ _ _ _)
      | (with_reducible exact LeO.refl _)
      | (with_reducible exact LeO.none _)
      | (with_reducible refine LeO.ite ?_ ?_)
      | (with_reducible refine LeO.bind ?_ (fun _ => ?_))
      | exact ih0 _ _ _ _ _ _
      | exact LeO.none _
      | refine LeO.ite ?_ ?_
      | refine LeO.bind ?_ (fun _ => ?_)
mutual
def regletref16_Insert.j0 : Nat → Int → Int → Bool → Int → Int → List (S51) → Option (Int × Int × (List (S51)) × Int)
  | 0, _, _, _, _, _, _ => none
  | k + 1, x1, x2, x18, x115000, x115001, x115002 => if x18 = true then (some (x115000, x115001, x115002, 30)) else (if x2 < 0 then (some (x115000, x115001, x115002, 1)) else (if x2 > (wrap64 (65536 - x115000)) then (some (x115000, x115001, x115002, 31)) else (regletref16_Insert.l0 k x1 x2 ([] : List (S51)) 0 x115000 x115001 x115002)))
def regletref16_Insert.l0 : Nat → Int → Int → List (S51) → Int → Int → Int → List (S51) → Option (Int × Int × (List (S51)) × Int)
  | 0, _, _, _, _, _, _, _ => none
  | k + 1, x1, x2, x8, x9, x115000, x115001, x115002 => if x9 < (x115002.length : Int) then (if 0 ≤ x9 then (if ((rd_T51 x115002 x9).f1) > x1 then (if x8.length < 5864062014805 then (regletref16_Insert.l0 k x1 x2 (x8 ++ [(⟨(rd_T51 x115002 x9).f0, wrap64 (((rd_T51 x115002 x9).f1) + x2), (rd_T51 x115002 x9).f2⟩ : S51)]) (wrap64 (x9 + 1)) x115000 x115001 x115002) else (none)) else (if ((rd_T51 x115002 x9).f1) = x1 then (if ((rd_T51 x115002 x9).f2 = true) then (if x8.length < 5864062014805 then (regletref16_Insert.l0 k x1 x2 (x8 ++ [(⟨(rd_T51 x115002 x9).f0, (rd_T51 x115002 x9).f1, (rd_T51 x115002 x9).f2⟩ : S51)]) (wrap64 (x9 + 1)) x115000 x115001 x115002) else (none)) else (if x8.length < 5864062014805 then (regletref16_Insert.l0 k x1 x2 (x8 ++ [(⟨(rd_T51 x115002 x9).f0, wrap64 (((rd_T51 x115002 x9).f1) + x2), (rd_T51 x115002 x9).f2⟩ : S51)]) (wrap64 (x9 + 1)) x115000 x115001 x115002) else (none))) else (if x8.length < 5864062014805 then (regletref16_Insert.l0 k x1 x2 (x8 ++ [(⟨(rd_T51 x115002 x9).f0, (rd_T51 x115002 x9).f1, (rd_T51 x115002 x9).f2⟩ : S51)]) (wrap64 (x9 + 1)) x115000 x115001 x115002) else (none)))) else (none)) else (some (wrap64 (x115000 + x2), x115001, x8, 0))
end
def regletref16_Insert.f (k : Nat) (a0_0 : Int) (a0_1 : Int) (l0_2 : List (S51)) (a1 : Int) (a2 : Int) : Option (Int × Int × (List (S51)) × Int) := if a1 < 0 then (regletref16_Insert.j0 k a1 a2 true a0_0 a0_1 l0_2) else (regletref16_Insert.j0 k a1 a2 (decide (a1 > a0_0)) a0_0 a0_1 l0_2)
theorem regletref16_Insert.mono_l : ∀ k, (∀ y0 y1 y2 y3 y4 y5, LeO (regletref16_Insert.j0 k y0 y1 y2 y3 y4 y5) (regletref16_Insert.j0 (k + 1) y0 y1 y2 y3 y4 y5)) ∧ (∀ y0 y1 y2 y3 y4 y5 y6, LeO (regletref16_Insert.l0 k y0 y1 y2 y3 y4 y5 y6) (regletref16_Insert.l0 (k + 1) y0 y1 y2 y3 y4 y5 y6))
  | 0 => ⟨fun _ _ _ _ _ _ r h => by simp [regletref16_Insert.j0] at h, fun _ _ _ _ _ _ _ r h => by simp [regletref16_Insert.l0] at h⟩
  | k + 1 => by
    obtain ⟨ih0, ih1⟩ := regletref16_Insert.mono_l k
    refine ⟨?_, ?_⟩
    · intro y0 y1 y2 y3 y4 y5
      unfold regletref16_Insert.j0
      repeat' first
      | (with_reducible exact ih0 _ _ _ _ _ _)
      | (with_reducible exact ih1 _ _ _ _ _ _ _)
      | (with_reducible exact LeO.refl _)
      | (with_reducible exact LeO.none _)
      | (with_reducible refine LeO.ite ?_ ?_)
      | (with_reducible refine LeO.bind ?_ (fun _ => ?_))
      | exact ih0 _ _ _ _ _ _
      | exact ih1 _ _ _ _ _ _ _
      | exact LeO.none _
      | refine LeO.ite ?_ ?_
      | refine LeO.bind ?_ (fun _ => ?_)
    · intro y0 y1 y2 y3 y4 y5 y6
      unfold regletref16_Insert.l0
      repeat' first
      | (with_reducible exact ih0 _ _ _ _ _ _)
      | (with_reducible exact ih1 _ _ _ _ _ _ _)
      | (with_reducible exact LeO.refl _)
      | (with_reducible exact LeO.none _)
      | (with_reducible refine LeO.ite ?_ ?_)
      | (with_reducible refine LeO.bind ?_ (fun _ => ?_))
      | exact ih0 _ _ _ _ _ _
      | exact ih1 _ _ _ _ _ _ _
      | exact LeO.none _
      | refine LeO.ite ?_ ?_
      | refine LeO.bind ?_ (fun _ => ?_)
theorem regletref16_Insert.mono : ∀ a0 a1 a2 a3 a4 k, LeO (regletref16_Insert.f k a0 a1 a2 a3 a4) (regletref16_Insert.f (k + 1) a0 a1 a2 a3 a4) := by
  intro a0 a1 a2 a3 a4 k
  obtain ⟨ih0, ih1⟩ := regletref16_Insert.mono_l k
  unfold regletref16_Insert.f
  repeat' first
      | (with_reducible exact ih0 _ _ _ _ _ _)
      | (with_reducible exact ih1 _ _ _ _ _ _ _)
      | (with_reducible exact LeO.refl _)
      | (with_reducible exact LeO.none _)
      | (with_reducible refine LeO.ite ?_ ?_)
      | (with_reducible refine LeO.bind ?_ (fun _ => ?_))
      | exact ih0 _ _ _ _ _ _
      | exact ih1 _ _ _ _ _ _ _
      | exact LeO.none _
      | refine LeO.ite ?_ ?_
      | refine LeO.bind ?_ (fun _ => ?_)
mutual
def regletref16_Delete.j0 : Nat → Int → Int → Bool → Int → Int → List (S51) → Option (Int × Int × (List (S51)) × Int)
  | 0, _, _, _, _, _, _ => none
  | k + 1, x1, x2, x23, x131000, x131001, x131002 => if x23 = true then (some (x131000, x131001, x131002, 30)) else (regletref16_Delete.l0 k x1 x2 ([] : List (S51)) 0 x131000 x131001 x131002)
def regletref16_Delete.l0 : Nat → Int → Int → List (S51) → Int → Int → Int → List (S51) → Option (Int × Int × (List (S51)) × Int)
  | 0, _, _, _, _, _, _, _ => none
  | k + 1, x1, x2, x8, x9, x131000, x131001, x131002 => if x9 < (x131002.length : Int) then (if 0 ≤ x9 then (if ((rd_T51 x131002 x9).f1) > x1 then (if x8.length < 5864062014805 then (regletref16_Delete.l0 k x1 x2 (x8 ++ [(⟨(rd_T51 x131002 x9).f0, mx x1 (wrap64 (((rd_T51 x131002 x9).f1) - (wrap64 (x2 - x1)))), (rd_T51 x131002 x9).f2⟩ : S51)]) (wrap64 (x9 + 1)) x131000 x131001 x131002) else (none)) else (if x8.length < 5864062014805 then (regletref16_Delete.l0 k x1 x2 (x8 ++ [(⟨(rd_T51 x131002 x9).f0, (rd_T51 x131002 x9).f1, (rd_T51 x131002 x9).f2⟩ : S51)]) (wrap64 (x9 + 1)) x131000 x131001 x131002) else (none))) else (none)) else (some (wrap64 (x131000 - (wrap64 (x2 - x1))), x131001, x8, 0))
end
def regletref16_Delete.f (k : Nat) (a0_0 : Int) (a0_1 : Int) (l0_2 : List (S51)) (a1 : Int) (a2 : Int) : Option (Int × Int × (List (S51)) × Int) := if a1 < 0 then (regletref16_Delete.j0 k a1 a2 true a0_0 a0_1 l0_2) else (if a2 > a0_0 then (regletref16_Delete.j0 k a1 a2 true a0_0 a0_1 l0_2) else (regletref16_Delete.j0 k a1 a2 (decide (a1 > a2)) a0_0 a0_1 l0_2))
theorem regletref16_Delete.mono_l : ∀ k, (∀ y0 y1 y2 y3 y4 y5, LeO (regletref16_Delete.j0 k y0 y1 y2 y3 y4 y5) (regletref16_Delete.j0 (k + 1) y0 y1 y2 y3 y4 y5)) ∧ (∀ y0 y1 y2 y3 y4 y5 y6, LeO (regletref16_Delete.l0 k y0 y1 y2 y3 y4 y5 y6) (regletref16_Delete.l0 (k + 1) y0 y1 y2 y3 y4 y5 y6))
  | 0 => ⟨fun _ _ _ _ _ _ r h => by simp [regletref16_Delete.j0] at h, fun _ _ _ _ _ _ _ r h => by simp [regletref16_Delete.l0] at h⟩
  | k + 1 => by
    obtain ⟨ih0, ih1⟩ := regletref16_Delete.mono_l k
    refine ⟨?_, ?_⟩
    · intro y0 y1 y2 y3 y4 y5
      unfold regletref16_Delete.j0
      repeat' first
      | (with_reducible exact ih0 _ _ _ _ _ _)
      | (with_reducible exact ih1 _ _ _ _ _ _ _)
      | (with_reducible exact LeO.refl _)
      | (with_reducible exact LeO.none _)
      | (with_reducible refine LeO.ite ?_ ?_)
      | (with_reducible refine LeO.bind ?_ (fun _ => ?_))
      | exact ih0 _ _ _ _ _ _
      | exact ih1 _ _ _ _ _ _ _
      | exact LeO.none _
      | refine LeO.ite ?_ ?_
      | refine LeO.bind ?_ (fun _ => ?_)
    · intro y0 y1 y2 y3 y4 y5 y6
      unfold regletref16_Delete.l0
      repeat' first
      | (with_reducible exact ih0 _ _ _ _ _ _)
      | (with_reducible exact ih1 _ _ _ _ _ _ _)
      | (with_reducible exact LeO.refl _)
      | (with_reducible exact LeO.none _)
      | (with_reducible refine LeO.ite ?_ ?_)
      | (with_reducible refine LeO.bind ?_ (fun _ => ?_))
      | exact ih0 _ _ _ _ _ _
      | exact ih1 _ _ _ _ _ _ _
      | exact LeO.none _
      | refine LeO.ite ?_ ?_
      | refine LeO.bind ?_ (fun _ => ?_)
theorem regletref16_Delete.mono : ∀ a0 a1 a2 a3 a4 k, LeO (regletref16_Delete.f k a0 a1 a2 a3 a4) (regletref16_Delete.f (k + 1) a0 a1 a2 a3 a4) := by
  intro a0 a1 a2 a3 a4 k
  obtain ⟨ih0, ih1⟩ := regletref16_Delete.mono_l k
  unfold regletref16_Delete.f
  repeat' first
      | (with_reducible exact ih0 _ _ _ _ _ _)
      | (with_reducible exact ih1 _ _ _ _ _ _ _)
      | (with_reducible exact LeO.refl _)
      | (with_reducible exact LeO.none _)
      | (with_reducible refine LeO.ite ?_ ?_)
      | (with_reducible refine LeO.bind ?_ (fun _ => ?_))
      | exact ih0 _ _ _ _ _ _
      | exact ih1 _ _ _ _ _ _ _
      | exact LeO.none _
      | refine LeO.ite ?_ ?_
      | refine LeO.bind ?_ (fun _ => ?_)
def regletref16_find.l0 : Nat → Int → Int → Int → Int → List (S51) → Option (Int)
  | 0, _, _, _, _, _ => none
  | k + 1, x1, x5, x141000, x141001, x141002 => if x5 < (x141002.length : Int) then (if 0 ≤ x5 then (if ((rd_T51 x141002 x5).f0) = x1 then (some x5) else (regletref16_find.l0 k x1 (wrap64 (x5 + 1)) x141000 x141001 x141002)) else (none)) else (some (-1))
def regletref16_find.f (k : Nat) (a0_0 : Int) (a0_1 : Int) (l0_2 : List (S51)) (a1 : Int) : Option (Int) := regletref16_find.l0 k a1 0 a0_0 a0_1 l0_2
theorem regletref16_find.mono_l : ∀ k, (∀ y0 y1 y2 y3 y4, LeO (regletref16_find.l0 k y0 y1 y2 y3 y4) (regletref16_find.l0 (k + 1) y0 y1 y2 y3 y4))
  | 0 => fun _ _ _ _ _ r h => by simp [regletref16_find.l0] at h
  | k + 1 => by
    have ih0 := regletref16_find.mono_l k
    · intro y0 y1 y2 y3 y4
      unfold regletref16_find.l0
      repeat' first
      | (with_reducible exact ih0 _ _ _ _ _)
      | (with_reducible exact LeO.refl _)
      | (with_reducible exact LeO.none _)
      | (with_reducible refine LeO.ite ?_ ?_)
      | (with_reducible refine LeO.bind ?_ (fun _ => ?_))
      | exact ih0 _ _ _ _ _
      | exact LeO.none _
      | refine LeO.ite ?_ ?_
      | refine LeO.bind ?_ (fun _ => ?_)
theorem regletref16_find.mono : ∀ a0 a1 a2 a3 k, LeO (regletref16_find.f k a0 a1 a2 a3) (regletref16_find.f (k + 1) a0 a1 a2 a3) := by
  intro a0 a1 a2 a3 k
  have ih0 := regletref16_find.mono_l k
  unfold regletref16_find.f
  repeat' first
      | (with_reducible exact ih0 _ _ _ _ _)
      | (with_reducible exact LeO.refl _)
      | (with_reducible exact LeO.none _)
      | (with_reducible refine LeO.ite ?_ ?_)
      | (with_reducible refine LeO.bind ?_ (fun _ => ?_))
      | exact ih0 _ _ _ _ _
      | exact LeO.none _
      | refine LeO.ite ?_ ?_
      | refine LeO.bind ?_ (fun _ => ?_)
def regletref16_Move.f (k : Nat) (a0_0 : Int) (a0_1 : Int) (l0_2 : List (S51)) (a1 : Int) (a2 : Int) : Option (Int × Int × (List (S51)) × Int) := (regletref16_find.f k a0_0 a0_1 l0_2 a1).bind fun t144 => (if t144 < 0 then (some (a0_0, a0_1, l0_2, 160)) else (if a2 < 0 then (some (a0_0, a0_1, l0_2, 30)) else (if a2 > a0_0 then (some (a0_0, a0_1, l0_2, 30)) else ((some (([] : List (S51)) : List (S51))).bind fun y145 => (if y145.length + l0_2.length < 5864062014805 then ((some (y145 ++ l0_2 : List (S51))).bind fun y148 => (if 0 ≤ t144 then (if t144 < (y148.length : Int) then (some (a0_0, a0_1, (y148.set (t144 : Int).toNat (⟨(rd_T51 y148 t144).f0, a2, (rd_T51 y148 t144).f2⟩ : S51)), 0)) else (none)) else (none))) else (none))))))
theorem regletref16_Move.mono : ∀ a0 a1 a2 a3 a4 k, LeO (regletref16_Move.f k a0 a1 a2 a3 a4) (regletref16_Move.f (k + 1) a0 a1 a2 a3 a4) := by
  intro a0 a1 a2 a3 a4 k
  unfold regletref16_Move.f
  repeat' first
      | (with_reducible exact regletref16_find.mono _ _ _ _ _)
      | (with_reducible exact LeO.refl _)
      | (with_reducible exact LeO.none _)
      | (with_reducible refine LeO.ite ?_ ?_)
      | (with_reducible refine LeO.bind ?_ (fun _ => ?_))
      | exact regletref16_find.mono _ _ _ _ _
      | exact LeO.none _
      | refine LeO.ite ?_ ?_
      | refine LeO.bind ?_ (fun _ => ?_)
def regletref16_Drop.l0 : Nat → Int → List (S51) → Int → Int → Int → List (S51) → Option (Int × Int × (List (S51)) × Int)
  | 0, _, _, _, _, _, _ => none
  | k + 1, x6, x7, x8, x153000, x153001, x153002 => if x8 < (x153002.length : Int) then (if x8 = x6 then (regletref16_Drop.l0 k x6 x7 (wrap64 (x8 + 1)) x153000 x153001 x153002) else (if 0 ≤ x8 then (if x7.length < 5864062014805 then (regletref16_Drop.l0 k x6 (x7 ++ [(⟨(rd_T51 x153002 x8).f0, (rd_T51 x153002 x8).f1, (rd_T51 x153002 x8).f2⟩ : S51)]) (wrap64 (x8 + 1)) x153000 x153001 x153002) else (none)) else (none))) else (some (x153000, x153001, x7, 0))
def regletref16_Drop.f (k : Nat) (a0_0 : Int) (a0_1 : Int) (l0_2 : List (S51)) (a1 : Int) : Option (Int × Int × (List (S51)) × Int) := (regletref16_find.f k a0_0 a0_1 l0_2 a1).bind fun t154 => (if t154 < 0 then (some (a0_0, a0_1, l0_2, 160)) else (regletref16_Drop.l0 k t154 ([] : List (S51)) 0 a0_0 a0_1 l0_2))
theorem regletref16_Drop.mono_l : ∀ k, (∀ y0 y1 y2 y3 y4 y5, LeO (regletref16_Drop.l0 k y0 y1 y2 y3 y4 y5) (regletref16_Drop.l0 (k + 1) y0 y1 y2 y3 y4 y5))
  | 0 => fun _ _ _ _ _ _ r h => by simp [regletref16_Drop.l0] at h
  | k + 1 => by
    have ih0 := regletref16_Drop.mono_l k
    · intro y0 y1 y2 y3 y4 y5
      unfold regletref16_Drop.l0
      repeat' first
      | (with_reducible exact ih0 _ _ _ _ _ _)
      | (with_reducible exact regletref16_find.mono _ _ _ _ _)
      | (with_reducible exact LeO.refl _)
      | (with_reducible exact LeO.none _)
      | (with_reducible refine LeO.ite ?_ ?_)
      | (with_reducible refine LeO.bind ?_ (fun _ => ?_))
      | exact ih0 _ _ _ _ _ _
      | exact regletref16_find.mono _ _ _ _ _
      | exact LeO.none _
      | refine LeO.ite ?_ ?_
      | refine LeO.bind ?_ (fun _ => ?_)
theorem regletref16_Drop.mono : ∀ a0 a1 a2 a3 k, LeO (regletref16_Drop.f k a0 a1 a2 a3) (regletref16_Drop.f (k + 1) a0 a1 a2 a3) := by
  intro a0 a1 a2 a3 k
  have ih0 := regletref16_Drop.mono_l k
  unfold regletref16_Drop.f
  repeat' first
      | (with_reducible exact ih0 _ _ _ _ _ _)
      | (with_reducible exact regletref16_find.mono _ _ _ _ _)
      | (with_reducible exact LeO.refl _)
      | (with_reducible exact LeO.none _)
      | (with_reducible refine LeO.ite ?_ ?_)
      | (with_reducible refine LeO.bind ?_ (fun _ => ?_))
      | exact ih0 _ _ _ _ _ _
      | exact regletref16_find.mono _ _ _ _ _
      | exact LeO.none _
      | refine LeO.ite ?_ ?_
      | refine LeO.bind ?_ (fun _ => ?_)
def regletlaw16_size.f (a0 : Int) : Option (Bool) := if a0 ≥ 0 then (some (decide (a0 ≤ 65536))) else (some false)
def bits_Len32.f (a0 : Int) : Option (Int) := if a0 ≥ 65536 then (if (a0 / 65536) ≥ 256 then (if 0 ≤ (((a0 / 65536) / 256) % 256) then (if (((a0 / 65536) / 256) % 256) < 256 then (some (wrap64 ((16 + 8) + (wrap64 (bt (⟨#[0, 1, 2, 2, 3, 3, 3, 3, 4, 4, 4, 4, 4, 4, 4, 4, 5, 5, 5, 5, 5, 5, 5, 5, 5, 5, 5, 5, 5, 5, 5, 5, 6, 6, 6, 6, 6, 6, 6, 6, 6, 6, 6, 6, 6, 6, 6, 6, 6, 6, 6, 6, 6, 6, 6, 6, 6, 6, 6, 6, 6, 6, 6, 6, 7, 7, 7, 7, 7, 7, 7, 7, 7, 7, 7, 7, 7, 7, 7, 7, 7, 7, 7, 7, 7, 7, 7, 7, 7, 7, 7, 7, 7, 7, 7, 7, 7, 7, 7, 7, 7, 7, 7, 7, 7, 7, 7, 7, 7, 7, 7, 7, 7, 7, 7, 7, 7, 7, 7, 7, 7, 7, 7, 7, 7, 7, 7, 7, 8, 8, 8, 8, 8, 8, 8, 8, 8, 8, 8, 8, 8, 8, 8, 8, 8, 8, 8, 8, 8, 8, 8, 8, 8, 8, 8, 8, 8, 8, 8, 8, 8, 8, 8, 8, 8, 8, 8, 8, 8, 8, 8, 8, 8, 8, 8, 8, 8, 8, 8, 8, 8, 8, 8, 8, 8, 8, 8, 8, 8, 8, 8, 8, 8, 8, 8, 8, 8, 8, 8, 8, 8, 8, 8, 8, 8, 8, 8, 8, 8, 8, 8, 8, 8, 8, 8, 8, 8, 8, 8, 8, 8, 8, 8, 8, 8, 8, 8, 8, 8, 8, 8, 8, 8, 8, 8, 8, 8, 8, 8, 8, 8, 8, 8, 8, 8, 8, 8, 8, 8, 8, 8, 8, 8, 8, 8, 8]⟩ : ByteArray) (((a0 / 65536) / 256) % 256)))))) else (none)) else (none)) else (if 0 ≤ ((a0 / 65536) % 256) then (if ((a0 / 65536) % 256) < 256 then (some (wrap64 (16 + (wrap64 (bt (⟨#[0, 1, 2, 2, 3, 3, 3, 3, 4, 4, 4, 4, 4, 4, 4, 4, 5, 5, 5, 5, 5, 5, 5, 5, 5, 5, 5, 5, 5, 5, 5, 5, 6, 6, 6, 6, 6, 6, 6, 6, 6, 6, 6, 6, 6, 6, 6, 6, 6, 6, 6, 6, 6, 6, 6, 6, 6, 6, 6, 6, 6, 6, 6, 6, 7, 7, 7, 7, 7, 7, 7, 7, 7, 7, 7, 7, 7, 7, 7, 7, 7, 7, 7, 7, 7, 7, 7, 7, 7, 7, 7, 7, 7, 7, 7, 7, 7, 7, 7, 7, 7, 7, 7, 7, 7, 7, 7, 7, 7, 7, 7, 7, 7, 7, 7, 7, 7, 7, 7, 7, 7, 7, 7, 7, 7, 7, 7, 7, 8, 8, 8, 8, 8, 8, 8, 8, 8, 8, 8, 8, 8, 8, 8, 8, 8, 8, 8, 8, 8, 8, 8, 8, 8, 8, 8, 8, 8, 8, 8, 8, 8, 8, 8, 8, 8, 8, 8, 8, 8, 8, 8, 8, 8, 8, 8, 8, 8, 8, 8, 8, 8, 8, 8, 8, 8, 8, 8, 8, 8, 8, 8, 8, 8, 8, 8, 8, 8, 8, 8, 8, 8, 8, 8, 8, 8, 8, 8, 8, 8, 8, 8, 8, 8, 8, 8, 8, 8, 8, 8, 8, 8, 8, 8, 8, 8, 8, 8, 8, 8, 8, 8, 8, 8, 8, 8, 8, 8, 8, 8, 8, 8, 8, 8, 8, 8, 8, 8, 8, 8, 8, 8, 8, 8, 8, 8, 8]⟩ : ByteArray) ((a0 / 65536) % 256)))))) else (none)) else (none))) else (if a0 ≥ 256 then (if 0 ≤ ((a0 / 256) % 256) then (if ((a0 / 256) % 256) < 256 then (some (wrap64 ((0 + 8) + (wrap64 (bt (⟨#[0, 1, 2, 2, 3, 3, 3, 3, 4, 4, 4, 4, 4, 4, 4, 4, 5, 5, 5, 5, 5, 5, 5, 5, 5, 5, 5, 5, 5, 5, 5, 5, 6, 6, 6, 6, 6, 6, 6, 6, 6, 6, 6, 6, 6, 6, 6, 6, 6, 6, 6, 6, 6, 6, 6, 6, 6, 6, 6, 6, 6, 6, 6, 6, 7, 7, 7, 7, 7, 7, 7, 7, 7, 7, 7, 7, 7, 7, 7, 7, 7, 7, 7, 7, 7, 7, 7, 7, 7, 7, 7, 7, 7, 7, 7, 7, 7, 7, 7, 7, 7, 7, 7, 7, 7, 7, 7, 7, 7, 7, 7, 7, 7, 7, 7, 7, 7, 7, 7, 7, 7, 7, 7, 7, 7, 7, 7, 7, 8, 8, 8, 8, 8, 8, 8, 8, 8, 8, 8, 8, 8, 8, 8, 8, 8, 8, 8, 8, 8, 8, 8, 8, 8, 8, 8, 8, 8, 8, 8, 8, 8, 8, 8, 8, 8, 8, 8, 8, 8, 8, 8, 8, 8, 8, 8, 8, 8, 8, 8, 8, 8, 8, 8, 8, 8, 8, 8, 8, 8, 8, 8, 8, 8, 8, 8, 8, 8, 8, 8, 8, 8, 8, 8, 8, 8, 8, 8, 8, 8, 8, 8, 8, 8, 8, 8, 8, 8, 8, 8, 8, 8, 8, 8, 8, 8, 8, 8, 8, 8, 8, 8, 8, 8, 8, 8, 8, 8, 8, 8, 8, 8, 8, 8, 8, 8, 8, 8, 8, 8, 8, 8, 8, 8, 8, 8, 8]⟩ : ByteArray) ((a0 / 256) % 256)))))) else (none)) else (none)) else (if 0 ≤ ((a0) % 256) then (if ((a0) % 256) < 256 then (some (wrap64 (0 + (wrap64 (bt (⟨#[0, 1, 2, 2, 3, 3, 3, 3, 4, 4, 4, 4, 4, 4, 4, 4, 5, 5, 5, 5, 5, 5, 5, 5, 5, 5, 5, 5, 5, 5, 5, 5, 6, 6, 6, 6, 6, 6, 6, 6, 6, 6, 6, 6, 6, 6, 6, 6, 6, 6, 6, 6, 6, 6, 6, 6, 6, 6, 6, 6, 6, 6, 6, 6, 7, 7, 7, 7, 7, 7, 7, 7, 7, 7, 7, 7, 7, 7, 7, 7, 7, 7, 7, 7, 7, 7, 7, 7, 7, 7, 7, 7, 7, 7, 7, 7, 7, 7, 7, 7, 7, 7, 7, 7, 7, 7, 7, 7, 7, 7, 7, 7, 7, 7, 7, 7, 7, 7, 7, 7, 7, 7, 7, 7, 7, 7, 7, 7, 8, 8, 8, 8, 8, 8, 8, 8, 8, 8, 8, 8, 8, 8, 8, 8, 8, 8, 8, 8, 8, 8, 8, 8, 8, 8, 8, 8, 8, 8, 8, 8, 8, 8, 8, 8, 8, 8, 8, 8, 8, 8, 8, 8, 8, 8, 8, 8, 8, 8, 8, 8, 8, 8, 8, 8, 8, 8, 8, 8, 8, 8, 8, 8, 8, 8, 8, 8, 8, 8, 8, 8, 8, 8, 8, 8, 8, 8, 8, 8, 8, 8, 8, 8, 8, 8, 8, 8, 8, 8, 8, 8, 8, 8, 8, 8, 8, 8, 8, 8, 8, 8, 8, 8, 8, 8, 8, 8, 8, 8, 8, 8, 8, 8, 8, 8, 8, 8, 8, 8, 8, 8, 8, 8, 8, 8, 8, 8]⟩ : ByteArray) ((a0) % 256)))))) else (none)) else (none)))
def bits_Len64.j0 : Nat → Int → Int → Option (Int)
  | 0, _, _ => none
  | k + 1, x0, x2 => if x0 ≥ 65536 then (if (x0 / 65536) ≥ 256 then (if 0 ≤ (((x0 / 65536) / 256) % 256) then (if (((x0 / 65536) / 256) % 256) < 256 then (some (wrap64 ((wrap64 ((wrap64 (x2 + 16)) + 8)) + (wrap64 (bt (⟨#[0, 1, 2, 2, 3, 3, 3, 3, 4, 4, 4, 4, 4, 4, 4, 4, 5, 5, 5, 5, 5, 5, 5, 5, 5, 5, 5, 5, 5, 5, 5, 5, 6, 6, 6, 6, 6, 6, 6, 6, 6, 6, 6, 6, 6, 6, 6, 6, 6, 6, 6, 6, 6, 6, 6, 6, 6, 6, 6, 6, 6, 6, 6, 6, 7, 7, 7, 7, 7, 7, 7, 7, 7, 7, 7, 7, 7, 7, 7, 7, 7, 7, 7, 7, 7, 7, 7, 7, 7, 7, 7, 7, 7, 7, 7, 7, 7, 7, 7, 7, 7, 7, 7, 7, 7, 7, 7, 7, 7, 7, 7, 7, 7, 7, 7, 7, 7, 7, 7, 7, 7, 7, 7, 7, 7, 7, 7, 7, 8, 8, 8, 8, 8, 8, 8, 8, 8, 8, 8, 8, 8, 8, 8, 8, 8, 8, 8, 8, 8, 8, 8, 8, 8, 8, 8, 8, 8, 8, 8, 8, 8, 8, 8, 8, 8, 8, 8, 8, 8, 8, 8, 8, 8, 8, 8, 8, 8, 8, 8, 8, 8, 8, 8, 8, 8, 8, 8, 8, 8, 8, 8, 8, 8, 8, 8, 8, 8, 8, 8, 8, 8, 8, 8, 8, 8, 8, 8, 8, 8, 8, 8, 8, 8, 8, 8, 8, 8, 8, 8, 8, 8, 8, 8, 8, 8, 8, 8, 8, 8, 8, 8, 8, 8, 8, 8, 8, 8, 8, 8, 8, 8, 8, 8, 8, 8, 8, 8, 8, 8, 8, 8, 8, 8, 8, 8, 8]⟩ : ByteArray) (((x0 / 65536) / 256) % 256)))))) else (none)) else (none)) else (if 0 ≤ ((x0 / 65536) % 256) then (if ((x0 / 65536) % 256) < 256 then (some (wrap64 ((wrap64 (x2 + 16)) + (wrap64 (bt (⟨#[0, 1, 2, 2, 3, 3, 3, 3, 4, 4, 4, 4, 4, 4, 4, 4, 5, 5, 5, 5, 5, 5, 5, 5, 5, 5, 5, 5, 5, 5, 5, 5, 6, 6, 6, 6, 6, 6, 6, 6, 6, 6, 6, 6, 6, 6, 6, 6, 6, 6, 6, 6, 6, 6, 6, 6, 6, 6, 6, 6, 6, 6, 6, 6, 7, 7, 7, 7, 7, 7, 7, 7, 7, 7, 7, 7, 7, 7, 7, 7, 7, 7, 7, 7, 7, 7, 7, 7, 7, 7, 7, 7, 7, 7, 7, 7, 7, 7, 7, 7, 7, 7, 7, 7, 7, 7, 7, 7, 7, 7, 7, 7, 7, 7, 7, 7, 7, 7, 7, 7, 7, 7, 7, 7, 7, 7, 7, 7, 8, 8, 8, 8, 8, 8, 8, 8, 8, 8, 8, 8, 8, 8, 8, 8, 8, 8, 8, 8, 8, 8, 8, 8, 8, 8, 8, 8, 8, 8, 8, 8, 8, 8, 8, 8, 8, 8, 8, 8, 8, 8, 8, 8, 8, 8, 8, 8, 8, 8, 8, 8, 8, 8, 8, 8, 8, 8, 8, 8, 8, 8, 8, 8, 8, 8, 8, 8, 8, 8, 8, 8, 8, 8, 8, 8, 8, 8, 8, 8, 8, 8, 8, 8, 8, 8, 8, 8, 8, 8, 8, 8, 8, 8, 8, 8, 8, 8, 8, 8, 8, 8, 8, 8, 8, 8, 8, 8, 8, 8, 8, 8, 8, 8, 8, 8, 8, 8, 8, 8, 8, 8, 8, 8, 8, 8, 8, 8]⟩ : ByteArray) ((x0 / 65536) % 256)))))) else (none)) else (none))) else (if x0 ≥ 256 then (if 0 ≤ ((x0 / 256) % 256) then (if ((x0 / 256) % 256) < 256 then (some (wrap64 ((wrap64 (x2 + 8)) + (wrap64 (bt (⟨#[0, 1, 2, 2, 3, 3, 3, 3, 4, 4, 4, 4, 4, 4, 4, 4, 5, 5, 5, 5, 5, 5, 5, 5, 5, 5, 5, 5, 5, 5, 5, 5, 6, 6, 6, 6, 6, 6, 6, 6, 6, 6, 6, 6, 6, 6, 6, 6, 6, 6, 6, 6, 6, 6, 6, 6, 6, 6, 6, 6, 6, 6, 6, 6, 7, 7, 7, 7, 7, 7, 7, 7, 7, 7, 7, 7, 7, 7, 7, 7, 7, 7, 7, 7, 7, 7, 7, 7, 7, 7, 7, 7, 7, 7, 7, 7, 7, 7, 7, 7, 7, 7, 7, 7, 7, 7, 7, 7, 7, 7, 7, 7, 7, 7, 7, 7, 7, 7, 7, 7, 7, 7, 7, 7, 7, 7, 7, 7, 8, 8, 8, 8, 8, 8, 8, 8, 8, 8, 8, 8, 8, 8, 8, 8, 8, 8, 8, 8, 8, 8, 8, 8, 8, 8, 8, 8, 8, 8, 8, 8, 8, 8, 8, 8, 8, 8, 8, 8, 8, 8, 8, 8, 8, 8, 8, 8, 8, 8, 8, 8, 8, 8, 8, 8, 8, 8, 8, 8, 8, 8, 8, 8, 8, 8, 8, 8, 8, 8, 8, 8, 8, 8, 8, 8, 8, 8, 8, 8, 8, 8, 8, 8, 8, 8, 8, 8, 8, 8, 8, 8, 8, 8, 8, 8, 8, 8, 8, 8, 8, 8, 8, 8, 8, 8, 8, 8, 8, 8, 8, 8, 8, 8, 8, 8, 8, 8, 8, 8, 8, 8, 8, 8, 8, 8, 8, 8]⟩ : ByteArray) ((x0 / 256) % 256)))))) else (none)) else (none)) else (if 0 ≤ ((x0) % 256) then (if ((x0) % 256) < 256 then (some (wrap64 (x2 + (wrap64 (bt (⟨#[0, 1, 2, 2, 3, 3, 3, 3, 4, 4, 4, 4, 4, 4, 4, 4, 5, 5, 5, 5, 5, 5, 5, 5, 5, 5, 5, 5, 5, 5, 5, 5, 6, 6, 6, 6, 6, 6, 6, 6, 6, 6, 6, 6, 6, 6, 6, 6, 6, 6, 6, 6, 6, 6, 6, 6, 6, 6, 6, 6, 6, 6, 6, 6, 7, 7, 7, 7, 7, 7, 7, 7, 7, 7, 7, 7, 7, 7, 7, 7, 7, 7, 7, 7, 7, 7, 7, 7, 7, 7, 7, 7, 7, 7, 7, 7, 7, 7, 7, 7, 7, 7, 7, 7, 7, 7, 7, 7, 7, 7, 7, 7, 7, 7, 7, 7, 7, 7, 7, 7, 7, 7, 7, 7, 7, 7, 7, 7, 8, 8, 8, 8, 8, 8, 8, 8, 8, 8, 8, 8, 8, 8, 8, 8, 8, 8, 8, 8, 8, 8, 8, 8, 8, 8, 8, 8, 8, 8, 8, 8, 8, 8, 8, 8, 8, 8, 8, 8, 8, 8, 8, 8, 8, 8, 8, 8, 8, 8, 8, 8, 8, 8, 8, 8, 8, 8, 8, 8, 8, 8, 8, 8, 8, 8, 8, 8, 8, 8, 8, 8, 8, 8, 8, 8, 8, 8, 8, 8, 8, 8, 8, 8, 8, 8, 8, 8, 8, 8, 8, 8, 8, 8, 8, 8, 8, 8, 8, 8, 8, 8, 8, 8, 8, 8, 8, 8, 8, 8, 8, 8, 8, 8, 8, 8, 8, 8, 8, 8, 8, 8, 8, 8, 8, 8, 8, 8]⟩ : ByteArray) ((x0) % 256)))))) else (none)) else (none)))
def bits_Len64.f (k : Nat) (a0 : Int) : Option (Int) := if a0 ≥ 4294967296 then (bits_Len64.j0 k (a0 / 4294967296) 32) else (bits_Len64.j0 k a0 0)
theorem bits_Len64.mono_l : ∀ k, (∀ y0 y1, LeO (bits_Len64.j0 k y0 y1) (bits_Len64.j0 (k + 1) y0 y1))
  | 0 => fun _ _ r h => by simp [bits_Len64.j0] at h
  | k + 1 => by
    have ih0 := bits_Len64.mono_l k
    · intro y0 y1
      unfold bits_Len64.j0
      repeat' first
      | (with_reducible exact ih0 _ _)
      | (with_reducible exact LeO.refl _)
      | (with_reducible exact LeO.none _)
      | (with_reducible refine LeO.ite ?_ ?_)
      | (with_reducible refine LeO.bind ?_ (fun _ => ?_))
      | exact ih0 _ _
      | exact LeO.none _
      | refine LeO.ite ?_ ?_
      | refine LeO.bind ?_ (fun _ => ?_)
theorem bits_Len64.mono : ∀ a0 k, LeO (bits_Len64.f k a0) (bits_Len64.f (k + 1) a0) := by
  intro a0 k
  have ih0 := bits_Len64.mono_l k
  unfold bits_Len64.f
  repeat' first
      | (with_reducible exact ih0 _ _)
      | (with_reducible exact LeO.refl _)
      | (with_reducible exact LeO.none _)
      | (with_reducible refine LeO.ite ?_ ?_)
      | (with_reducible refine LeO.bind ?_ (fun _ => ?_))
      | exact ih0 _ _
      | exact LeO.none _
      | refine LeO.ite ?_ ?_
      | refine LeO.bind ?_ (fun _ => ?_)
def bits_Len.f (k : Nat) (a0 : Int) : Option (Int) := (bits_Len64.f k a0).bind fun t174 => (some t174)
theorem bits_Len.mono : ∀ a0 k, LeO (bits_Len.f k a0) (bits_Len.f (k + 1) a0) := by
  intro a0 k
  unfold bits_Len.f
  repeat' first
      | (with_reducible exact bits_Len64.mono _ _)
      | (with_reducible exact LeO.refl _)
      | (with_reducible exact LeO.none _)
      | (with_reducible refine LeO.ite ?_ ?_)
      | (with_reducible refine LeO.bind ?_ (fun _ => ?_))
      | exact bits_Len64.mono _ _
      | exact LeO.none _
      | refine LeO.ite ?_ ?_
      | refine LeO.bind ?_ (fun _ => ?_)
def slices_nextPowerOfTwo.f (k : Nat) (a0 : Int) : Option (Int) := (bits_Len.f k (IntKind.u64.wrap (a0))).bind fun t175 => (if 0 ≤ t175 then (some (shl .u64 1 t175)) else (none))
theorem slices_nextPowerOfTwo.mono : ∀ a0 k, LeO (slices_nextPowerOfTwo.f k a0) (slices_nextPowerOfTwo.f (k + 1) a0) := by
  intro a0 k
  unfold slices_nextPowerOfTwo.f
  repeat' first
      | (with_reducible exact bits_Len.mono _ _)
      | (with_reducible exact LeO.refl _)
      | (with_reducible exact LeO.none _)
      | (with_reducible refine LeO.ite ?_ ?_)
      | (with_reducible refine LeO.bind ?_ (fun _ => ?_))
      | exact bits_Len.mono _ _
      | exact LeO.none _
      | refine LeO.ite ?_ ?_
      | refine LeO.bind ?_ (fun _ => ?_)
def regletref16_Get.f (k : Nat) (a0_0 : Int) (a0_1 : Int) (l0_2 : List (S51)) (a1 : Int) : Option (Int × Int × Bool × Int) := (regletref16_find.f k a0_0 a0_1 l0_2 a1).bind fun t178 => (if t178 < 0 then (some (0, 0, false, 160)) else (if 0 ≤ t178 then (if t178 < (l0_2.length : Int) then (some ((rd_T51 l0_2 t178).f0, (rd_T51 l0_2 t178).f1, (rd_T51 l0_2 t178).f2, 0)) else (none)) else (none)))
theorem regletref16_Get.mono : ∀ a0 a1 a2 a3 k, LeO (regletref16_Get.f k a0 a1 a2 a3) (regletref16_Get.f (k + 1) a0 a1 a2 a3) := by
  intro a0 a1 a2 a3 k
  unfold regletref16_Get.f
  repeat' first
      | (with_reducible exact regletref16_find.mono _ _ _ _ _)
      | (with_reducible exact LeO.refl _)
      | (with_reducible exact LeO.none _)
      | (with_reducible refine LeO.ite ?_ ?_)
      | (with_reducible refine LeO.bind ?_ (fun _ => ?_))
      | exact regletref16_find.mono _ _ _ _ _
      | exact LeO.none _
      | refine LeO.ite ?_ ?_
      | refine LeO.bind ?_ (fun _ => ?_)
mutual
def regletref16_All.l0 : Nat → List (S51) → Int → Int → Int → List (S51) → Option ((List (S51)))
  | 0, _, _, _, _, _ => none
  | k + 1, x3, x4, x181000, x181001, x181002 => if x4 < (x181002.length : Int) then (regletref16_All.l1 k x3 x4 0 x181000 x181001 x181002) else (some x3)
def regletref16_All.l1 : Nat → List (S51) → Int → Int → Int → Int → List (S51) → Option ((List (S51)))
  | 0, _, _, _, _, _, _ => none
  | k + 1, x3, x4, x5, x181000, x181001, x181002 => if x5 < (x3.length : Int) then (if 0 ≤ x5 then (if 0 ≤ x4 then (if x4 < (x181002.length : Int) then (if ((rd_T51 x3 x5).f1) < ((rd_T51 x181002 x4).f1) then (regletref16_All.l1 k x3 x4 (wrap64 (x5 + 1)) x181000 x181001 x181002) else (if ((rd_T51 x3 x5).f1) = ((rd_T51 x181002 x4).f1) then (if ((rd_T51 x3 x5).f0) < ((rd_T51 x181002 x4).f0) then (regletref16_All.l1 k x3 x4 (wrap64 (x5 + 1)) x181000 x181001 x181002) else ((some (([] : List (S51)) : List (S51))).bind fun y187 => (if x5 ≤ (x3.length : Int) then ((some (x3.drop (x5 : Int).toNat : List (S51))).bind fun y190 => (if y187.length + y190.length < 5864062014805 then ((some (y187 ++ y190 : List (S51))).bind fun y194 => ((some (x3.take (x5 : Int).toNat : List (S51))).bind fun y197 => (if y197.length < 5864062014805 then ((some (y197 ++ [(⟨(rd_T51 x181002 x4).f0, (rd_T51 x181002 x4).f1, (rd_T51 x181002 x4).f2⟩ : S51)] : List (S51))).bind fun y201 => (if y201.length + y194.length < 5864062014805 then (regletref16_All.l0 k (y201 ++ y194) (wrap64 (x4 + 1)) x181000 x181001 x181002) else (none))) else (none)))) else (none))) else (none)))) else ((some (([] : List (S51)) : List (S51))).bind fun y207 => (if x5 ≤ (x3.length : Int) then ((some (x3.drop (x5 : Int).toNat : List (S51))).bind fun y210 => (if y207.length + y210.length < 5864062014805 then ((some (y207 ++ y210 : List (S51))).bind fun y214 => ((some (x3.take (x5 : Int).toNat : List (S51))).bind fun y217 => (if y217.length < 5864062014805 then ((some (y217 ++ [(⟨(rd_T51 x181002 x4).f0, (rd_T51 x181002 x4).f1, (rd_T51 x181002 x4).f2⟩ : S51)] : List (S51))).bind fun y221 => (if y221.length + y214.length < 5864062014805 then (regletref16_All.l0 k (y221 ++ y214) (wrap64 (x4 + 1)) x181000 x181001 x181002) else (none))) else (none)))) else (none))) else (none))))) else (none)) else (none)) else (none)) else ((some (([] : List (S51)) : List (S51))).bind fun y227 => (if 0 ≤ x5 then (if x5 ≤ (x3.length : Int) then ((some (x3.drop (x5 : Int).toNat : List (S51))).bind fun y230 => (if y227.length + y230.length < 5864062014805 then ((some (y227 ++ y230 : List (S51))).bind fun y234 => ((some (x3.take (x5 : Int).toNat : List (S51))).bind fun y237 => (if 0 ≤ x4 then (if x4 < (x181002.length : Int) then (if y237.length < 5864062014805 then ((some (y237 ++ [(⟨(rd_T51 x181002 x4).f0, (rd_T51 x181002 x4).f1, (rd_T51 x181002 x4).f2⟩ : S51)] : List (S51))).bind fun y241 => (if y241.length + y234.length < 5864062014805 then (regletref16_All.l0 k (y241 ++ y234) (wrap64 (x4 + 1)) x181000 x181001 x181002) else (none))) else (none)) else (none)) else (none)))) else (none))) else (none)) else (none)))
end
def regletref16_All.f (k : Nat) (a0_0 : Int) (a0_1 : Int) (l0_2 : List (S51)) : Option ((List (S51))) := regletref16_All.l0 k ([] : List (S51)) 0 a0_0 a0_1 l0_2
theorem regletref16_All.mono_l : ∀ k, (∀ y0 y1 y2 y3 y4, LeO (regletref16_All.l0 k y0 y1 y2 y3 y4) (regletref16_All.l0 (k + 1) y0 y1 y2 y3 y4)) ∧ (∀ y0 y1 y2 y3 y4 y5, LeO (regletref16_All.l1 k y0 y1 y2 y3 y4 y5) (regletref16_All.l1 (k + 1) y0 y1 y2 y3 y4 y5))
  | 0 => ⟨fun _ _ _ _ _ r h => by simp [regletref16_All.l0] at h, fun _ _ _ _ _ _ r h => by simp [regletref16_All.l1] at h⟩
  | k + 1 => by
    obtain ⟨ih0, ih1⟩ := regletref16_All.mono_l k
    refine ⟨?_, ?_⟩
    · intro y0 y1 y2 y3 y4
      unfold regletref16_All.l0
      repeat' first
      | (with_reducible exact ih0 _ _ _ _ _)
      | (with_reducible exact ih1 _ _ _ _ _ _)
      | (with_reducible exact LeO.refl _)
      | (with_reducible exact LeO.none _)
      | (with_reducible refine LeO.ite ?_ ?_)
      | (with_reducible refine LeO.bind ?_ (fun _ => ?_))
      | exact ih0 _ _ _ _ _
      | exact ih1 _ _ _ _ _ _
      | exact LeO.none _
      | refine LeO.ite ?_ ?_
      | refine LeO.bind ?_ (fun _ => ?_)
    · intro y0 y1 y2 y3 y4 y5
      unfold regletref16_All.l1
      repeat' first
      | (with_reducible exact ih0 _ _ _ _ _)
      | (with_reducible exact ih1 _ _ _ _ _ _)
      | (with_reducible exact LeO.refl _)
      | (with_reducible exact LeO.none _)
      | (with_reducible refine LeO.ite ?_ ?_)
      | (with_reducible refine LeO.bind ?_ (fun _ => ?_))
      | exact ih0 _ _ _ _ _
      | exact ih1 _ _ _ _ _ _
      | exact LeO.none _
      | refine LeO.ite ?_ ?_
      | refine LeO.bind ?_ (fun _ => ?_)
theorem regletref16_All.mono : ∀ a0 a1 a2 k, LeO (regletref16_All.f k a0 a1 a2) (regletref16_All.f (k + 1) a0 a1 a2) := by
  intro a0 a1 a2 k
  obtain ⟨ih0, ih1⟩ := regletref16_All.mono_l k
  unfold regletref16_All.f
  repeat' first
      | (with_reducible exact ih0 _ _ _ _ _)
      | (with_reducible exact ih1 _ _ _ _ _ _)
      | (with_reducible exact LeO.refl _)
      | (with_reducible exact LeO.none _)
      | (with_reducible refine LeO.ite ?_ ?_)
      | (with_reducible refine LeO.bind ?_ (fun _ => ?_))
      | exact ih0 _ _ _ _ _
      | exact ih1 _ _ _ _ _ _
      | exact LeO.none _
      | refine LeO.ite ?_ ?_
      | refine LeO.bind ?_ (fun _ => ?_)
def regletref16_All.T6 : Bool × List (List Nat × List Nat) := (true, [([], []), ([], []), ([1], [1]), ([0, 2], [0, 2]), ([3], [3]), ([4], [4]), ([4], [4]), ([5, 6, 4], [4, 5, 6]), ([7, 4], [4, 7]), ([8, 4], [4, 8]), ([4], [4]), ([10, 4], [4, 10]), ([4], [4]), ([11, 12, 4], [4, 11, 12]), ([13, 4], [4, 13]), ([14, 4], [4, 14]), ([9, 15, 4], [4, 9, 15]), ([16, 4, 4], [4, 16]), ([17], [17]), ([17], [17]), ([18, 19, 17], [17, 18, 19]), ([20, 17], [17, 20]), ([21, 17], [17, 21]), ([17], [17]), ([23, 17], [17, 23]), ([17], [17]), ([24, 25, 17], [17, 24, 25]), ([26, 17], [17, 26]), ([27, 17], [17, 27]), ([22, 28, 17], [17, 22, 28]), ([29, 17, 17], [17, 29]), ([30], [30]), ([30], [30]), ([31, 32, 30], [30, 31, 32]), ([33, 30], [30, 33]), ([34, 30], [30, 34]), ([30], [30]), ([36, 30], [30, 36]), ([30], [30]), ([37, 38, 30], [30, 37, 38]), ([39, 30], [30, 39]), ([40, 30], [30, 40]), ([35, 41, 30], [30, 35, 41]), ([30, 42, 17], [17, 30, 42]), ([17, 43, 4], [4, 17, 43]), ([4, 44], [4, 44])])
def regletref16_All.B6 : List Nat := [0, 0, 2, 7, 15, 31, 31, 127, 255, 511, 31, 1055, 31, 7199, 15391, 31775, 65535, 131071, 262143, 262143, 1048575, 2097151, 4194303, 262143, 8650751, 262143, 58982399, 126091263, 260308991, 536870911, 1073741823, 2147483647, 2147483647, 8589934591, 17179869183, 34359738367, 2147483647, 70866960383, 2147483647, 483183820799, 1032939634687, 2132451262463, 4398046511103, 8796093022207, 17592186044415, 35184372088831]
def regletref16_All.T9 : Bool × List (List Nat × List Nat) := (true, [([], []), ([], []), ([0, 1], [0, 1]), ([], []), ([3], [3]), ([], []), ([4, 5], [4, 5]), ([6], [6]), ([7], [7]), ([2, 8], [2, 8]), ([9, 9, 0, 1, 2, 3, 4, 5, 6, 7, 8, 9], [0, 9])])
def regletref16_All.B9 : List Nat := [0, 0, 3, 0, 8, 0, 56, 120, 248, 511, 1023]
-- By hand
-- include MarksPlayed
-- include MarksSet
/-! By hand: the models of the marks' calls: what they hand back, then the set as it is then. -/
-- lent 61
-- hand slices_Delete
-- drop marks_Set_Size
-- drop marks_Set_Count
-- fn slices_IndexFunc 1 (*reglet/marks.Set).find$1
-- sort slices.SortFunc[ markSort_ok
structure S34 where
  f0 : Int
  f1 : Int
  f2 : Int
  f3 : Bool
def z34 : S34 := ⟨(0 : Int), (0 : Int), (0 : Int), false⟩
def rd_T34 (xs : List S34) (i : Int) : S34 := xs.getD i.toNat z34
/-- Marks by their places, then by their numbers. -/
def markLt (x y : S46) : Bool := decide (x.f1 < y.f1 ∨ x.f1 = y.f1 ∧ x.f0 < y.f0)
def markSort (l : List (S46)) : List (S46) := l.mergeSort (fun x y => !markLt y x)
def marksOk (l : List (S46)) : Prop := l.length < 4611686018427387904 ∧ (∀ x ∈ l, 0 ≤ x.f0 ∧ x.f0 < 4611686018427387904 ∧ 0 ≤ x.f1 ∧ x.f1 < 4611686018427387904) ∧ l.Pairwise (fun x y => x.f0 ≠ y.f0)
instance : DecidablePred marksOk := fun l => by unfold marksOk; infer_instance
def marks_New.f (a0 : Int) : Option ((Option (Int × Int × (List (S46)))) × Int) := if a0 < 0 then (some (none, 1)) else (if a0 > 65536 then (some (none, 1)) else (some (some (a0, 0, ([] : List (S46))), 0)))
def marks_Set_Size.f (p0_0 : Int) (p0_1 : Int) (p0_2 : List (S46)) : Option (Int) := some p0_0
def marks_Set_Count.f (p0_0 : Int) (p0_1 : Int) (p0_2 : List (S46)) : Option (Int) := some (p0_2.length : Int)
def marks_Set_Put.f (p0_0 : Int) (p0_1 : Int) (p0_2 : List (S46)) (a1 : Int) (a2 : Bool) : Option (Int × Int × Int × Int × (List (S46))) := if a1 < 0 then (some (0, 30, p0_0, p0_1, p0_2)) else (if a1 > p0_0 then (some (0, 30, p0_0, p0_1, p0_2)) else (if (p0_2.length : Int) ≥ 1024 then (some (0, 2, p0_0, p0_1, p0_2)) else (some (wrap64 (p0_1 + 1), 0, p0_0, wrap64 (p0_1 + 1), p0_2 ++ [(⟨wrap64 (p0_1 + 1), a1, a2⟩ : S46)]))))
def marks_Set_find_1.f (a0_0 : Int) (a0_1 : Int) (a0_2 : Bool) (q1 : Int) : Option (Bool) := some (decide (a0_0 = q1))
def slices_IndexFunc.l0 : Nat → List (S46) → Int → Int → Int → Option (Int)
  | 0, _, _, _, _ => none
  | k + 1, x0, q1, x7, x8 => if x8 < x7 then (if 0 ≤ x8 then (if x8 < (x0.length : Int) then ((marks_Set_find_1.f ((rd_T46 x0 x8).f0) ((rd_T46 x0 x8).f1) ((rd_T46 x0 x8).f2) q1).bind fun t16 => (if t16 = true then (some x8) else (slices_IndexFunc.l0 k x0 q1 x7 (wrap64 (x8 + 1))))) else (none)) else (none)) else (some (-1))
def slices_IndexFunc.f (k : Nat) (l0 : List (S46)) (q1 : Int) : Option (Int) := slices_IndexFunc.l0 k l0 q1 (l0.length : Int) 0
def marks_Set_find.f (k : Nat) (p0_0 : Int) (p0_1 : Int) (p0_2 : List (S46)) (a1 : Int) : Option (Int) := (slices_IndexFunc.f k p0_2 a1).bind fun t10 => (some t10)
def marks_Set_Get.f (k : Nat) (p0_0 : Int) (p0_1 : Int) (p0_2 : List (S46)) (a1 : Int) : Option (Int × Int × Bool × Int) := (marks_Set_find.f k p0_0 p0_1 p0_2 a1).bind fun t9 => (if t9 < 0 then (some (0, 0, false, 160)) else (if t9 < (p0_2.length : Int) then (some ((rd_T46 p0_2 t9).f0, (rd_T46 p0_2 t9).f1, (rd_T46 p0_2 t9).f2, 0)) else (none)))
def marks_Set_Move.f (k : Nat) (p0_0 : Int) (p0_1 : Int) (p0_2 : List (S46)) (a1 : Int) (a2 : Int) : Option (Int × Int × Int × (List (S46))) := (marks_Set_find.f k p0_0 p0_1 p0_2 a1).bind fun t10 => (if t10 < 0 then (some (160, p0_0, p0_1, p0_2)) else (if a2 < 0 then (some (30, p0_0, p0_1, p0_2)) else (if a2 > p0_0 then (some (30, p0_0, p0_1, p0_2)) else (if t10 < (p0_2.length : Int) then (some (0, p0_0, p0_1, p0_2.set (t10 : Int).toNat (⟨(rd_T46 p0_2 t10).f0, a2, (rd_T46 p0_2 t10).f2⟩ : S46))) else (none)))))
def slices_Delete.f (o0 : List (S46)) (a1 : Int) (a2 : Int) : Option ((List (S46))) := if 0 ≤ a1 ∧ a1 < a2 ∧ a2 ≤ (o0.length : Int) then (some (o0.take a1.toNat ++ o0.drop a2.toNat)) else (none)
def marks_Set_Drop.f (k : Nat) (p0_0 : Int) (p0_1 : Int) (p0_2 : List (S46)) (a1 : Int) : Option (Int × Int × Int × (List (S46))) := (marks_Set_find.f k p0_0 p0_1 p0_2 a1).bind fun t8 => (if t8 < 0 then (some (160, p0_0, p0_1, p0_2)) else ((slices_Delete.f p0_2 t8 (wrap64 (t8 + 1))).bind fun t19 => (some (0, p0_0, p0_1, t19))))
def marks_Set_Insert.l0 : Nat → Int → Int → Int → Int → Int → Int → List (S46) → Option (Int × Int × Int × (List (S46)))
  | 0, _, _, _, _, _, _, _ => none
  | k + 1, x1, x2, x43, x44, x1000000_0, x1000000_1, x1000000_2 => if x44 < x43 then (if 0 ≤ x44 then (if x44 < (x1000000_2.length : Int) then (if ((rd_T46 x1000000_2 x44).f1) > x1 then (marks_Set_Insert.l0 k x1 x2 x43 (wrap64 (x44 + 1)) x1000000_0 x1000000_1 (x1000000_2.set (x44 : Int).toNat (⟨(rd_T46 x1000000_2 x44).f0, wrap64 (((rd_T46 x1000000_2 x44).f1) + x2), (rd_T46 x1000000_2 x44).f2⟩ : S46))) else (if ((rd_T46 x1000000_2 x44).f1) = x1 then (if ((rd_T46 x1000000_2 x44).f2) = true then (marks_Set_Insert.l0 k x1 x2 x43 (wrap64 (x44 + 1)) x1000000_0 x1000000_1 x1000000_2) else (marks_Set_Insert.l0 k x1 x2 x43 (wrap64 (x44 + 1)) x1000000_0 x1000000_1 (x1000000_2.set (x44 : Int).toNat (⟨(rd_T46 x1000000_2 x44).f0, wrap64 (((rd_T46 x1000000_2 x44).f1) + x2), (rd_T46 x1000000_2 x44).f2⟩ : S46)))) else (marks_Set_Insert.l0 k x1 x2 x43 (wrap64 (x44 + 1)) x1000000_0 x1000000_1 x1000000_2))) else (none)) else (none)) else (some (0, x1000000_0, x1000000_1, x1000000_2))
def marks_Set_Insert.f (k : Nat) (p0_0 : Int) (p0_1 : Int) (p0_2 : List (S46)) (a1 : Int) (a2 : Int) : Option (Int × Int × Int × (List (S46))) := if a1 < 0 then (some (30, p0_0, p0_1, p0_2)) else (if a1 > p0_0 then (some (30, p0_0, p0_1, p0_2)) else (if a2 < 0 then (some (1, p0_0, p0_1, p0_2)) else (if a2 > (wrap64 (65536 - p0_0)) then (some (31, p0_0, p0_1, p0_2)) else (marks_Set_Insert.l0 k a1 a2 (p0_2.length : Int) 0 (wrap64 (p0_0 + a2)) p0_1 p0_2))))
def marks_Set_Delete.l0 : Nat → Int → Int → Int → Int → Int → Int → List (S46) → Option (Int × Int × Int × (List (S46)))
  | 0, _, _, _, _, _, _, _ => none
  | k + 1, x1, x2, x38, x39, x1000000_0, x1000000_1, x1000000_2 => if x39 < x38 then (if 0 ≤ x39 then (if x39 < (x1000000_2.length : Int) then (if ((rd_T46 x1000000_2 x39).f1) ≥ x2 then (marks_Set_Delete.l0 k x1 x2 x38 (wrap64 (x39 + 1)) x1000000_0 x1000000_1 (x1000000_2.set (x39 : Int).toNat (⟨(rd_T46 x1000000_2 x39).f0, wrap64 (((rd_T46 x1000000_2 x39).f1) - (wrap64 (x2 - x1))), (rd_T46 x1000000_2 x39).f2⟩ : S46))) else (if ((rd_T46 x1000000_2 x39).f1) > x1 then (marks_Set_Delete.l0 k x1 x2 x38 (wrap64 (x39 + 1)) x1000000_0 x1000000_1 (x1000000_2.set (x39 : Int).toNat (⟨(rd_T46 x1000000_2 x39).f0, x1, (rd_T46 x1000000_2 x39).f2⟩ : S46))) else (marks_Set_Delete.l0 k x1 x2 x38 (wrap64 (x39 + 1)) x1000000_0 x1000000_1 x1000000_2))) else (none)) else (none)) else (some (0, x1000000_0, x1000000_1, x1000000_2))
def marks_Set_Delete.f (k : Nat) (p0_0 : Int) (p0_1 : Int) (p0_2 : List (S46)) (a1 : Int) (a2 : Int) : Option (Int × Int × Int × (List (S46))) := if a1 < 0 then (some (30, p0_0, p0_1, p0_2)) else (if a2 > p0_0 then (some (30, p0_0, p0_1, p0_2)) else (if a1 > a2 then (some (30, p0_0, p0_1, p0_2)) else (marks_Set_Delete.l0 k a1 a2 (p0_2.length : Int) 0 (wrap64 (p0_0 - (wrap64 (a2 - a1)))) p0_1 p0_2)))
def slices_Clone.f (l0 : List (S46)) : Option ((List (S46))) := if l0.length < 5864062014805 then (some l0) else (none)
def marks_Set_All.f (p0_0 : Int) (p0_1 : Int) (p0_2 : List (S46)) : Option ((List (S46))) := (slices_Clone.f p0_2).bind fun t8 => (if marksOk t8 then (some (markSort t8)) else (none))
def marks_Set_Between.l0 : Nat → Int → Int → List (Int) → List (S46) → Int → Int → Option (List (Int))
  | 0, _, _, _, _, _, _ => none
  | k + 1, x1, x2, x7, x11, x12, x13 => if x13 < x12 then (if 0 ≤ x13 then (if x13 < (x11.length : Int) then (if ((rd_T46 x11 x13).f1) ≥ x1 then (if ((rd_T46 x11 x13).f1) ≤ x2 then (if x7.length < 17592186044415 then (marks_Set_Between.l0 k x1 x2 (x7 ++ [(rd_T46 x11 x13).f0]) x11 x12 (wrap64 (x13 + 1))) else (none)) else (marks_Set_Between.l0 k x1 x2 x7 x11 x12 (wrap64 (x13 + 1)))) else (marks_Set_Between.l0 k x1 x2 x7 x11 x12 (wrap64 (x13 + 1)))) else (none)) else (none)) else (some x7)
def marks_Set_Between.f (k : Nat) (p0_0 : Int) (p0_1 : Int) (p0_2 : List (S46)) (a1 : Int) (a2 : Int) : Option (List (Int)) := (marks_Set_All.f p0_0 p0_1 p0_2).bind fun t11 => (marks_Set_Between.l0 k a1 a2 ([] : List (Int)) t11 (t11.length : Int) 0)
-- ptr regletlaw16_played 7
/-! By hand: the calls of a script. -/
def regletlaw16_step.f (k : Nat) (p0_0 : Int) (p0_1 : Int) (p0_2 : List (S46)) (a1_0 : Int) (a1_1 : Int) (l1_2 : List (S51)) (a2_0 : Int) (a2_1 : Int) (a2_2 : Int) (a2_3 : Bool) : Option (Int × Int × (List (S51)) × Bool × Int × Int × (List (S46))) := if a2_0 = 0 then ((regletref16_Put.f k a1_0 a1_1 l1_2 a2_1 a2_3).bind fun t31 => ((marks_Set_Put.f p0_0 p0_1 p0_2 a2_1 a2_3).bind fun t41 => (if t41.1 = t31.2.2.2.1 then (some (t31.1, t31.2.1, t31.2.2.1, decide (t41.2.1 = t31.2.2.2.2), t41.2.2.1, t41.2.2.2.1, t41.2.2.2.2)) else (some (t31.1, t31.2.1, t31.2.2.1, false, t41.2.2.1, t41.2.2.2.1, t41.2.2.2.2))))) else (if a2_0 = 1 then ((regletref16_Insert.f k a1_0 a1_1 l1_2 a2_1 a2_2).bind fun t61 => ((marks_Set_Insert.f k p0_0 p0_1 p0_2 a2_1 a2_2).bind fun t70 => (some (t61.1, t61.2.1, t61.2.2.1, decide (t70.1 = t61.2.2.2), t70.2.1, t70.2.2.1, t70.2.2.2)))) else (if a2_0 = 2 then ((regletref16_Delete.f k a1_0 a1_1 l1_2 a2_1 a2_2).bind fun t81 => ((marks_Set_Delete.f k p0_0 p0_1 p0_2 a2_1 a2_2).bind fun t90 => (some (t81.1, t81.2.1, t81.2.2.1, decide (t90.1 = t81.2.2.2), t90.2.1, t90.2.2.1, t90.2.2.2)))) else (if a2_0 = 3 then ((regletref16_Move.f k a1_0 a1_1 l1_2 a2_1 a2_2).bind fun t101 => ((marks_Set_Move.f k p0_0 p0_1 p0_2 a2_1 a2_2).bind fun t110 => (some (t101.1, t101.2.1, t101.2.2.1, decide (t110.1 = t101.2.2.2), t110.2.1, t110.2.2.1, t110.2.2.2)))) else (if a2_0 = 4 then ((regletref16_Drop.f k a1_0 a1_1 l1_2 a2_1).bind fun t119 => ((marks_Set_Drop.f k p0_0 p0_1 p0_2 a2_1).bind fun t126 => (some (t119.1, t119.2.1, t119.2.2.1, decide (t126.1 = t119.2.2.2), t126.2.1, t126.2.2.1, t126.2.2.2)))) else (some (a1_0, a1_1, l1_2, true, p0_0, p0_1, p0_2))))))
def regletlaw16_played.l0 : Nat → List (S34) → Int → Int → Int → List (S51) → Int → Int → List (S46) → Option ((Option (Int × Int × (List (S46)))) × Int × Int × (List (S51)))
  | 0, _, _, _, _, _, _, _, _ => none
  | k + 1, x1, x9, x6_0, x6_1, x6_2, x7_0, x7_1, x7_2 => if x9 < (x1.length : Int) then (if x9 < 80 then (if 0 ≤ x9 then ((regletlaw16_step.f k x7_0 x7_1 x7_2 x6_0 x6_1 x6_2 ((rd_T34 x1 x9).f0) ((rd_T34 x1 x9).f1) ((rd_T34 x1 x9).f2) ((rd_T34 x1 x9).f3)).bind fun t43 => (if t43.2.2.2.1 = true then (regletlaw16_played.l0 k x1 (wrap64 (x9 + 1)) t43.1 t43.2.1 t43.2.2.1 t43.2.2.2.2.1 t43.2.2.2.2.2.1 t43.2.2.2.2.2.2) else (some (none, x6_0, x6_1, x6_2)))) else (none)) else (some (some (x7_0, x7_1, x7_2), x6_0, x6_1, x6_2))) else (some (some (x7_0, x7_1, x7_2), x6_0, x6_1, x6_2))
def regletlaw16_played.f (k : Nat) (a0 : Int) (l1 : List (S34)) : Option ((Option (Int × Int × (List (S46)))) × Int × Int × (List (S51))) := (marks_New.f a0).bind fun t16 => (match t16 with | (none, e) => (if e = 0 then (some (none, a0, 0, ([] : List (S51)))) else (some (none, a0, 0, ([] : List (S51))))) | (some (b0, b1, b2), e) => (if e = 0 then (regletlaw16_played.l0 k l1 0 a0 0 ([] : List (S51)) b0 b1 b2) else (some (none, a0, 0, ([] : List (S51))))))
def regletlaw16_awake.f (k : Nat) : Option (Bool) := (regletlaw16_played.f k 5 ([(⟨0, 3, 0, false⟩ : S34), (⟨0, 3, 0, true⟩ : S34), (⟨1, 3, 2, false⟩ : S34)] : List (S34))).bind fun t12 => (match t12 with | (none, _, _, _) => (some false) | (some (b0, b1, b2), _, _, _) => ((marks_Set_Get.f k b0 b1 b2 1).bind fun t19 => ((marks_Set_Get.f k b0 b1 b2 2).bind fun t24 => (if t19.2.2.2 = 0 then (if t24.2.2.2 = 0 then (if t19.2.1 = 5 then (if t24.2.1 = 3 then ((marks_Set_Size.f b0 b1 b2).bind fun t45 => (some (decide (t45 = 7)))) else (some false)) else (some false)) else (some false)) else (some false)))))
-- include MarksSort
-- Marks, sorted
def regletlaw16_MarksPlay.l0 : Nat → Int → Int → List (S46) → List (S46) → List (S51) → Int → Option (Bool)
  | 0, _, _, _, _, _, _ => none
  | k + 1, x9_0, x9_1, x9_2, x15, x16, x17 => if x17 < (x15.length : Int) then (if 0 ≤ x17 then (if x17 < (x16.length : Int) then (if ((rd_T46 x15 x17).f0) = ((rd_T51 x16 x17).f0) then (if ((rd_T46 x15 x17).f1) = ((rd_T51 x16 x17).f1) then (if ((rd_T46 x15 x17).f2) = ((rd_T51 x16 x17).f2) then (regletlaw16_MarksPlay.l0 k x9_0 x9_1 x9_2 (x15.set (x17 : Int).toNat (⟨(rd_T46 x15 x17).f0, -1, (rd_T46 x15 x17).f2⟩ : S46)) x16 (wrap64 (x17 + 1))) else (some false)) else (some false)) else (some false)) else (none)) else (none)) else (if (x15.length : Int) = 0 then (some true) else (if 0 < (x16.length : Int) then ((marks_Set_All.f x9_0 x9_1 x9_2).bind fun t154 => (if 0 < (t154.length : Int) then (some (decide (((rd_T46 t154 0).f1) = ((rd_T51 x16 0).f1)))) else (none))) else (none)))
def regletlaw16_MarksPlay.f (k : Nat) (a0 : Int) (l1 : List (S34)) (a2 : Int) : Option (Bool) := (regletlaw16_awake.f k).bind fun t18 => (if t18 = true then ((regletlaw16_size.f a0).bind fun t21 => (if t21 = true then ((regletlaw16_played.f k a0 l1).bind fun t37 => (match t37 with | (none, _, _, _) => (some false) | (some (b0, b1, b2), w0, w1, w2) => ((marks_Set_Size.f b0 b1 b2).bind fun t44 => (if t44 = w0 then ((marks_Set_Count.f b0 b1 b2).bind fun t51 => (if t51 = (w2.length : Int) then ((marks_Set_Get.f k b0 b1 b2 a2).bind fun t60 => ((regletref16_Get.f k w0 w1 w2 a2).bind fun t66 => (if t60.2.2.2 = t66.2.2.2 then (if t60.1 = t66.1 then (if t60.2.1 = t66.2.1 then (if t60.2.2.1 = t66.2.2.1 then ((marks_Set_All.f b0 b1 b2).bind fun t94 => ((regletref16_All.f k w0 w1 w2).bind fun t96 => (if (t94.length : Int) = (t96.length : Int) then (regletlaw16_MarksPlay.l0 k b0 b1 b2 t94 t96 0) else (some false)))) else (some false)) else (some false)) else (some false)) else (some false)))) else (some false))) else (some false))))) else ((marks_New.f a0).bind fun t25 => (match t25 with | (none, e) => (some (decide (e = 1))) | (some (b0, b1, b2), e) => (some false))))) else (some false))
end Go.Proofs.Ythfijdffkbkifaa.PMarksPlay
