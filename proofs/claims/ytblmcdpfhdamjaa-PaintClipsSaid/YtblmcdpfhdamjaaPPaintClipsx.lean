-- The models of the law PaintClips's functions, as wip/xprint.py of this repo printed them (chosen by wip/al/pure.py)
import Derived.Test.YtblmcdpfhdamjaaKPaintClips
import Derived.IntWalk
namespace Go.Proofs.Ytblmcdpfhdamjaa.PPaintClips
open Go.RowKit Go.Proofs.YtblmcdpfhdamjaaW.PrintWords Go.Proofs.YtblmcdpfhdamjaaW.PrintLast Go.Proofs.YtblmcdpfhdamjaaW.PrintMore
set_option linter.unusedVariables false
set_option linter.unusedSimpArgs false
abbrev wrap64 (n : Int) : Int := IntKind.i64.wrap n
theorem wrap64_def (n : Int) : wrap64 n = (n + 9223372036854775808) % 18446744073709551616 - 9223372036854775808 := IntKind.wrap_i64 n
abbrev mx (a b : Int) : Int := max a b
abbrev mn (a b : Int) : Int := min a b
abbrev shl (k : IntKind) (x y : Int) : Int := k.wrap (x * 2 ^ min y.toNat k.bits)
abbrev shr (k : IntKind) (x y : Int) : Int := x.fdiv (2 ^ min y.toNat k.bits)
structure S134 where
  f0 : Int
  f1 : Int
  f2 : Int
def z134 : S134 := ⟨(0 : Int), (0 : Int), (0 : Int)⟩
def rd_T134 (xs : List S134) (i : Int) : S134 := xs.getD i.toNat z134
def rd_L2 (xs : List (List S134)) (i : Int) : (List S134) := xs.getD i.toNat ([] : List S134)
structure S87 where
  f0 : Int
  f1 : Int
  f2 : Int
  f3 : Int
  f4 : Int
  f5 : Int
  f6 : (List S134)
  f7 : Bool
def z87 : S87 := ⟨(0 : Int), (0 : Int), (0 : Int), (0 : Int), (0 : Int), (0 : Int), ([] : List S134), false⟩
def rd_T87 (xs : List S87) (i : Int) : S87 := xs.getD i.toNat z87
def rd_L5 (xs : List (List S87)) (i : Int) : (List S87) := xs.getD i.toNat ([] : List S87)
structure S124 where
  f0 : (List S87)
def z124 : S124 := ⟨([] : List S87)⟩
def rd_T124 (xs : List S124) (i : Int) : S124 := xs.getD i.toNat z124
structure S89 where
  f0 : Int
  f1 : Int
def z89 : S89 := ⟨(0 : Int), (0 : Int)⟩
def rd_T89 (xs : List S89) (i : Int) : S89 := xs.getD i.toNat z89
structure S99 where
  f0 : Int
  f1 : Int
def z99 : S99 := ⟨(0 : Int), (0 : Int)⟩
def rd_T99 (xs : List S99) (i : Int) : S99 := xs.getD i.toNat z99
structure S38 where
  f0 : Int
  f1 : Int
  f2 : Int
  f3 : ByteArray
  f4 : Int
def z38 : S38 := ⟨(0 : Int), (0 : Int), (0 : Int), (⟨#[]⟩ : ByteArray), (0 : Int)⟩
def rd_T38 (xs : List S38) (i : Int) : S38 := xs.getD i.toNat z38
structure S90 where
  f0 : Int
  f1 : Int
  f2 : Int
def z90 : S90 := ⟨(0 : Int), (0 : Int), (0 : Int)⟩
def rd_T90 (xs : List S90) (i : Int) : S90 := xs.getD i.toNat z90
structure S56 where
  f0 : Int
  f1 : Int
  f2 : Int
def z56 : S56 := ⟨(0 : Int), (0 : Int), (0 : Int)⟩
def rd_T56 (xs : List S56) (i : Int) : S56 := xs.getD i.toNat z56
abbrev itP_ (p : Int) : Int := (p.toNat : Int)
abbrev itR_ (s : ByteArray) (p : Int) : Int := ((Utf8.decode s p.toNat).1 : Int)
abbrev itN_ (s : ByteArray) (p : Int) : Int := ((p.toNat + (Utf8.decode s p.toNat).2 : Nat) : Int)
def regletref04_fits.f (a0 : Int) (a1 : Int) : Option (Bool) := if a0 ≥ a1 then (some (decide (a0 ≤ 1048576))) else (some false)
mutual
def regletref04_Style.l0 : Nat → List Int → Int → Int → Int → Int → Int → Int → Int → List (S134) → Bool → Option (Int)
  | 0, _, _, _, _, _, _, _, _, _, _ => none
  | k + 1, x3, x4, x102000, x102001, x102002, x102003, x102004, x102005, x102006, x102007 => if x4 < (x3.length : Int) then (if 0 ≤ x4 then ((regletref04_fits.f (rd x3 x4) 0).bind fun t106 => (if t106 = true then (regletref04_Style.l0 k x3 (wrap64 (x4 + 1)) x102000 x102001 x102002 x102003 x102004 x102005 x102006 x102007) else (some 41))) else (none)) else ((regletref04_fits.f x102000 1).bind fun t107 => (if t107 = true then (regletref04_Style.j1 k (decide (x102003 > x102001)) x102000 x102001 x102002 x102003 x102004 x102005 x102006 x102007) else (regletref04_Style.j1 k true x102000 x102001 x102002 x102003 x102004 x102005 x102006 x102007)))
def regletref04_Style.j1 : Nat → Bool → Int → Int → Int → Int → Int → Int → List (S134) → Bool → Option (Int)
  | 0, _, _, _, _, _, _, _, _, _ => none
  | k + 1, x40, x102000, x102001, x102002, x102003, x102004, x102005, x102006, x102007 => if x40 = true then (some 41) else (if (x102006.length : Int) > 64 then (some 42) else (regletref04_Style.l1 k 0 x102000 x102001 x102002 x102003 x102004 x102005 x102006 x102007))
def regletref04_Style.l1 : Nat → Int → Int → Int → Int → Int → Int → Int → List (S134) → Bool → Option (Int)
  | 0, _, _, _, _, _, _, _, _, _ => none
  | k + 1, x5, x102000, x102001, x102002, x102003, x102004, x102005, x102006, x102007 => if x5 < (x102006.length : Int) then (if 0 ≤ x5 then (if x5 = 0 then (if ((rd_T134 x102006 x5).f0) < 0 then (regletref04_Style.j3 k x5 true x102000 x102001 x102002 x102003 x102004 x102005 x102006 x102007 ((rd_T134 x102006 x5).f0) ((rd_T134 x102006 x5).f1) ((rd_T134 x102006 x5).f2)) else (if x5 > 0 then (if 0 ≤ (wrap64 (x5 - 1)) then (if (wrap64 (x5 - 1)) < (x102006.length : Int) then (if ((rd_T134 x102006 x5).f0) ≤ ((rd_T134 x102006 (wrap64 (x5 - 1))).f1) then (regletref04_Style.j3 k x5 true x102000 x102001 x102002 x102003 x102004 x102005 x102006 x102007 ((rd_T134 x102006 x5).f0) ((rd_T134 x102006 x5).f1) ((rd_T134 x102006 x5).f2)) else (if ((rd_T134 x102006 x5).f1) < ((rd_T134 x102006 x5).f0) then (regletref04_Style.j3 k x5 true x102000 x102001 x102002 x102003 x102004 x102005 x102006 x102007 ((rd_T134 x102006 x5).f0) ((rd_T134 x102006 x5).f1) ((rd_T134 x102006 x5).f2)) else (regletref04_Style.j3 k x5 (decide (((rd_T134 x102006 x5).f1) > 1114111)) x102000 x102001 x102002 x102003 x102004 x102005 x102006 x102007 ((rd_T134 x102006 x5).f0) ((rd_T134 x102006 x5).f1) ((rd_T134 x102006 x5).f2)))) else (none)) else (none)) else (if ((rd_T134 x102006 x5).f1) < ((rd_T134 x102006 x5).f0) then (regletref04_Style.j3 k x5 true x102000 x102001 x102002 x102003 x102004 x102005 x102006 x102007 ((rd_T134 x102006 x5).f0) ((rd_T134 x102006 x5).f1) ((rd_T134 x102006 x5).f2)) else (regletref04_Style.j3 k x5 (decide (((rd_T134 x102006 x5).f1) > 1114111)) x102000 x102001 x102002 x102003 x102004 x102005 x102006 x102007 ((rd_T134 x102006 x5).f0) ((rd_T134 x102006 x5).f1) ((rd_T134 x102006 x5).f2))))) else (if x5 > 0 then (if 0 ≤ (wrap64 (x5 - 1)) then (if (wrap64 (x5 - 1)) < (x102006.length : Int) then (if ((rd_T134 x102006 x5).f0) ≤ ((rd_T134 x102006 (wrap64 (x5 - 1))).f1) then (regletref04_Style.j3 k x5 true x102000 x102001 x102002 x102003 x102004 x102005 x102006 x102007 ((rd_T134 x102006 x5).f0) ((rd_T134 x102006 x5).f1) ((rd_T134 x102006 x5).f2)) else (if ((rd_T134 x102006 x5).f1) < ((rd_T134 x102006 x5).f0) then (regletref04_Style.j3 k x5 true x102000 x102001 x102002 x102003 x102004 x102005 x102006 x102007 ((rd_T134 x102006 x5).f0) ((rd_T134 x102006 x5).f1) ((rd_T134 x102006 x5).f2)) else (regletref04_Style.j3 k x5 (decide (((rd_T134 x102006 x5).f1) > 1114111)) x102000 x102001 x102002 x102003 x102004 x102005 x102006 x102007 ((rd_T134 x102006 x5).f0) ((rd_T134 x102006 x5).f1) ((rd_T134 x102006 x5).f2)))) else (none)) else (none)) else (if ((rd_T134 x102006 x5).f1) < ((rd_T134 x102006 x5).f0) then (regletref04_Style.j3 k x5 true x102000 x102001 x102002 x102003 x102004 x102005 x102006 x102007 ((rd_T134 x102006 x5).f0) ((rd_T134 x102006 x5).f1) ((rd_T134 x102006 x5).f2)) else (regletref04_Style.j3 k x5 (decide (((rd_T134 x102006 x5).f1) > 1114111)) x102000 x102001 x102002 x102003 x102004 x102005 x102006 x102007 ((rd_T134 x102006 x5).f0) ((rd_T134 x102006 x5).f1) ((rd_T134 x102006 x5).f2))))) else (none)) else (some 0)
def regletref04_Style.j3 : Nat → Int → Bool → Int → Int → Int → Int → Int → Int → List (S134) → Bool → Int → Int → Int → Option (Int)
  | 0, _, _, _, _, _, _, _, _, _, _, _, _, _ => none
  | k + 1, x5, x91, x102000, x102001, x102002, x102003, x102004, x102005, x102006, x102007, x110000, x110001, x110002 => if x91 = true then (some 42) else ((regletref04_fits.f x110002 0).bind fun t112 => (if t112 = true then (regletref04_Style.l1 k (wrap64 (x5 + 1)) x102000 x102001 x102002 x102003 x102004 x102005 x102006 x102007) else (some 41)))
end
def regletref04_Style.f (k : Nat) (a0_0 : Int) (a0_1 : Int) (a0_2 : Int) (a0_3 : Int) (a0_4 : Int) (a0_5 : Int) (l0_6 : List (S134)) (a0_7 : Bool) : Option (Int) := regletref04_Style.l0 k (([a0_1, a0_2, a0_3, a0_4, a0_5] : List Int)) 0 a0_0 a0_1 a0_2 a0_3 a0_4 a0_5 l0_6 a0_7
theorem regletref04_Style.mono_l : ∀ k, (∀ y0 y1 y2 y3 y4 y5 y6 y7 y8 y9, LeO (regletref04_Style.l0 k y0 y1 y2 y3 y4 y5 y6 y7 y8 y9) (regletref04_Style.l0 (k + 1) y0 y1 y2 y3 y4 y5 y6 y7 y8 y9)) ∧ (∀ y0 y1 y2 y3 y4 y5 y6 y7 y8, LeO (regletref04_Style.j1 k y0 y1 y2 y3 y4 y5 y6 y7 y8) (regletref04_Style.j1 (k + 1) y0 y1 y2 y3 y4 y5 y6 y7 y8)) ∧ (∀ y0 y1 y2 y3 y4 y5 y6 y7 y8, LeO (regletref04_Style.l1 k y0 y1 y2 y3 y4 y5 y6 y7 y8) (regletref04_Style.l1 (k + 1) y0 y1 y2 y3 y4 y5 y6 y7 y8)) ∧ (∀ y0 y1 y2 y3 y4 y5 y6 y7 y8 y9 y10 y11 y12, LeO (regletref04_Style.j3 k y0 y1 y2 y3 y4 y5 y6 y7 y8 y9 y10 y11 y12) (regletref04_Style.j3 (k + 1) y0 y1 y2 y3 y4 y5 y6 y7 y8 y9 y10 y11 y12))
  | 0 => ⟨fun _ _ _ _ _ _ _ _ _ _ r h => by simp [regletref04_Style.l0] at h, fun _ _ _ _ _ _ _ _ _ r h => by simp [regletref04_Style.j1] at h, fun _ _ _ _ _ _ _ _ _ r h => by simp [regletref04_Style.l1] at h, fun _ _ _ _ _ _ _ _ _ _ _ _ _ r h => by simp [regletref04_Style.j3] at h⟩
  | k + 1 => by
    obtain ⟨ih0, ih1, ih2, ih3⟩ := regletref04_Style.mono_l k
    refine ⟨?_, ?_, ?_, ?_⟩
    · intro y0 y1 y2 y3 y4 y5 y6 y7 y8 y9
      unfold regletref04_Style.l0
      repeat' first
      | (with_reducible exact ih0 _ _ _ _ _ _ _ _ _ _)
      | (with_reducible exact ih1 _ _ _ _ _ _ _ _ _)
      | (with_reducible exact ih2 _ _ _ _ _ _ _ _ _)
      | (with_reducible exact ih3 _ _ _ _ _ _ _ _ _ _ _ _ _)
      | (with_reducible exact LeO.refl _)
      | (with_reducible exact LeO.none _)
      | (with_reducible refine LeO.ite ?_ ?_)
      | (with_reducible refine LeO.bind ?_ (fun _ => ?_))
      | exact ih0 _ _ _ _ _ _ _ _ _ _
      | exact ih1 _ _ _ _ _ _ _ _ _
      | exact ih2 _ _ _ _ _ _ _ _ _
      | exact ih3 _ _ _ _ _ _ _ _ _ _ _ _ _
      | exact LeO.none _
      | refine LeO.ite ?_ ?_
      | refine LeO.bind ?_ (fun _ => ?_)
    · intro y0 y1 y2 y3 y4 y5 y6 y7 y8
      unfold regletref04_Style.j1
      repeat' first
      | (with_reducible exact ih0 _ _ _ _ _ _ _ _ _ _)
      | (with_reducible exact ih1 _ _ _ _ _ _ _ _ _)
      | (with_reducible exact ih2 _ _ _ _ _ _ _ _ _)
      | (with_reducible exact ih3 _ _ _ _ _ _ _ _ _ _ _ _ _)
      | (with_reducible exact LeO.refl _)
      | (with_reducible exact LeO.none _)
      | (with_reducible refine LeO.ite ?_ ?_)
      | (with_reducible refine LeO.bind ?_ (fun _ => ?_))
      | exact ih0 _ _ _ _ _ _ _ _ _ _
      | exact ih1 _ _ _ _ _ _ _ _ _
      | exact ih2 _ _ _ _ _ _ _ _ _
      | exact ih3 _ _ _ _ _ _ _ _ _ _ _ _ _
      | exact LeO.none _
      | refine LeO.ite ?_ ?_
      | refine LeO.bind ?_ (fun _ => ?_)
    · intro y0 y1 y2 y3 y4 y5 y6 y7 y8
      unfold regletref04_Style.l1
      repeat' first
      | (with_reducible exact ih0 _ _ _ _ _ _ _ _ _ _)
      | (with_reducible exact ih1 _ _ _ _ _ _ _ _ _)
      | (with_reducible exact ih2 _ _ _ _ _ _ _ _ _)
      | (with_reducible exact ih3 _ _ _ _ _ _ _ _ _ _ _ _ _)
      | (with_reducible exact LeO.refl _)
      | (with_reducible exact LeO.none _)
      | (with_reducible refine LeO.ite ?_ ?_)
      | (with_reducible refine LeO.bind ?_ (fun _ => ?_))
      | exact ih0 _ _ _ _ _ _ _ _ _ _
      | exact ih1 _ _ _ _ _ _ _ _ _
      | exact ih2 _ _ _ _ _ _ _ _ _
      | exact ih3 _ _ _ _ _ _ _ _ _ _ _ _ _
      | exact LeO.none _
      | refine LeO.ite ?_ ?_
      | refine LeO.bind ?_ (fun _ => ?_)
    · intro y0 y1 y2 y3 y4 y5 y6 y7 y8 y9 y10 y11 y12
      unfold regletref04_Style.j3
      repeat' first
      | (with_reducible exact ih0 _ _ _ _ _ _ _ _ _ _)
      | (with_reducible exact ih1 _ _ _ _ _ _ _ _ _)
      | (with_reducible exact ih2 _ _ _ _ _ _ _ _ _)
      | (with_reducible exact ih3 _ _ _ _ _ _ _ _ _ _ _ _ _)
      | (with_reducible exact LeO.refl _)
      | (with_reducible exact LeO.none _)
      | (with_reducible refine LeO.ite ?_ ?_)
      | (with_reducible refine LeO.bind ?_ (fun _ => ?_))
      | exact ih0 _ _ _ _ _ _ _ _ _ _
      | exact ih1 _ _ _ _ _ _ _ _ _
      | exact ih2 _ _ _ _ _ _ _ _ _
      | exact ih3 _ _ _ _ _ _ _ _ _ _ _ _ _
      | exact LeO.none _
      | refine LeO.ite ?_ ?_
      | refine LeO.bind ?_ (fun _ => ?_)
theorem regletref04_Style.mono : ∀ a0 a1 a2 a3 a4 a5 a6 a7 k, LeO (regletref04_Style.f k a0 a1 a2 a3 a4 a5 a6 a7) (regletref04_Style.f (k + 1) a0 a1 a2 a3 a4 a5 a6 a7) := by
  intro a0 a1 a2 a3 a4 a5 a6 a7 k
  obtain ⟨ih0, ih1, ih2, ih3⟩ := regletref04_Style.mono_l k
  unfold regletref04_Style.f
  repeat' first
      | (with_reducible exact ih0 _ _ _ _ _ _ _ _ _ _)
      | (with_reducible exact ih1 _ _ _ _ _ _ _ _ _)
      | (with_reducible exact ih2 _ _ _ _ _ _ _ _ _)
      | (with_reducible exact ih3 _ _ _ _ _ _ _ _ _ _ _ _ _)
      | (with_reducible exact LeO.refl _)
      | (with_reducible exact LeO.none _)
      | (with_reducible refine LeO.ite ?_ ?_)
      | (with_reducible refine LeO.bind ?_ (fun _ => ?_))
      | exact ih0 _ _ _ _ _ _ _ _ _ _
      | exact ih1 _ _ _ _ _ _ _ _ _
      | exact ih2 _ _ _ _ _ _ _ _ _
      | exact ih3 _ _ _ _ _ _ _ _ _ _ _ _ _
      | exact LeO.none _
      | refine LeO.ite ?_ ?_
      | refine LeO.bind ?_ (fun _ => ?_)
mutual
def regletref04_Check.j0 : Nat → List (S87) → Bool → Option (Int × Int)
  | 0, _, _ => none
  | k + 1, x0, x13 => if x13 = true then (some (40, 0)) else (regletref04_Check.l0 k x0 0)
def regletref04_Check.l0 : Nat → List (S87) → Int → Option (Int × Int)
  | 0, _, _ => none
  | k + 1, x0, x4 => if x4 < (x0.length : Int) then (if 0 ≤ x4 then ((regletref04_Style.f k ((rd_T87 x0 x4).f0) ((rd_T87 x0 x4).f1) ((rd_T87 x0 x4).f2) ((rd_T87 x0 x4).f3) ((rd_T87 x0 x4).f4) ((rd_T87 x0 x4).f5) ((rd_T87 x0 x4).f6) ((rd_T87 x0 x4).f7)).bind fun t114 => (if t114 = 0 then (regletref04_Check.l0 k x0 (wrap64 (x4 + 1))) else (some (t114, x4)))) else (none)) else (some (0, 0))
end
def regletref04_Check.f (k : Nat) (l0 : List (S87)) : Option (Int × Int) := if (l0.length : Int) = 0 then (regletref04_Check.j0 k l0 true) else (regletref04_Check.j0 k l0 (decide ((l0.length : Int) > 32)))
theorem regletref04_Check.mono_l : ∀ k, (∀ y0 y1, LeO (regletref04_Check.j0 k y0 y1) (regletref04_Check.j0 (k + 1) y0 y1)) ∧ (∀ y0 y1, LeO (regletref04_Check.l0 k y0 y1) (regletref04_Check.l0 (k + 1) y0 y1))
  | 0 => ⟨fun _ _ r h => by simp [regletref04_Check.j0] at h, fun _ _ r h => by simp [regletref04_Check.l0] at h⟩
  | k + 1 => by
    obtain ⟨ih0, ih1⟩ := regletref04_Check.mono_l k
    refine ⟨?_, ?_⟩
    · intro y0 y1
      unfold regletref04_Check.j0
      repeat' first
      | (with_reducible exact ih0 _ _)
      | (with_reducible exact ih1 _ _)
      | (with_reducible exact regletref04_Style.mono _ _ _ _ _ _ _ _ _)
      | (with_reducible exact LeO.refl _)
      | (with_reducible exact LeO.none _)
      | (with_reducible refine LeO.ite ?_ ?_)
      | (with_reducible refine LeO.bind ?_ (fun _ => ?_))
      | exact ih0 _ _
      | exact ih1 _ _
      | exact regletref04_Style.mono _ _ _ _ _ _ _ _ _
      | exact LeO.none _
      | refine LeO.ite ?_ ?_
      | refine LeO.bind ?_ (fun _ => ?_)
    · intro y0 y1
      unfold regletref04_Check.l0
      repeat' first
      | (with_reducible exact ih0 _ _)
      | (with_reducible exact ih1 _ _)
      | (with_reducible exact regletref04_Style.mono _ _ _ _ _ _ _ _ _)
      | (with_reducible exact LeO.refl _)
      | (with_reducible exact LeO.none _)
      | (with_reducible refine LeO.ite ?_ ?_)
      | (with_reducible refine LeO.bind ?_ (fun _ => ?_))
      | exact ih0 _ _
      | exact ih1 _ _
      | exact regletref04_Style.mono _ _ _ _ _ _ _ _ _
      | exact LeO.none _
      | refine LeO.ite ?_ ?_
      | refine LeO.bind ?_ (fun _ => ?_)
theorem regletref04_Check.mono : ∀ a0 k, LeO (regletref04_Check.f k a0) (regletref04_Check.f (k + 1) a0) := by
  intro a0 k
  obtain ⟨ih0, ih1⟩ := regletref04_Check.mono_l k
  unfold regletref04_Check.f
  repeat' first
      | (with_reducible exact ih0 _ _)
      | (with_reducible exact ih1 _ _)
      | (with_reducible exact regletref04_Style.mono _ _ _ _ _ _ _ _ _)
      | (with_reducible exact LeO.refl _)
      | (with_reducible exact LeO.none _)
      | (with_reducible refine LeO.ite ?_ ?_)
      | (with_reducible refine LeO.bind ?_ (fun _ => ?_))
      | exact ih0 _ _
      | exact ih1 _ _
      | exact regletref04_Style.mono _ _ _ _ _ _ _ _ _
      | exact LeO.none _
      | refine LeO.ite ?_ ?_
      | refine LeO.bind ?_ (fun _ => ?_)
def metrics_unit.f (a0 : Int) (a1 : Int) : Option (Bool) := if a0 ≥ a1 then (some (decide (a0 ≤ 1048576))) else (some false)
mutual
def metrics_check.j0 : Nat → Bool → Int → Int → Int → Int → Int → Int → List (S134) → Bool → Option (Int)
  | 0, _, _, _, _, _, _, _, _, _ => none
  | k + 1, x46, x116000, x116001, x116002, x116003, x116004, x116005, x116006, x116007 => if x46 = true then (some 41) else (if (x116006.length : Int) > 64 then (some 42) else (metrics_check.l0 k (-1) x116006 (x116006.length : Int) 0))
def metrics_check.l0 : Nat → Int → List (S134) → Int → Int → Option (Int)
  | 0, _, _, _, _ => none
  | k + 1, x3, x52, x53, x54 => if x54 < x53 then (if 0 ≤ x54 then (if x54 < (x52.length : Int) then (if ((rd_T134 x52 x54).f0) ≤ x3 then (metrics_check.j2 k x52 x53 x54 true ((rd_T134 x52 x54).f0) ((rd_T134 x52 x54).f1) ((rd_T134 x52 x54).f2)) else (if ((rd_T134 x52 x54).f1) < ((rd_T134 x52 x54).f0) then (metrics_check.j2 k x52 x53 x54 true ((rd_T134 x52 x54).f0) ((rd_T134 x52 x54).f1) ((rd_T134 x52 x54).f2)) else (metrics_check.j2 k x52 x53 x54 (decide (((rd_T134 x52 x54).f1) > 1114111)) ((rd_T134 x52 x54).f0) ((rd_T134 x52 x54).f1) ((rd_T134 x52 x54).f2)))) else (none)) else (none)) else (some 0)
def metrics_check.j2 : Nat → List (S134) → Int → Int → Bool → Int → Int → Int → Option (Int)
  | 0, _, _, _, _, _, _, _ => none
  | k + 1, x52, x53, x54, x73, x124000, x124001, x124002 => if x73 = true then (some 42) else ((metrics_unit.f x124002 0).bind fun t124 => (if t124 = true then (metrics_check.l0 k x124001 x52 x53 (wrap64 (x54 + 1))) else (some 41)))
end
def metrics_check.f (k : Nat) (a0_0 : Int) (a0_1 : Int) (a0_2 : Int) (a0_3 : Int) (a0_4 : Int) (a0_5 : Int) (l0_6 : List (S134)) (a0_7 : Bool) : Option (Int) := (metrics_unit.f a0_0 1).bind fun t116 => (if t116 = true then ((metrics_unit.f a0_1 0).bind fun t117 => (if t117 = true then ((metrics_unit.f a0_2 0).bind fun t118 => (if t118 = true then ((metrics_unit.f a0_3 0).bind fun t119 => (if t119 = true then ((metrics_unit.f a0_4 0).bind fun t120 => (if t120 = true then ((metrics_unit.f a0_5 0).bind fun t121 => (if t121 = true then (metrics_check.j0 k (decide (a0_3 > a0_1)) a0_0 a0_1 a0_2 a0_3 a0_4 a0_5 l0_6 a0_7) else (metrics_check.j0 k true a0_0 a0_1 a0_2 a0_3 a0_4 a0_5 l0_6 a0_7))) else (metrics_check.j0 k true a0_0 a0_1 a0_2 a0_3 a0_4 a0_5 l0_6 a0_7))) else (metrics_check.j0 k true a0_0 a0_1 a0_2 a0_3 a0_4 a0_5 l0_6 a0_7))) else (metrics_check.j0 k true a0_0 a0_1 a0_2 a0_3 a0_4 a0_5 l0_6 a0_7))) else (metrics_check.j0 k true a0_0 a0_1 a0_2 a0_3 a0_4 a0_5 l0_6 a0_7))) else (metrics_check.j0 k true a0_0 a0_1 a0_2 a0_3 a0_4 a0_5 l0_6 a0_7))
theorem metrics_check.mono_l : ∀ k, (∀ y0 y1 y2 y3 y4 y5 y6 y7 y8, LeO (metrics_check.j0 k y0 y1 y2 y3 y4 y5 y6 y7 y8) (metrics_check.j0 (k + 1) y0 y1 y2 y3 y4 y5 y6 y7 y8)) ∧ (∀ y0 y1 y2 y3, LeO (metrics_check.l0 k y0 y1 y2 y3) (metrics_check.l0 (k + 1) y0 y1 y2 y3)) ∧ (∀ y0 y1 y2 y3 y4 y5 y6, LeO (metrics_check.j2 k y0 y1 y2 y3 y4 y5 y6) (metrics_check.j2 (k + 1) y0 y1 y2 y3 y4 y5 y6))
  | 0 => ⟨fun _ _ _ _ _ _ _ _ _ r h => by simp [metrics_check.j0] at h, fun _ _ _ _ r h => by simp [metrics_check.l0] at h, fun _ _ _ _ _ _ _ r h => by simp [metrics_check.j2] at h⟩
  | k + 1 => by
    obtain ⟨ih0, ih1, ih2⟩ := metrics_check.mono_l k
    refine ⟨?_, ?_, ?_⟩
    · intro y0 y1 y2 y3 y4 y5 y6 y7 y8
      unfold metrics_check.j0
      repeat' first
      | (with_reducible exact ih0 _ _ _ _ _ _ _ _ _)
      | (with_reducible exact ih1 _ _ _ _)
      | (with_reducible exact ih2 _ _ _ _ _ _ _)
      | (with_reducible exact LeO.refl _)
      | (with_reducible exact LeO.none _)
      | (with_reducible refine LeO.ite ?_ ?_)
      | (with_reducible refine LeO.bind ?_ (fun _ => ?_))
      | exact ih0 _ _ _ _ _ _ _ _ _
      | exact ih1 _ _ _ _
      | exact ih2 _ _ _ _ _ _ _
      | exact LeO.none _
      | refine LeO.ite ?_ ?_
      | refine LeO.bind ?_ (fun _ => ?_)
    · intro y0 y1 y2 y3
      unfold metrics_check.l0
      repeat' first
      | (with_reducible exact ih0 _ _ _ _ _ _ _ _ _)
      | (with_reducible exact ih1 _ _ _ _)
      | (with_reducible exact ih2 _ _ _ _ _ _ _)
      | (with_reducible exact LeO.refl _)
      | (with_reducible exact LeO.none _)
      | (with_reducible refine LeO.ite ?_ ?_)
      | (with_reducible refine LeO.bind ?_ (fun _ => ?_))
      | exact ih0 _ _ _ _ _ _ _ _ _
      | exact ih1 _ _ _ _
      | exact ih2 _ _ _ _ _ _ _
      | exact LeO.none _
      | refine LeO.ite ?_ ?_
      | refine LeO.bind ?_ (fun _ => ?_)
    · intro y0 y1 y2 y3 y4 y5 y6
      unfold metrics_check.j2
      repeat' first
      | (with_reducible exact ih0 _ _ _ _ _ _ _ _ _)
      | (with_reducible exact ih1 _ _ _ _)
      | (with_reducible exact ih2 _ _ _ _ _ _ _)
      | (with_reducible exact LeO.refl _)
      | (with_reducible exact LeO.none _)
      | (with_reducible refine LeO.ite ?_ ?_)
      | (with_reducible refine LeO.bind ?_ (fun _ => ?_))
      | exact ih0 _ _ _ _ _ _ _ _ _
      | exact ih1 _ _ _ _
      | exact ih2 _ _ _ _ _ _ _
      | exact LeO.none _
      | refine LeO.ite ?_ ?_
      | refine LeO.bind ?_ (fun _ => ?_)
theorem metrics_check.mono : ∀ a0 a1 a2 a3 a4 a5 a6 a7 k, LeO (metrics_check.f k a0 a1 a2 a3 a4 a5 a6 a7) (metrics_check.f (k + 1) a0 a1 a2 a3 a4 a5 a6 a7) := by
  intro a0 a1 a2 a3 a4 a5 a6 a7 k
  obtain ⟨ih0, ih1, ih2⟩ := metrics_check.mono_l k
  unfold metrics_check.f
  repeat' first
      | (with_reducible exact ih0 _ _ _ _ _ _ _ _ _)
      | (with_reducible exact ih1 _ _ _ _)
      | (with_reducible exact ih2 _ _ _ _ _ _ _)
      | (with_reducible exact LeO.refl _)
      | (with_reducible exact LeO.none _)
      | (with_reducible refine LeO.ite ?_ ?_)
      | (with_reducible refine LeO.bind ?_ (fun _ => ?_))
      | exact ih0 _ _ _ _ _ _ _ _ _
      | exact ih1 _ _ _ _
      | exact ih2 _ _ _ _ _ _ _
      | exact LeO.none _
      | refine LeO.ite ?_ ?_
      | refine LeO.bind ?_ (fun _ => ?_)
def metrics_New.l0 : Nat → List (S87) → Int → Int → List (S87) → Option ((List (S124)) × Int × Int)
  | 0, _, _, _, _ => none
  | k + 1, x19, x20, x21, x126000 => if x21 < x20 then (if 0 ≤ x21 then (if x21 < (x19.length : Int) then ((metrics_check.f k ((rd_T87 x19 x21).f0) ((rd_T87 x19 x21).f1) ((rd_T87 x19 x21).f2) ((rd_T87 x19 x21).f3) ((rd_T87 x19 x21).f4) ((rd_T87 x19 x21).f5) ((rd_T87 x19 x21).f6) ((rd_T87 x19 x21).f7)).bind fun t128 => (if t128 = 0 then ((some (([] : List (S134)) : List (S134))).bind fun y129 => (if y129.length + ((rd_T87 x19 x21).f6).length < 5864062014805 then (if x126000.length < 1759218604441 then (metrics_New.l0 k x19 x20 (wrap64 (x21 + 1)) (x126000 ++ [(⟨(rd_T87 x19 x21).f0, (rd_T87 x19 x21).f1, (rd_T87 x19 x21).f2, (rd_T87 x19 x21).f3, (rd_T87 x19 x21).f4, (rd_T87 x19 x21).f5, (y129 ++ ((rd_T87 x19 x21).f6)), (rd_T87 x19 x21).f7⟩ : S87)])) else (none)) else (none))) else (some (([] : List (S124)), t128, x21)))) else (none)) else (none)) else (some ([(⟨x126000⟩ : S124)], 0, 0))
def metrics_New.f (k : Nat) (l0 : List (S87)) : Option ((List (S124)) × Int × Int) := if (l0.length : Int) = 0 then (some (([] : List (S124)), 40, 0)) else (if (l0.length : Int) > 32 then (some (([] : List (S124)), 40, 0)) else (metrics_New.l0 k l0 (l0.length : Int) 0 ([] : List (S87))))
theorem metrics_New.mono_l : ∀ k, (∀ y0 y1 y2 y3, LeO (metrics_New.l0 k y0 y1 y2 y3) (metrics_New.l0 (k + 1) y0 y1 y2 y3))
  | 0 => fun _ _ _ _ r h => by simp [metrics_New.l0] at h
  | k + 1 => by
    have ih0 := metrics_New.mono_l k
    · intro y0 y1 y2 y3
      unfold metrics_New.l0
      repeat' first
      | (with_reducible exact ih0 _ _ _ _)
      | (with_reducible exact metrics_check.mono _ _ _ _ _ _ _ _ _)
      | (with_reducible exact LeO.refl _)
      | (with_reducible exact LeO.none _)
      | (with_reducible refine LeO.ite ?_ ?_)
      | (with_reducible refine LeO.bind ?_ (fun _ => ?_))
      | exact ih0 _ _ _ _
      | exact metrics_check.mono _ _ _ _ _ _ _ _ _
      | exact LeO.none _
      | refine LeO.ite ?_ ?_
      | refine LeO.bind ?_ (fun _ => ?_)
theorem metrics_New.mono : ∀ a0 k, LeO (metrics_New.f k a0) (metrics_New.f (k + 1) a0) := by
  intro a0 k
  have ih0 := metrics_New.mono_l k
  unfold metrics_New.f
  repeat' first
      | (with_reducible exact ih0 _ _ _ _)
      | (with_reducible exact metrics_check.mono _ _ _ _ _ _ _ _ _)
      | (with_reducible exact LeO.refl _)
      | (with_reducible exact LeO.none _)
      | (with_reducible refine LeO.ite ?_ ?_)
      | (with_reducible refine LeO.bind ?_ (fun _ => ?_))
      | exact ih0 _ _ _ _
      | exact metrics_check.mono _ _ _ _ _ _ _ _ _
      | exact LeO.none _
      | refine LeO.ite ?_ ?_
      | refine LeO.bind ?_ (fun _ => ?_)
def metrics_New.T11 : Bool × List (List Nat × List Nat) := (true, [([], []), ([], []), ([1], [1]), ([2], [2]), ([3], [3]), ([], []), ([5], [5]), ([4, 6], [4, 6]), ([0, 0, 1, 2, 3, 4, 5, 6, 7], [0]), ([8, 0, 1, 2, 3, 4, 5, 6, 7], [8]), ([9, 7, 7, 0, 1, 2, 3, 4, 5, 6, 7], [7, 9])])
def metrics_New.B11 : List Nat := [0, 0, 2, 6, 14, 0, 32, 126, 255, 511, 1023]
def regletlaw21_table.f (k : Nat) (l0 : List (S87)) : Option ((List (S124))) := (regletref04_Check.f k l0).bind fun bt140 => (if bt140.1 = 0 then ((metrics_New.f k l0).bind fun bt142 => (some bt142.1)) else (some ([] : List (S124))))
theorem regletlaw21_table.mono : ∀ a0 k, LeO (regletlaw21_table.f k a0) (regletlaw21_table.f (k + 1) a0) := by
  intro a0 k
  unfold regletlaw21_table.f
  repeat' first
      | (with_reducible exact metrics_New.mono _ _)
      | (with_reducible exact regletref04_Check.mono _ _)
      | (with_reducible exact LeO.refl _)
      | (with_reducible exact LeO.none _)
      | (with_reducible refine LeO.ite ?_ ?_)
      | (with_reducible refine LeO.bind ?_ (fun _ => ?_))
      | exact metrics_New.mono _ _
      | exact regletref04_Check.mono _ _
      | exact LeO.none _
      | refine LeO.ite ?_ ?_
      | refine LeO.bind ?_ (fun _ => ?_)
mutual
def runes_Kind.j0 : Nat → Int → Bool → Option (Int)
  | 0, _, _ => none
  | k + 1, x3, x4 => if x4 = true then (some 1) else (if x3 = 160 then (runes_Kind.j1 k x3 (x3 == 160)) else (runes_Kind.j1 k x3 (x3 == 8239)))
def runes_Kind.j1 : Nat → Int → Bool → Option (Int)
  | 0, _, _ => none
  | k + 1, x3, x7 => if x7 = true then (some 2) else (if x3 = 173 then (some 3) else (if x3 = 8203 then (some 4) else (if x3 = 8288 then (runes_Kind.j2 k x3 (x3 == 8288)) else (runes_Kind.j2 k x3 (x3 == 65279)))))
def runes_Kind.j2 : Nat → Int → Bool → Option (Int)
  | 0, _, _ => none
  | k + 1, x3, x14 => if x14 = true then (some 5) else (if x3 = 45 then (runes_Kind.j3 k x3 (x3 == 45)) else (runes_Kind.j3 k x3 (x3 == 8208)))
def runes_Kind.j3 : Nat → Int → Bool → Option (Int)
  | 0, _, _ => none
  | k + 1, x3, x17 => if x17 = true then (some 6) else (if x3 = 8232 then (some 7) else (if x3 = 10 then (some 8) else (some 0)))
end
def runes_Kind.f (k : Nat) (a0 : Int) : Option (Int) := if a0 = 32 then (runes_Kind.j0 k a0 (a0 == 32)) else (runes_Kind.j0 k a0 (a0 == 9))
theorem runes_Kind.mono_l : ∀ k, (∀ y0 y1, LeO (runes_Kind.j0 k y0 y1) (runes_Kind.j0 (k + 1) y0 y1)) ∧ (∀ y0 y1, LeO (runes_Kind.j1 k y0 y1) (runes_Kind.j1 (k + 1) y0 y1)) ∧ (∀ y0 y1, LeO (runes_Kind.j2 k y0 y1) (runes_Kind.j2 (k + 1) y0 y1)) ∧ (∀ y0 y1, LeO (runes_Kind.j3 k y0 y1) (runes_Kind.j3 (k + 1) y0 y1))
  | 0 => ⟨fun _ _ r h => by simp [runes_Kind.j0] at h, fun _ _ r h => by simp [runes_Kind.j1] at h, fun _ _ r h => by simp [runes_Kind.j2] at h, fun _ _ r h => by simp [runes_Kind.j3] at h⟩
  | k + 1 => by
    obtain ⟨ih0, ih1, ih2, ih3⟩ := runes_Kind.mono_l k
    refine ⟨?_, ?_, ?_, ?_⟩
    · intro y0 y1
      unfold runes_Kind.j0
      repeat' first
      | (with_reducible exact ih0 _ _)
      | (with_reducible exact ih1 _ _)
      | (with_reducible exact ih2 _ _)
      | (with_reducible exact ih3 _ _)
      | (with_reducible exact LeO.refl _)
      | (with_reducible exact LeO.none _)
      | (with_reducible refine LeO.ite ?_ ?_)
      | (with_reducible refine LeO.bind ?_ (fun _ => ?_))
      | exact ih0 _ _
      | exact ih1 _ _
      | exact ih2 _ _
      | exact ih3 _ _
      | exact LeO.none _
      | refine LeO.ite ?_ ?_
      | refine LeO.bind ?_ (fun _ => ?_)
    · intro y0 y1
      unfold runes_Kind.j1
      repeat' first
      | (with_reducible exact ih0 _ _)
      | (with_reducible exact ih1 _ _)
      | (with_reducible exact ih2 _ _)
      | (with_reducible exact ih3 _ _)
      | (with_reducible exact LeO.refl _)
      | (with_reducible exact LeO.none _)
      | (with_reducible refine LeO.ite ?_ ?_)
      | (with_reducible refine LeO.bind ?_ (fun _ => ?_))
      | exact ih0 _ _
      | exact ih1 _ _
      | exact ih2 _ _
      | exact ih3 _ _
      | exact LeO.none _
      | refine LeO.ite ?_ ?_
      | refine LeO.bind ?_ (fun _ => ?_)
    · intro y0 y1
      unfold runes_Kind.j2
      repeat' first
      | (with_reducible exact ih0 _ _)
      | (with_reducible exact ih1 _ _)
      | (with_reducible exact ih2 _ _)
      | (with_reducible exact ih3 _ _)
      | (with_reducible exact LeO.refl _)
      | (with_reducible exact LeO.none _)
      | (with_reducible refine LeO.ite ?_ ?_)
      | (with_reducible refine LeO.bind ?_ (fun _ => ?_))
      | exact ih0 _ _
      | exact ih1 _ _
      | exact ih2 _ _
      | exact ih3 _ _
      | exact LeO.none _
      | refine LeO.ite ?_ ?_
      | refine LeO.bind ?_ (fun _ => ?_)
    · intro y0 y1
      unfold runes_Kind.j3
      repeat' first
      | (with_reducible exact ih0 _ _)
      | (with_reducible exact ih1 _ _)
      | (with_reducible exact ih2 _ _)
      | (with_reducible exact ih3 _ _)
      | (with_reducible exact LeO.refl _)
      | (with_reducible exact LeO.none _)
      | (with_reducible refine LeO.ite ?_ ?_)
      | (with_reducible refine LeO.bind ?_ (fun _ => ?_))
      | exact ih0 _ _
      | exact ih1 _ _
      | exact ih2 _ _
      | exact ih3 _ _
      | exact LeO.none _
      | refine LeO.ite ?_ ?_
      | refine LeO.bind ?_ (fun _ => ?_)
theorem runes_Kind.mono : ∀ a0 k, LeO (runes_Kind.f k a0) (runes_Kind.f (k + 1) a0) := by
  intro a0 k
  obtain ⟨ih0, ih1, ih2, ih3⟩ := runes_Kind.mono_l k
  unfold runes_Kind.f
  repeat' first
      | (with_reducible exact ih0 _ _)
      | (with_reducible exact ih1 _ _)
      | (with_reducible exact ih2 _ _)
      | (with_reducible exact ih3 _ _)
      | (with_reducible exact LeO.refl _)
      | (with_reducible exact LeO.none _)
      | (with_reducible refine LeO.ite ?_ ?_)
      | (with_reducible refine LeO.bind ?_ (fun _ => ?_))
      | exact ih0 _ _
      | exact ih1 _ _
      | exact ih2 _ _
      | exact ih3 _ _
      | exact LeO.none _
      | refine LeO.ite ?_ ?_
      | refine LeO.bind ?_ (fun _ => ?_)
def scaled_Clamp.f (a0 : Int) : Option (Int) := some (mx (-1152921504606846976) (mn 1152921504606846976 a0))
def scaled_Add.f (a0 : Int) (a1 : Int) : Option (Int) := (scaled_Clamp.f a0).bind fun t147 => ((scaled_Clamp.f a1).bind fun t148 => ((scaled_Clamp.f (wrap64 (t147 + t148))).bind fun t149 => (some t149)))
def more_ (s : ByteArray) (i : Int) : Nat → Int → Int → Int → Int
  | 0, n, _, _ => n - i
  | k + 1, n, lo, hi => if (s.size : Int) ≤ n then 0 else if bt s n < lo then 0 else if hi < bt s n then 0 else more_ s i k (n + 1) 128 191
def lead_ (s : ByteArray) (i c : Int) : Int :=
  if c < 128 then 1 else if c < 194 then 0 else if 244 < c then 0 else
  if c < 224 then more_ s i 1 (i + 1) 128 191 else
  if c < 240 then (if c = 224 then more_ s i 2 (i + 1) 160 191 else if c = 237 then more_ s i 2 (i + 1) 128 159 else more_ s i 2 (i + 1) 128 191) else
  if c = 240 then more_ s i 3 (i + 1) 144 191 else if c = 244 then more_ s i 3 (i + 1) 128 143 else more_ s i 3 (i + 1) 128 191
def rsize_ (s : ByteArray) (i : Int) : Int := if i < 0 then 0 else if (s.size : Int) ≤ i then 0 else lead_ s i (bt s i)
def vOf (s : ByteArray) (i n : Int) : Int :=
  if n = 1 then bt s i else if n = 2 then bt s i % 32 * 64 + bt s (i + 1) % 64
  else if n = 3 then (bt s i % 16 * 64 + bt s (i + 1) % 64) * 64 + bt s (i + 2) % 64
  else ((bt s i % 8 * 64 + bt s (i + 1) % 64) * 64 + bt s (i + 2) % 64) * 64 + bt s (i + 3) % 64
theorem vOf_range (s : ByteArray) (i n : Int) : 0 ≤ vOf s i n ∧ vOf s i n ≤ 2097151 := by
  have hb := bt_range s i
  have hb1 := bt_range s (i + 1)
  have hb2 := bt_range s (i + 2)
  have hb3 := bt_range s (i + 3)
  unfold vOf
  (repeat' split) <;> omega
def rl_ (s : ByteArray) : Nat → Int → List Int
  | 0, _ => []
  | k + 1, i => if i < (s.size : Int) then (if rsize_ s i = 0 then [] else vOf s i (rsize_ s i) :: rl_ s k (i + rsize_ s i)) else []
def al_ (s : ByteArray) : Nat → Int → List Int
  | 0, _ => []
  | k + 1, i => if i < (s.size : Int) then (if rsize_ s i = 0 then [] else i :: al_ s k (i + rsize_ s i)) else []
def bd_ (s : ByteArray) : Nat → Int → Int
  | 0, _ => -1
  | k + 1, i => if i < (s.size : Int) then (if rsize_ s i = 0 then i else bd_ s k (i + rsize_ s i)) else -1
def right_ (s : ByteArray) : Bool := decide (bd_ s (s.size + 1) 0 < 0)
def is2_ (s : ByteArray) (i : Int) : Bool := decide (194 ≤ bt s i ∧ bt s i < 224 ∧ 128 ≤ bt s (i + 1) ∧ bt s (i + 1) ≤ 191)
def is3_ (s : ByteArray) (i : Int) : Bool := decide (224 ≤ bt s i ∧ bt s i < 240 ∧ (bt s i = 224 → 160 ≤ bt s (i + 1)) ∧ (bt s i = 237 → bt s (i + 1) ≤ 159) ∧ 128 ≤ bt s (i + 1) ∧ bt s (i + 1) ≤ 191 ∧ 128 ≤ bt s (i + 2) ∧ bt s (i + 2) ≤ 191)
def is4_ (s : ByteArray) (i : Int) : Bool := decide (240 ≤ bt s i ∧ bt s i ≤ 244 ∧ (bt s i = 240 → 144 ≤ bt s (i + 1)) ∧ (bt s i = 244 → bt s (i + 1) ≤ 143) ∧ 128 ≤ bt s (i + 1) ∧ bt s (i + 1) ≤ 191 ∧ 128 ≤ bt s (i + 2) ∧ bt s (i + 2) ≤ 191 ∧ 128 ≤ bt s (i + 3) ∧ bt s (i + 3) ≤ 191)
theorem is2_iff (s : ByteArray) (i : Int) : is2_ s i = true ↔ (194 ≤ bt s i ∧ bt s i < 224 ∧ 128 ≤ bt s (i + 1) ∧ bt s (i + 1) ≤ 191) := decide_eq_true_iff
theorem is3_iff (s : ByteArray) (i : Int) : is3_ s i = true ↔ (224 ≤ bt s i ∧ bt s i < 240 ∧ (bt s i = 224 → 160 ≤ bt s (i + 1)) ∧ (bt s i = 237 → bt s (i + 1) ≤ 159) ∧ 128 ≤ bt s (i + 1) ∧ bt s (i + 1) ≤ 191 ∧ 128 ≤ bt s (i + 2) ∧ bt s (i + 2) ≤ 191) := decide_eq_true_iff
theorem is4_iff (s : ByteArray) (i : Int) : is4_ s i = true ↔ (240 ≤ bt s i ∧ bt s i ≤ 244 ∧ (bt s i = 240 → 144 ≤ bt s (i + 1)) ∧ (bt s i = 244 → bt s (i + 1) ≤ 143) ∧ 128 ≤ bt s (i + 1) ∧ bt s (i + 1) ≤ 191 ∧ 128 ≤ bt s (i + 2) ∧ bt s (i + 2) ≤ 191 ∧ 128 ≤ bt s (i + 3) ∧ bt s (i + 3) ≤ 191) := decide_eq_true_iff
theorem more_eq (s : ByteArray) (i : Int) : ∀ (k : Nat) (n lo hi : Int), more_ s i (k + 1) n lo hi = if (s.size : Int) ≤ n ∨ bt s n < lo ∨ hi < bt s n then 0 else more_ s i k (n + 1) 128 191 := by
  intro k n lo hi
  simp only [more_]
  by_cases h1 : (s.size : Int) ≤ n
  · rw [if_pos h1, if_pos (.inl h1)]
  rw [if_neg h1]
  by_cases h2 : bt s n < lo
  · rw [if_pos h2, if_pos (.inr (.inl h2))]
  rw [if_neg h2]
  by_cases h3 : hi < bt s n
  · rw [if_pos h3, if_pos (.inr (.inr h3))]
  rw [if_neg h3, if_neg (by omega)]
theorem rsize_is (s : ByteArray) (i : Int) (h0 : 0 ≤ i) (h1 : i < s.size) :
    rsize_ s i = if bt s i < 128 then 1 else if i + 2 ≤ s.size ∧ is2_ s i = true then 2 else if i + 3 ≤ s.size ∧ is3_ s i = true then 3 else if i + 4 ≤ s.size ∧ is4_ s i = true then 4 else 0 := by
  have hb := bt_range s i
  have hb1 := bt_range s (i + 1)
  have hb2 := bt_range s (i + 2)
  have hb3 := bt_range s (i + 3)
  have e2 : i + 1 + 1 = i + 2 := by omega
  have e3 : i + 2 + 1 = i + 3 := by omega
  have e4 : i + 3 + 1 - i = 4 := by omega
  have m2 := is2_iff s i
  have m3 := is3_iff s i
  have m4 := is4_iff s i
  generalize is2_ s i = a2 at *
  generalize is3_ s i = a3 at *
  generalize is4_ s i = a4 at *
  have z0 : ∀ n, more_ s i 0 n 128 191 = n - i := fun _ => rfl
  unfold rsize_ lead_
  rw [if_neg (by omega), if_neg (by omega)]
  simp only [more_eq, z0, e2, e3]
  generalize bt s i = c at *
  generalize bt s (i + 1) = d at *
  generalize bt s (i + 2) = e at *
  generalize bt s (i + 3) = f at *
  by_cases b2 : i + 2 ≤ s.size ∧ a2 = true
  · have := m2.1 b2.2
    rw [if_neg (by omega), if_neg (by omega), if_neg (by omega), if_pos (by omega), if_neg (by omega), if_neg (by omega), if_pos b2]
    omega
  by_cases b3 : i + 3 ≤ s.size ∧ a3 = true
  · have := m3.1 b3.2
    rw [if_neg (by omega), if_neg (by omega), if_neg (by omega), if_neg (by omega), if_pos (by omega), if_neg (by omega : ¬ c < 128), if_neg b2, if_pos b3]
    by_cases c1 : c = 224
    · rw [if_pos c1, if_neg (by omega), if_neg (by omega)]; omega
    rw [if_neg c1]
    by_cases c2 : c = 237
    · rw [if_pos c2, if_neg (by omega), if_neg (by omega)]; omega
    rw [if_neg c2, if_neg (by omega), if_neg (by omega)]; omega
  by_cases b4 : i + 4 ≤ s.size ∧ a4 = true
  · have := m4.1 b4.2
    rw [if_neg (by omega), if_neg (by omega), if_neg (by omega), if_neg (by omega), if_neg (by omega), if_neg (by omega : ¬ c < 128), if_neg b2, if_neg b3, if_pos b4]
    by_cases c1 : c = 240
    · rw [if_pos c1, if_neg (by omega), if_neg (by omega), if_neg (by omega)]; omega
    rw [if_neg c1]
    by_cases c2 : c = 244
    · rw [if_pos c2, if_neg (by omega), if_neg (by omega), if_neg (by omega)]; omega
    rw [if_neg c2, if_neg (by omega), if_neg (by omega), if_neg (by omega)]; omega
  rw [if_neg b2, if_neg b3, if_neg b4]
  have n2 : ¬ (i + 2 ≤ s.size ∧ 194 ≤ c ∧ c < 224 ∧ 128 ≤ d ∧ d ≤ 191) := fun h => b2 ⟨h.1, m2.2 h.2⟩
  have n3 : ¬ (i + 3 ≤ s.size ∧ 224 ≤ c ∧ c < 240 ∧ (c = 224 → 160 ≤ d) ∧ (c = 237 → d ≤ 159) ∧ 128 ≤ d ∧ d ≤ 191 ∧ 128 ≤ e ∧ e ≤ 191) := fun h => b3 ⟨h.1, m3.2 h.2⟩
  have n4 : ¬ (i + 4 ≤ s.size ∧ 240 ≤ c ∧ c ≤ 244 ∧ (c = 240 → 144 ≤ d) ∧ (c = 244 → d ≤ 143) ∧ 128 ≤ d ∧ d ≤ 191 ∧ 128 ≤ e ∧ e ≤ 191 ∧ 128 ≤ f ∧ f ≤ 191) := fun h => b4 ⟨h.1, m4.2 h.2⟩
  clear m2 m3 m4 b2 b3 b4
  by_cases c1 : c < 128
  · rw [if_pos c1, if_pos c1]
  rw [if_neg c1, if_neg c1]
  by_cases c2 : c < 194
  · rw [if_pos c2]
  rw [if_neg c2]
  by_cases c3 : 244 < c
  · rw [if_pos c3]
  rw [if_neg c3]
  by_cases c4 : c < 224
  · rw [if_pos c4, if_pos (by omega)]
  rw [if_neg c4]
  by_cases c5 : c < 240
  · rw [if_pos c5]
    by_cases k1 : c = 224
    · rw [if_pos k1]
      by_cases q : (s.size : Int) ≤ i + 1 ∨ d < 160 ∨ 191 < d
      · rw [if_pos q]
      · rw [if_neg q, if_pos (by omega)]
    rw [if_neg k1]
    by_cases k2 : c = 237
    · rw [if_pos k2]
      by_cases q : (s.size : Int) ≤ i + 1 ∨ d < 128 ∨ 159 < d
      · rw [if_pos q]
      · rw [if_neg q, if_pos (by omega)]
    rw [if_neg k2]
    by_cases q : (s.size : Int) ≤ i + 1 ∨ d < 128 ∨ 191 < d
    · rw [if_pos q]
    · rw [if_neg q, if_pos (by omega)]
  rw [if_neg c5]
  by_cases k1 : c = 240
  · rw [if_pos k1]
    by_cases q : (s.size : Int) ≤ i + 1 ∨ d < 144 ∨ 191 < d
    · rw [if_pos q]
    rw [if_neg q]
    by_cases q2 : (s.size : Int) ≤ i + 2 ∨ e < 128 ∨ 191 < e
    · rw [if_pos q2]
    · rw [if_neg q2, if_pos (by omega)]
  rw [if_neg k1]
  by_cases k2 : c = 244
  · rw [if_pos k2]
    by_cases q : (s.size : Int) ≤ i + 1 ∨ d < 128 ∨ 143 < d
    · rw [if_pos q]
    rw [if_neg q]
    by_cases q2 : (s.size : Int) ≤ i + 2 ∨ e < 128 ∨ 191 < e
    · rw [if_pos q2]
    · rw [if_neg q2, if_pos (by omega)]
  rw [if_neg k2]
  by_cases q : (s.size : Int) ≤ i + 1 ∨ d < 128 ∨ 191 < d
  · rw [if_pos q]
  rw [if_neg q]
  by_cases q2 : (s.size : Int) ≤ i + 2 ∨ e < 128 ∨ 191 < e
  · rw [if_pos q2]
  · rw [if_neg q2, if_pos (by omega)]
theorem getb (s : ByteArray) (i k : Nat) (h : i + k < s.size) : ((s.get! (i + k)).toNat : Int) = bt s ((i : Int) + k) := by
  have e : ((i : Int) + (k : Int)).toNat = i + k := by omega
  rw [← bt_at s _ (by rw [e]; exact h)]
  simp only [e]
  have : s.get! (i + k) = s[i + k]'h := by
    simp [ByteArray.get!, getElem!_pos, h]
    rfl
  rw [this]
theorem decode_eq {s : ByteArray} {i : Nat} (hi : i < s.size) (hz : ¬ rsize_ s i = 0) : Utf8.decode s i = ((vOf s i (rsize_ s i)).toNat, (rsize_ s i).toNat) := by
  have hr := rsize_is s i (by omega) (by omega)
  have hb0 := getb s i 0 (by omega)
  rw [show ((i : Int) + ((0 : Nat) : Int)) = (i : Int) by omega] at hb0
  have hb := bt_range s i
  have hb1 := bt_range s (i + 1)
  have hb2 := bt_range s (i + 2)
  have hb3 := bt_range s (i + 3)
  simp only [Utf8.decode]
  by_cases c1 : bt s i < 128
  · rw [if_pos c1] at hr
    rw [hr, if_pos (by omega)]
    have : vOf s i 1 = bt s i := by unfold vOf; rw [if_pos rfl]
    rw [this, ← hb0]; rfl
  rw [if_neg c1] at hr
  rw [if_neg (by omega)]
  by_cases c2 : (i : Int) + 2 ≤ s.size ∧ is2_ s i = true
  · rw [if_pos c2] at hr
    have h2 := (is2_iff s i).1 c2.2
    have g1 := getb s i 1 (by omega)
    rw [show ((1 : Nat) : Int) = 1 from rfl] at g1
    have e1 : ((s.get! (i + 0)).toNat / 32 == 6 && (decide (i + 1 < s.size) && (s.get! (i + 1)).toNat / 64 == 2)) = true := by
      simp only [Bool.and_eq_true, beq_iff_eq, decide_eq_true_eq]
      refine ⟨by omega, by omega, by omega⟩
    rw [if_pos e1, if_pos (by omega), hr]
    have : vOf s i 2 = bt s i % 32 * 64 + bt s (i + 1) % 64 := by unfold vOf; rw [if_neg (by decide), if_pos rfl]
    rw [this]
    refine Prod.ext ?_ rfl
    show _ = (bt s i % 32 * 64 + bt s (i + 1) % 64).toNat
    omega
  rw [if_neg c2] at hr
  have n1 : ¬ ((s.get! (i + 0)).toNat / 32 == 6 && (decide (i + 1 < s.size) && (s.get! (i + 1)).toNat / 64 == 2)) = true ∨ True := .inr trivial
  clear n1
  by_cases c3 : (i : Int) + 3 ≤ s.size ∧ is3_ s i = true
  · rw [if_pos c3] at hr
    have h3 := (is3_iff s i).1 c3.2
    have g1 := getb s i 1 (by omega)
    have g2 := getb s i 2 (by omega)
    rw [show ((1 : Nat) : Int) = 1 from rfl] at g1
    rw [show ((2 : Nat) : Int) = 2 from rfl] at g2
    have e0 : ¬ ((s.get! (i + 0)).toNat / 32 == 6 && (decide (i + 1 < s.size) && (s.get! (i + 1)).toNat / 64 == 2)) = true := by
      simp only [Bool.and_eq_true, beq_iff_eq, decide_eq_true_eq]
      omega
    have e1 : ((s.get! (i + 0)).toNat / 16 == 14 && (decide (i + 1 < s.size) && (s.get! (i + 1)).toNat / 64 == 2) && (decide (i + 2 < s.size) && (s.get! (i + 2)).toNat / 64 == 2)) = true := by
      simp only [Bool.and_eq_true, beq_iff_eq, decide_eq_true_eq]
      refine ⟨⟨by omega, by omega, by omega⟩, by omega, by omega⟩
    have e2 : ∀ c : Nat, (c : Int) = (bt s i % 16 * 64 + bt s (i + 1) % 64) * 64 + bt s (i + 2) % 64 → (decide (c ≥ 2048) && Utf8.valid c) = true := by
      intro c hc
      simp only [Utf8.valid, Bool.and_eq_true, Bool.or_eq_true, decide_eq_true_eq]
      omega
    rw [if_neg e0, if_pos e1, if_pos (e2 _ (by omega)), hr]
    have : vOf s i 3 = (bt s i % 16 * 64 + bt s (i + 1) % 64) * 64 + bt s (i + 2) % 64 := by unfold vOf; rw [if_neg (by decide), if_neg (by decide), if_pos rfl]
    rw [this]
    refine Prod.ext ?_ rfl
    show _ = ((bt s i % 16 * 64 + bt s (i + 1) % 64) * 64 + bt s (i + 2) % 64).toNat
    omega
  rw [if_neg c3] at hr
  by_cases c4 : (i : Int) + 4 ≤ s.size ∧ is4_ s i = true
  · rw [if_pos c4] at hr
    have h4 := (is4_iff s i).1 c4.2
    have g1 := getb s i 1 (by omega)
    have g2 := getb s i 2 (by omega)
    have g3 := getb s i 3 (by omega)
    rw [show ((1 : Nat) : Int) = 1 from rfl] at g1
    rw [show ((2 : Nat) : Int) = 2 from rfl] at g2
    rw [show ((3 : Nat) : Int) = 3 from rfl] at g3
    have e0 : ¬ ((s.get! (i + 0)).toNat / 32 == 6 && (decide (i + 1 < s.size) && (s.get! (i + 1)).toNat / 64 == 2)) = true := by
      simp only [Bool.and_eq_true, beq_iff_eq, decide_eq_true_eq]
      omega
    have e1 : ¬ ((s.get! (i + 0)).toNat / 16 == 14 && (decide (i + 1 < s.size) && (s.get! (i + 1)).toNat / 64 == 2) && (decide (i + 2 < s.size) && (s.get! (i + 2)).toNat / 64 == 2)) = true := by
      simp only [Bool.and_eq_true, beq_iff_eq, decide_eq_true_eq]
      omega
    have e3 : ((s.get! (i + 0)).toNat / 8 == 30 && (decide (i + 1 < s.size) && (s.get! (i + 1)).toNat / 64 == 2) && (decide (i + 2 < s.size) && (s.get! (i + 2)).toNat / 64 == 2) && (decide (i + 3 < s.size) && (s.get! (i + 3)).toNat / 64 == 2)) = true := by
      simp only [Bool.and_eq_true, beq_iff_eq, decide_eq_true_eq]
      refine ⟨⟨⟨by omega, by omega, by omega⟩, by omega, by omega⟩, by omega, by omega⟩
    have e2 : ∀ c : Nat, (c : Int) = ((bt s i % 8 * 64 + bt s (i + 1) % 64) * 64 + bt s (i + 2) % 64) * 64 + bt s (i + 3) % 64 → (decide (c ≥ 65536) && Utf8.valid c) = true := by
      intro c hc
      simp only [Utf8.valid, Bool.and_eq_true, Bool.or_eq_true, decide_eq_true_eq]
      omega
    rw [if_neg e0, if_neg e1, if_pos e3, if_pos (e2 _ (by omega)), hr]
    have : vOf s i 4 = ((bt s i % 8 * 64 + bt s (i + 1) % 64) * 64 + bt s (i + 2) % 64) * 64 + bt s (i + 3) % 64 := by unfold vOf; rw [if_neg (by decide), if_neg (by decide), if_neg (by decide)]
    rw [this]
    refine Prod.ext ?_ rfl
    show _ = (((bt s i % 8 * 64 + bt s (i + 1) % 64) * 64 + bt s (i + 2) % 64) * 64 + bt s (i + 3) % 64).toNat
    omega
  rw [if_neg c4] at hr
  exact absurd hr hz
theorem bd_step {s : ByteArray} {q : Nat} {i : Int} (h : bd_ s (q + 1) i < 0) (h0 : 0 ≤ i) (hi : i < s.size) : ¬ rsize_ s i = 0 ∧ bd_ s q (i + rsize_ s i) < 0 := by
  simp only [bd_] at h
  rw [if_pos hi] at h
  by_cases hz : rsize_ s i = 0
  · rw [if_pos hz] at h; omega
  · rw [if_neg hz] at h; exact ⟨hz, h⟩
theorem more_rng (s : ByteArray) (i : Int) : ∀ (k : Nat) (n lo hi : Int), n ≤ s.size → more_ s i k n lo hi = 0 ∨ (more_ s i k n lo hi = n + k - i ∧ n + k ≤ s.size)
  | 0, n, _, _, h => by right; simp only [more_]; omega
  | k + 1, n, lo, hi, h => by
    simp only [more_]
    split
    · left; rfl
    split
    · left; rfl
    split
    · left; rfl
    have := more_rng s i k (n + 1) 128 191 (by omega)
    omega
theorem rsize_rng (s : ByteArray) (i : Int) : rsize_ s i = 0 ∨ (1 ≤ rsize_ s i ∧ rsize_ s i ≤ 4 ∧ i + rsize_ s i ≤ s.size) := by
  unfold rsize_
  split
  · left; rfl
  split
  · left; rfl
  unfold lead_
  have a1 := more_rng s i 1 (i + 1) 128 191 (by omega)
  have a2 := more_rng s i 2 (i + 1) 160 191 (by omega)
  have a3 := more_rng s i 2 (i + 1) 128 159 (by omega)
  have a4 := more_rng s i 2 (i + 1) 128 191 (by omega)
  have a5 := more_rng s i 3 (i + 1) 144 191 (by omega)
  have a6 := more_rng s i 3 (i + 1) 128 143 (by omega)
  have a7 := more_rng s i 3 (i + 1) 128 191 (by omega)
  (repeat' split) <;> omega
theorem rl_cons {s : ByteArray} {q : Nat} {i : Int} (hi : i < s.size) (hz : ¬ rsize_ s i = 0) : rl_ s (q + 1) i = vOf s i (rsize_ s i) :: rl_ s q (i + rsize_ s i) := by
  simp only [rl_]; rw [if_pos hi, if_neg hz]
theorem rl_end {s : ByteArray} {q : Nat} {i : Int} (hi : ¬ i < s.size) : rl_ s q i = [] := by
  cases q with
  | zero => rfl
  | succ q => simp only [rl_]; rw [if_neg hi]
def runes_size.f (a0 : ByteArray) (a1 : Int) : Option Int := if (a0.size : Int) ≤ 4611686018427387904 then some (rsize_ a0 a1) else none
def runes_First.l0 : Nat → Int → ByteArray → Int → Option (Int × Int)
  | 0, _, _, _ => none
  | k + 1, x4, x152000, x152001 => if (x152001 : Int).toNat < x152000.size then (some (itR_ x152000 x152001, x4)) else (some (0, 0))
def runes_First.f (k : Nat) (a0 : ByteArray) : Option (Int × Int) := (runes_size.f a0 0).bind fun t150 => (if 0 ≤ t150 then (if t150 ≤ (a0.size : Int) then (runes_First.l0 k t150 (a0.extract 0 (t150 : Int).toNat) 0) else (none)) else (none))
theorem runes_First.mono_l : ∀ k, (∀ y0 y1 y2, LeO (runes_First.l0 k y0 y1 y2) (runes_First.l0 (k + 1) y0 y1 y2))
  | 0 => fun _ _ _ r h => by simp [runes_First.l0] at h
  | k + 1 => by
    have ih0 := runes_First.mono_l k
    · intro y0 y1 y2
      unfold runes_First.l0
      repeat' first
      | (with_reducible exact ih0 _ _ _)
      | (with_reducible exact LeO.refl _)
      | (with_reducible exact LeO.none _)
      | (with_reducible refine LeO.ite ?_ ?_)
      | (with_reducible refine LeO.bind ?_ (fun _ => ?_))
      | exact ih0 _ _ _
      | exact LeO.none _
      | refine LeO.ite ?_ ?_
      | refine LeO.bind ?_ (fun _ => ?_)
theorem runes_First.mono : ∀ a0 k, LeO (runes_First.f k a0) (runes_First.f (k + 1) a0) := by
  intro a0 k
  have ih0 := runes_First.mono_l k
  unfold runes_First.f
  repeat' first
      | (with_reducible exact ih0 _ _ _)
      | (with_reducible exact LeO.refl _)
      | (with_reducible exact LeO.none _)
      | (with_reducible refine LeO.ite ?_ ?_)
      | (with_reducible refine LeO.bind ?_ (fun _ => ?_))
      | exact ih0 _ _ _
      | exact LeO.none _
      | refine LeO.ite ?_ ?_
      | refine LeO.bind ?_ (fun _ => ?_)
def locate_shown.l0 : Nat → ByteArray → Int → ByteArray → Int → Option (Int)
  | 0, _, _, _, _ => none
  | k + 1, x0, x3, x153000, x153001 => if (x153001 : Int).toNat < x153000.size then ((runes_Kind.f k (itR_ x153000 x153001)).bind fun t153 => (if t153 = 0 then (if 0 ≤ (itP_ x153001) then (if (itP_ x153001) ≤ (x0.size : Int) then ((runes_First.f k (x0.extract ((itP_ x153001) : Int).toNat x0.size)).bind fun bt154 => (locate_shown.l0 k x0 (wrap64 ((itP_ x153001) + bt154.2)) x153000 (itN_ x153000 x153001))) else (none)) else (none)) else (if t153 = 2 then (if 0 ≤ (itP_ x153001) then (if (itP_ x153001) ≤ (x0.size : Int) then ((runes_First.f k (x0.extract ((itP_ x153001) : Int).toNat x0.size)).bind fun bt156 => (locate_shown.l0 k x0 (wrap64 ((itP_ x153001) + bt156.2)) x153000 (itN_ x153000 x153001))) else (none)) else (none)) else (if t153 = 6 then (if 0 ≤ (itP_ x153001) then (if (itP_ x153001) ≤ (x0.size : Int) then ((runes_First.f k (x0.extract ((itP_ x153001) : Int).toNat x0.size)).bind fun bt158 => (locate_shown.l0 k x0 (wrap64 ((itP_ x153001) + bt158.2)) x153000 (itN_ x153000 x153001))) else (none)) else (none)) else (locate_shown.l0 k x0 x3 x153000 (itN_ x153000 x153001)))))) else (some x3)
def locate_shown.f (k : Nat) (a0 : ByteArray) : Option (Int) := locate_shown.l0 k a0 0 a0 0
theorem locate_shown.mono_l : ∀ k, (∀ y0 y1 y2 y3, LeO (locate_shown.l0 k y0 y1 y2 y3) (locate_shown.l0 (k + 1) y0 y1 y2 y3))
  | 0 => fun _ _ _ _ r h => by simp [locate_shown.l0] at h
  | k + 1 => by
    have ih0 := locate_shown.mono_l k
    · intro y0 y1 y2 y3
      unfold locate_shown.l0
      repeat' first
      | (with_reducible exact ih0 _ _ _ _)
      | (with_reducible exact runes_First.mono _ _)
      | (with_reducible exact runes_Kind.mono _ _)
      | (with_reducible exact LeO.refl _)
      | (with_reducible exact LeO.none _)
      | (with_reducible refine LeO.ite ?_ ?_)
      | (with_reducible refine LeO.bind ?_ (fun _ => ?_))
      | exact ih0 _ _ _ _
      | exact runes_First.mono _ _
      | exact runes_Kind.mono _ _
      | exact LeO.none _
      | refine LeO.ite ?_ ?_
      | refine LeO.bind ?_ (fun _ => ?_)
theorem locate_shown.mono : ∀ a0 k, LeO (locate_shown.f k a0) (locate_shown.f (k + 1) a0) := by
  intro a0 k
  have ih0 := locate_shown.mono_l k
  unfold locate_shown.f
  repeat' first
      | (with_reducible exact ih0 _ _ _ _)
      | (with_reducible exact runes_First.mono _ _)
      | (with_reducible exact runes_Kind.mono _ _)
      | (with_reducible exact LeO.refl _)
      | (with_reducible exact LeO.none _)
      | (with_reducible refine LeO.ite ?_ ?_)
      | (with_reducible refine LeO.bind ?_ (fun _ => ?_))
      | exact ih0 _ _ _ _
      | exact runes_First.mono _ _
      | exact runes_Kind.mono _ _
      | exact LeO.none _
      | refine LeO.ite ?_ ?_
      | refine LeO.bind ?_ (fun _ => ?_)
def locate_styleAt.l0 : Nat → Int → List (S89) → Int → Int → Option (Int)
  | 0, _, _, _, _ => none
  | k + 1, x1, x7, x8, x9 => if x9 < x8 then (if 0 ≤ x9 then (if x9 < (x7.length : Int) then (if ((rd_T89 x7 x9).f0) ≤ 0 then (locate_styleAt.l0 k x1 x7 x8 (wrap64 (x9 + 1))) else (if x1 < ((rd_T89 x7 x9).f0) then (some ((rd_T89 x7 x9).f1)) else (locate_styleAt.l0 k (wrap64 (x1 - ((rd_T89 x7 x9).f0))) x7 x8 (wrap64 (x9 + 1))))) else (none)) else (none)) else (some 0)
def locate_styleAt.f (k : Nat) (l0 : List (S89)) (a1 : Int) : Option (Int) := locate_styleAt.l0 k a1 l0 (l0.length : Int) 0
theorem locate_styleAt.mono_l : ∀ k, (∀ y0 y1 y2 y3, LeO (locate_styleAt.l0 k y0 y1 y2 y3) (locate_styleAt.l0 (k + 1) y0 y1 y2 y3))
  | 0 => fun _ _ _ _ r h => by simp [locate_styleAt.l0] at h
  | k + 1 => by
    have ih0 := locate_styleAt.mono_l k
    · intro y0 y1 y2 y3
      unfold locate_styleAt.l0
      repeat' first
      | (with_reducible exact ih0 _ _ _ _)
      | (with_reducible exact LeO.refl _)
      | (with_reducible exact LeO.none _)
      | (with_reducible refine LeO.ite ?_ ?_)
      | (with_reducible refine LeO.bind ?_ (fun _ => ?_))
      | exact ih0 _ _ _ _
      | exact LeO.none _
      | refine LeO.ite ?_ ?_
      | refine LeO.bind ?_ (fun _ => ?_)
theorem locate_styleAt.mono : ∀ a0 a1 k, LeO (locate_styleAt.f k a0 a1) (locate_styleAt.f (k + 1) a0 a1) := by
  intro a0 a1 k
  have ih0 := locate_styleAt.mono_l k
  unfold locate_styleAt.f
  repeat' first
      | (with_reducible exact ih0 _ _ _ _)
      | (with_reducible exact LeO.refl _)
      | (with_reducible exact LeO.none _)
      | (with_reducible refine LeO.ite ?_ ?_)
      | (with_reducible refine LeO.bind ?_ (fun _ => ?_))
      | exact ih0 _ _ _ _
      | exact LeO.none _
      | refine LeO.ite ?_ ?_
      | refine LeO.bind ?_ (fun _ => ?_)
def metrics_Table_Check.f (l0 : List (S124)) (a1 : Int) : Option (Int) := if a1 < 0 then (some 43) else (if 0 < (l0.length : Int) then (if a1 ≥ (((rd_T124 l0 0).f0).length : Int) then (some 43) else (some 0)) else (none))
def metrics_Table_of.f (l0 : List (S124)) (a1 : Int) : Option (Int × Int × Int × Int × Int × Int × (List (S134)) × Bool) := (metrics_Table_Check.f l0 a1).bind fun t164 => (if t164 = 0 then (if 0 < (l0.length : Int) then (if 0 ≤ a1 then (if a1 < (((rd_T124 l0 0).f0).length : Int) then (some ((rd_T87 ((rd_T124 l0 0).f0) a1).f0, (rd_T87 ((rd_T124 l0 0).f0) a1).f1, (rd_T87 ((rd_T124 l0 0).f0) a1).f2, (rd_T87 ((rd_T124 l0 0).f0) a1).f3, (rd_T87 ((rd_T124 l0 0).f0) a1).f4, (rd_T87 ((rd_T124 l0 0).f0) a1).f5, (rd_T87 ((rd_T124 l0 0).f0) a1).f6, (rd_T87 ((rd_T124 l0 0).f0) a1).f7)) else (none)) else (none)) else (none)) else (some (0, 0, 0, 0, 0, 0, ([] : List (S134)), false)))
def metrics_lookup.l0 : Nat → Int → Int → Int → Int → Int → Int → Int → Int → Int → List (S134) → Bool → Option (Int)
  | 0, _, _, _, _, _, _, _, _, _, _, _ => none
  | k + 1, x1, x5, x6, x168000, x168001, x168002, x168003, x168004, x168005, x168006, x168007 => if x5 < x6 then (if 0 ≤ (wrap64 (Int.tdiv (wrap64 (x5 + x6)) 2)) then (if (wrap64 (Int.tdiv (wrap64 (x5 + x6)) 2)) < (x168006.length : Int) then (if ((rd_T134 x168006 (wrap64 (Int.tdiv (wrap64 (x5 + x6)) 2))).f1) < x1 then (metrics_lookup.l0 k x1 (wrap64 ((wrap64 (Int.tdiv (wrap64 (x5 + x6)) 2)) + 1)) x6 x168000 x168001 x168002 x168003 x168004 x168005 x168006 x168007) else (metrics_lookup.l0 k x1 x5 (wrap64 (Int.tdiv (wrap64 (x5 + x6)) 2)) x168000 x168001 x168002 x168003 x168004 x168005 x168006 x168007)) else (none)) else (none)) else (if x5 < (x168006.length : Int) then (if 0 ≤ x5 then (if ((rd_T134 x168006 x5).f0) ≤ x1 then (some ((rd_T134 x168006 x5).f2)) else (some x168005)) else (none)) else (some x168005))
def metrics_lookup.f (k : Nat) (a0_0 : Int) (a0_1 : Int) (a0_2 : Int) (a0_3 : Int) (a0_4 : Int) (a0_5 : Int) (l0_6 : List (S134)) (a0_7 : Bool) (a1 : Int) : Option (Int) := metrics_lookup.l0 k a1 0 (l0_6.length : Int) a0_0 a0_1 a0_2 a0_3 a0_4 a0_5 l0_6 a0_7
theorem metrics_lookup.mono_l : ∀ k, (∀ y0 y1 y2 y3 y4 y5 y6 y7 y8 y9 y10, LeO (metrics_lookup.l0 k y0 y1 y2 y3 y4 y5 y6 y7 y8 y9 y10) (metrics_lookup.l0 (k + 1) y0 y1 y2 y3 y4 y5 y6 y7 y8 y9 y10))
  | 0 => fun _ _ _ _ _ _ _ _ _ _ _ r h => by simp [metrics_lookup.l0] at h
  | k + 1 => by
    have ih0 := metrics_lookup.mono_l k
    · intro y0 y1 y2 y3 y4 y5 y6 y7 y8 y9 y10
      unfold metrics_lookup.l0
      repeat' first
      | (with_reducible exact ih0 _ _ _ _ _ _ _ _ _ _ _)
      | (with_reducible exact LeO.refl _)
      | (with_reducible exact LeO.none _)
      | (with_reducible refine LeO.ite ?_ ?_)
      | (with_reducible refine LeO.bind ?_ (fun _ => ?_))
      | exact ih0 _ _ _ _ _ _ _ _ _ _ _
      | exact LeO.none _
      | refine LeO.ite ?_ ?_
      | refine LeO.bind ?_ (fun _ => ?_)
theorem metrics_lookup.mono : ∀ a0 a1 a2 a3 a4 a5 a6 a7 a8 k, LeO (metrics_lookup.f k a0 a1 a2 a3 a4 a5 a6 a7 a8) (metrics_lookup.f (k + 1) a0 a1 a2 a3 a4 a5 a6 a7 a8) := by
  intro a0 a1 a2 a3 a4 a5 a6 a7 a8 k
  have ih0 := metrics_lookup.mono_l k
  unfold metrics_lookup.f
  repeat' first
      | (with_reducible exact ih0 _ _ _ _ _ _ _ _ _ _ _)
      | (with_reducible exact LeO.refl _)
      | (with_reducible exact LeO.none _)
      | (with_reducible refine LeO.ite ?_ ?_)
      | (with_reducible refine LeO.bind ?_ (fun _ => ?_))
      | exact ih0 _ _ _ _ _ _ _ _ _ _ _
      | exact LeO.none _
      | refine LeO.ite ?_ ?_
      | refine LeO.bind ?_ (fun _ => ?_)
def metrics_Table_Width.j0 : Nat → Int → Int → Bool → Int → Int → Int → Int → Int → Int → List (S134) → Bool → Option (Int)
  | 0, _, _, _, _, _, _, _, _, _, _, _ => none
  | k + 1, x2, x12, x13, x182000, x182001, x182002, x182003, x182004, x182005, x182006, x182007 => if x13 = true then (some x182001) else (if x12 = 3 then (some 0) else (if x12 = 4 then (some 0) else (if x12 = 5 then (some 0) else (if x12 = 7 then (some 0) else (if x12 = 8 then (some 0) else ((metrics_lookup.f k x182000 x182001 x182002 x182003 x182004 x182005 x182006 x182007 (wrap64 (x2))).bind fun t183 => (some t183)))))))
def metrics_Table_Width.f (k : Nat) (l0 : List (S124)) (a1 : Int) (a2 : Int) : Option (Int) := (metrics_Table_of.f l0 a1).bind fun bt171 => ((runes_Kind.f k a2).bind fun t182 => (if t182 = 1 then (metrics_Table_Width.j0 k a2 t182 (t182 == 1) bt171.1 bt171.2.1 bt171.2.2.1 bt171.2.2.2.1 bt171.2.2.2.2.1 bt171.2.2.2.2.2.1 bt171.2.2.2.2.2.2.1 bt171.2.2.2.2.2.2.2) else (metrics_Table_Width.j0 k a2 t182 (t182 == 2) bt171.1 bt171.2.1 bt171.2.2.1 bt171.2.2.2.1 bt171.2.2.2.2.1 bt171.2.2.2.2.2.1 bt171.2.2.2.2.2.2.1 bt171.2.2.2.2.2.2.2)))
theorem metrics_Table_Width.mono_l : ∀ k, (∀ y0 y1 y2 y3 y4 y5 y6 y7 y8 y9 y10, LeO (metrics_Table_Width.j0 k y0 y1 y2 y3 y4 y5 y6 y7 y8 y9 y10) (metrics_Table_Width.j0 (k + 1) y0 y1 y2 y3 y4 y5 y6 y7 y8 y9 y10))
  | 0 => fun _ _ _ _ _ _ _ _ _ _ _ r h => by simp [metrics_Table_Width.j0] at h
  | k + 1 => by
    have ih0 := metrics_Table_Width.mono_l k
    · intro y0 y1 y2 y3 y4 y5 y6 y7 y8 y9 y10
      unfold metrics_Table_Width.j0
      repeat' first
      | (with_reducible exact ih0 _ _ _ _ _ _ _ _ _ _ _)
      | (with_reducible exact metrics_lookup.mono _ _ _ _ _ _ _ _ _ _)
      | (with_reducible exact runes_Kind.mono _ _)
      | (with_reducible exact LeO.refl _)
      | (with_reducible exact LeO.none _)
      | (with_reducible refine LeO.ite ?_ ?_)
      | (with_reducible refine LeO.bind ?_ (fun _ => ?_))
      | exact ih0 _ _ _ _ _ _ _ _ _ _ _
      | exact metrics_lookup.mono _ _ _ _ _ _ _ _ _ _
      | exact runes_Kind.mono _ _
      | exact LeO.none _
      | refine LeO.ite ?_ ?_
      | refine LeO.bind ?_ (fun _ => ?_)
theorem metrics_Table_Width.mono : ∀ a0 a1 a2 k, LeO (metrics_Table_Width.f k a0 a1 a2) (metrics_Table_Width.f (k + 1) a0 a1 a2) := by
  intro a0 a1 a2 k
  have ih0 := metrics_Table_Width.mono_l k
  unfold metrics_Table_Width.f
  repeat' first
      | (with_reducible exact ih0 _ _ _ _ _ _ _ _ _ _ _)
      | (with_reducible exact metrics_lookup.mono _ _ _ _ _ _ _ _ _ _)
      | (with_reducible exact runes_Kind.mono _ _)
      | (with_reducible exact LeO.refl _)
      | (with_reducible exact LeO.none _)
      | (with_reducible refine LeO.ite ?_ ?_)
      | (with_reducible refine LeO.bind ?_ (fun _ => ?_))
      | exact ih0 _ _ _ _ _ _ _ _ _ _ _
      | exact metrics_lookup.mono _ _ _ _ _ _ _ _ _ _
      | exact runes_Kind.mono _ _
      | exact LeO.none _
      | refine LeO.ite ?_ ?_
      | refine LeO.bind ?_ (fun _ => ?_)
def metrics_Table_Space.f (l0 : List (S124)) (a1 : Int) : Option (Int × Int × Int) := (metrics_Table_of.f l0 a1).bind fun bt184 => (some (bt184.2.1, bt184.2.2.1, bt184.2.2.2.1))
def bits_Mul64.f (a0 : Int) (a1 : Int) : Option (Int × Int) := some (IntKind.u64.wrap ((IntKind.u64.wrap ((IntKind.u64.wrap ((a0 / 4294967296) * (a1 / 4294967296))) + ((IntKind.u64.wrap ((IntKind.u64.wrap ((a0 / 4294967296) * (Go.bits .and .u64 a1 4294967295))) + ((IntKind.u64.wrap ((Go.bits .and .u64 a0 4294967295) * (Go.bits .and .u64 a1 4294967295))) / 4294967296))) / 4294967296))) + ((IntKind.u64.wrap ((Go.bits .and .u64 (IntKind.u64.wrap ((IntKind.u64.wrap ((a0 / 4294967296) * (Go.bits .and .u64 a1 4294967295))) + ((IntKind.u64.wrap ((Go.bits .and .u64 a0 4294967295) * (Go.bits .and .u64 a1 4294967295))) / 4294967296))) 4294967295) + (IntKind.u64.wrap ((Go.bits .and .u64 a0 4294967295) * (a1 / 4294967296))))) / 4294967296)), IntKind.u64.wrap (a0 * a1))
def scaled_size.f (a0 : Int) : Option (Int) := (scaled_Clamp.f a0).bind fun t195 => (if t195 < 0 then (some (IntKind.u64.wrap (wrap64 (-t195)))) else (some (IntKind.u64.wrap (t195))))
def scaled_signed.j0 : Nat → Bool → Int → Int → Bool → Option (Int)
  | 0, _, _, _, _ => none
  | k + 1, x0, x2, x7, x13 => if x13 = true then (if x0 = true then (some (wrap64 (-(wrap64 (x2))))) else (some (wrap64 (x2)))) else (if x0 = true then (some (wrap64 (-x7))) else (some x7))
def scaled_signed.f (k : Nat) (a0 : Bool) (a1 : Int) (a2 : Int) : Option (Int) := if a1 = 0 then (scaled_signed.j0 k a0 a2 1152921504606846976 (decide (a2 < 1152921504606846976))) else (scaled_signed.j0 k a0 a2 1152921504606846976 false)
theorem scaled_signed.mono_l : ∀ k, (∀ y0 y1 y2 y3, LeO (scaled_signed.j0 k y0 y1 y2 y3) (scaled_signed.j0 (k + 1) y0 y1 y2 y3))
  | 0 => fun _ _ _ _ r h => by simp [scaled_signed.j0] at h
  | k + 1 => by
    have ih0 := scaled_signed.mono_l k
    · intro y0 y1 y2 y3
      unfold scaled_signed.j0
      repeat' first
      | (with_reducible exact ih0 _ _ _ _)
      | (with_reducible exact LeO.refl _)
      | (with_reducible exact LeO.none _)
      | (with_reducible refine LeO.ite ?_ ?_)
      | (with_reducible refine LeO.bind ?_ (fun _ => ?_))
      | exact ih0 _ _ _ _
      | exact LeO.none _
      | refine LeO.ite ?_ ?_
      | refine LeO.bind ?_ (fun _ => ?_)
theorem scaled_signed.mono : ∀ a0 a1 a2 k, LeO (scaled_signed.f k a0 a1 a2) (scaled_signed.f (k + 1) a0 a1 a2) := by
  intro a0 a1 a2 k
  have ih0 := scaled_signed.mono_l k
  unfold scaled_signed.f
  repeat' first
      | (with_reducible exact ih0 _ _ _ _)
      | (with_reducible exact LeO.refl _)
      | (with_reducible exact LeO.none _)
      | (with_reducible refine LeO.ite ?_ ?_)
      | (with_reducible refine LeO.bind ?_ (fun _ => ?_))
      | exact ih0 _ _ _ _
      | exact LeO.none _
      | refine LeO.ite ?_ ?_
      | refine LeO.bind ?_ (fun _ => ?_)
def bits_Len64.j0 : Nat → Int → Int → Option (Int)
  | 0, _, _ => none
  | k + 1, x0, x2 => if x0 ≥ 65536 then (if (x0 / 65536) ≥ 256 then (if 0 ≤ (((x0 / 65536) / 256) % 256) then (if (((x0 / 65536) / 256) % 256) < 256 then (some (wrap64 ((wrap64 ((wrap64 (x2 + 16)) + 8)) + (wrap64 (bt (⟨#[0, 1, 2, 2, 3, 3, 3, 3, 4, 4, 4, 4, 4, 4, 4, 4, 5, 5, 5, 5, 5, 5, 5, 5, 5, 5, 5, 5, 5, 5, 5, 5, 6, 6, 6, 6, 6, 6, 6, 6, 6, 6, 6, 6, 6, 6, 6, 6, 6, 6, 6, 6, 6, 6, 6, 6, 6, 6, 6, 6, 6, 6, 6, 6, 7, 7, 7, 7, 7, 7, 7, 7, 7, 7, 7, 7, 7, 7, 7, 7, 7, 7, 7, 7, 7, 7, 7, 7, 7, 7, 7, 7, 7, 7, 7, 7, 7, 7, 7, 7, 7, 7, 7, 7, 7, 7, 7, 7, 7, 7, 7, 7, 7, 7, 7, 7, 7, 7, 7, 7, 7, 7, 7, 7, 7, 7, 7, 7, 8, 8, 8, 8, 8, 8, 8, 8, 8, 8, 8, 8, 8, 8, 8, 8, 8, 8, 8, 8, 8, 8, 8, 8, 8, 8, 8, 8, 8, 8, 8, 8, 8, 8, 8, 8, 8, 8, 8, 8, 8, 8, 8, 8, 8, 8, 8, 8, 8, 8, 8, 8, 8, 8, 8, 8, 8, 8, 8, 8, 8, 8, 8, 8, 8, 8, 8, 8, 8, 8, 8, 8, 8, 8, 8, 8, 8, 8, 8, 8, 8, 8, 8, 8, 8, 8, 8, 8, 8, 8, 8, 8, 8, 8, 8, 8, 8, 8, 8, 8, 8, 8, 8, 8, 8, 8, 8, 8, 8, 8, 8, 8, 8, 8, 8, 8, 8, 8, 8, 8, 8, 8, 8, 8, 8, 8, 8, 8]⟩ : ByteArray) (((x0 / 65536) / 256) % 256)))))) else (none)) else (none)) else (if 0 ≤ ((x0 / 65536) % 256) then (if ((x0 / 65536) % 256) < 256 then (some (wrap64 ((wrap64 (x2 + 16)) + (wrap64 (bt (⟨#[0, 1, 2, 2, 3, 3, 3, 3, 4, 4, 4, 4, 4, 4, 4, 4, 5, 5, 5, 5, 5, 5, 5, 5, 5, 5, 5, 5, 5, 5, 5, 5, 6, 6, 6, 6, 6, 6, 6, 6, 6, 6, 6, 6, 6, 6, 6, 6, 6, 6, 6, 6, 6, 6, 6, 6, 6, 6, 6, 6, 6, 6, 6, 6, 7, 7, 7, 7, 7, 7, 7, 7, 7, 7, 7, 7, 7, 7, 7, 7, 7, 7, 7, 7, 7, 7, 7, 7, 7, 7, 7, 7, 7, 7, 7, 7, 7, 7, 7, 7, 7, 7, 7, 7, 7, 7, 7, 7, 7, 7, 7, 7, 7, 7, 7, 7, 7, 7, 7, 7, 7, 7, 7, 7, 7, 7, 7, 7, 8, 8, 8, 8, 8, 8, 8, 8, 8, 8, 8, 8, 8, 8, 8, 8, 8, 8, 8, 8, 8, 8, 8, 8, 8, 8, 8, 8, 8, 8, 8, 8, 8, 8, 8, 8, 8, 8, 8, 8, 8, 8, 8, 8, 8, 8, 8, 8, 8, 8, 8, 8, 8, 8, 8, 8, 8, 8, 8, 8, 8, 8, 8, 8, 8, 8, 8, 8, 8, 8, 8, 8, 8, 8, 8, 8, 8, 8, 8, 8, 8, 8, 8, 8, 8, 8, 8, 8, 8, 8, 8, 8, 8, 8, 8, 8, 8, 8, 8, 8, 8, 8, 8, 8, 8, 8, 8, 8, 8, 8, 8, 8, 8, 8, 8, 8, 8, 8, 8, 8, 8, 8, 8, 8, 8, 8, 8, 8]⟩ : ByteArray) ((x0 / 65536) % 256)))))) else (none)) else (none))) else (if x0 ≥ 256 then (if 0 ≤ ((x0 / 256) % 256) then (if ((x0 / 256) % 256) < 256 then (some (wrap64 ((wrap64 (x2 + 8)) + (wrap64 (bt (⟨#[0, 1, 2, 2, 3, 3, 3, 3, 4, 4, 4, 4, 4, 4, 4, 4, 5, 5, 5, 5, 5, 5, 5, 5, 5, 5, 5, 5, 5, 5, 5, 5, 6, 6, 6, 6, 6, 6, 6, 6, 6, 6, 6, 6, 6, 6, 6, 6, 6, 6, 6, 6, 6, 6, 6, 6, 6, 6, 6, 6, 6, 6, 6, 6, 7, 7, 7, 7, 7, 7, 7, 7, 7, 7, 7, 7, 7, 7, 7, 7, 7, 7, 7, 7, 7, 7, 7, 7, 7, 7, 7, 7, 7, 7, 7, 7, 7, 7, 7, 7, 7, 7, 7, 7, 7, 7, 7, 7, 7, 7, 7, 7, 7, 7, 7, 7, 7, 7, 7, 7, 7, 7, 7, 7, 7, 7, 7, 7, 8, 8, 8, 8, 8, 8, 8, 8, 8, 8, 8, 8, 8, 8, 8, 8, 8, 8, 8, 8, 8, 8, 8, 8, 8, 8, 8, 8, 8, 8, 8, 8, 8, 8, 8, 8, 8, 8, 8, 8, 8, 8, 8, 8, 8, 8, 8, 8, 8, 8, 8, 8, 8, 8, 8, 8, 8, 8, 8, 8, 8, 8, 8, 8, 8, 8, 8, 8, 8, 8, 8, 8, 8, 8, 8, 8, 8, 8, 8, 8, 8, 8, 8, 8, 8, 8, 8, 8, 8, 8, 8, 8, 8, 8, 8, 8, 8, 8, 8, 8, 8, 8, 8, 8, 8, 8, 8, 8, 8, 8, 8, 8, 8, 8, 8, 8, 8, 8, 8, 8, 8, 8, 8, 8, 8, 8, 8, 8]⟩ : ByteArray) ((x0 / 256) % 256)))))) else (none)) else (none)) else (if 0 ≤ ((x0) % 256) then (if ((x0) % 256) < 256 then (some (wrap64 (x2 + (wrap64 (bt (⟨#[0, 1, 2, 2, 3, 3, 3, 3, 4, 4, 4, 4, 4, 4, 4, 4, 5, 5, 5, 5, 5, 5, 5, 5, 5, 5, 5, 5, 5, 5, 5, 5, 6, 6, 6, 6, 6, 6, 6, 6, 6, 6, 6, 6, 6, 6, 6, 6, 6, 6, 6, 6, 6, 6, 6, 6, 6, 6, 6, 6, 6, 6, 6, 6, 7, 7, 7, 7, 7, 7, 7, 7, 7, 7, 7, 7, 7, 7, 7, 7, 7, 7, 7, 7, 7, 7, 7, 7, 7, 7, 7, 7, 7, 7, 7, 7, 7, 7, 7, 7, 7, 7, 7, 7, 7, 7, 7, 7, 7, 7, 7, 7, 7, 7, 7, 7, 7, 7, 7, 7, 7, 7, 7, 7, 7, 7, 7, 7, 8, 8, 8, 8, 8, 8, 8, 8, 8, 8, 8, 8, 8, 8, 8, 8, 8, 8, 8, 8, 8, 8, 8, 8, 8, 8, 8, 8, 8, 8, 8, 8, 8, 8, 8, 8, 8, 8, 8, 8, 8, 8, 8, 8, 8, 8, 8, 8, 8, 8, 8, 8, 8, 8, 8, 8, 8, 8, 8, 8, 8, 8, 8, 8, 8, 8, 8, 8, 8, 8, 8, 8, 8, 8, 8, 8, 8, 8, 8, 8, 8, 8, 8, 8, 8, 8, 8, 8, 8, 8, 8, 8, 8, 8, 8, 8, 8, 8, 8, 8, 8, 8, 8, 8, 8, 8, 8, 8, 8, 8, 8, 8, 8, 8, 8, 8, 8, 8, 8, 8, 8, 8, 8, 8, 8, 8, 8, 8]⟩ : ByteArray) ((x0) % 256)))))) else (none)) else (none)))
def bits_Len64.f (k : Nat) (a0 : Int) : Option (Int) := if a0 ≥ 4294967296 then (bits_Len64.j0 k (a0 / 4294967296) 32) else (bits_Len64.j0 k a0 0)
theorem bits_Len64.mono_l : ∀ k, (∀ y0 y1, LeO (bits_Len64.j0 k y0 y1) (bits_Len64.j0 (k + 1) y0 y1))
  | 0 => fun _ _ r h => by simp [bits_Len64.j0] at h
  | k + 1 => by
    have ih0 := bits_Len64.mono_l k
    · intro y0 y1
      unfold bits_Len64.j0
      repeat' first
      | (with_reducible exact ih0 _ _)
      | (with_reducible exact LeO.refl _)
      | (with_reducible exact LeO.none _)
      | (with_reducible refine LeO.ite ?_ ?_)
      | (with_reducible refine LeO.bind ?_ (fun _ => ?_))
      | exact ih0 _ _
      | exact LeO.none _
      | refine LeO.ite ?_ ?_
      | refine LeO.bind ?_ (fun _ => ?_)
theorem bits_Len64.mono : ∀ a0 k, LeO (bits_Len64.f k a0) (bits_Len64.f (k + 1) a0) := by
  intro a0 k
  have ih0 := bits_Len64.mono_l k
  unfold bits_Len64.f
  repeat' first
      | (with_reducible exact ih0 _ _)
      | (with_reducible exact LeO.refl _)
      | (with_reducible exact LeO.none _)
      | (with_reducible refine LeO.ite ?_ ?_)
      | (with_reducible refine LeO.bind ?_ (fun _ => ?_))
      | exact ih0 _ _
      | exact LeO.none _
      | refine LeO.ite ?_ ?_
      | refine LeO.bind ?_ (fun _ => ?_)
def bits_LeadingZeros64.f (k : Nat) (a0 : Int) : Option (Int) := (bits_Len64.f k a0).bind fun t196 => (some (wrap64 (64 - t196)))
theorem bits_LeadingZeros64.mono : ∀ a0 k, LeO (bits_LeadingZeros64.f k a0) (bits_LeadingZeros64.f (k + 1) a0) := by
  intro a0 k
  unfold bits_LeadingZeros64.f
  repeat' first
      | (with_reducible exact bits_Len64.mono _ _)
      | (with_reducible exact LeO.refl _)
      | (with_reducible exact LeO.none _)
      | (with_reducible refine LeO.ite ?_ ?_)
      | (with_reducible refine LeO.bind ?_ (fun _ => ?_))
      | exact bits_Len64.mono _ _
      | exact LeO.none _
      | refine LeO.ite ?_ ?_
      | refine LeO.bind ?_ (fun _ => ?_)
mutual
def bits_Div64.j2 : Nat → Int → Int → Int → Int → Int → Int → Int → Int → Option (Int × Int)
  | 0, _, _, _, _, _, _, _, _ => none
  | k + 1, x2, x8, x9, x10, x11, x13, x14, x15 => if x9 = 0 then (none) else (bits_Div64.l1 k x2 x8 x9 x10 x14 x15 (IntKind.u64.wrap ((IntKind.u64.wrap ((IntKind.u64.wrap ((IntKind.u64.wrap (x11 * 4294967296)) + x13)) - (IntKind.u64.wrap (x15 * x2)))) - (IntKind.u64.wrap ((IntKind.u64.wrap (Int.tdiv (IntKind.u64.wrap ((IntKind.u64.wrap ((IntKind.u64.wrap (x11 * 4294967296)) + x13)) - (IntKind.u64.wrap (x15 * x2)))) x9)) * x9)))) (IntKind.u64.wrap ((IntKind.u64.wrap ((IntKind.u64.wrap (x11 * 4294967296)) + x13)) - (IntKind.u64.wrap (x15 * x2)))) (IntKind.u64.wrap (Int.tdiv (IntKind.u64.wrap ((IntKind.u64.wrap ((IntKind.u64.wrap (x11 * 4294967296)) + x13)) - (IntKind.u64.wrap (x15 * x2)))) x9)))
def bits_Div64.l1 : Nat → Int → Int → Int → Int → Int → Int → Int → Int → Int → Option (Int × Int)
  | 0, _, _, _, _, _, _, _, _, _ => none
  | k + 1, x2, x8, x9, x10, x14, x15, x16, x17, x18 => if x18 ≥ 4294967296 then (bits_Div64.j4 k x2 x8 x9 x10 x14 x15 x16 x17 x18 true) else (bits_Div64.j4 k x2 x8 x9 x10 x14 x15 x16 x17 x18 (decide ((IntKind.u64.wrap (x18 * x10)) > (IntKind.u64.wrap ((IntKind.u64.wrap (4294967296 * x16)) + x14)))))
def bits_Div64.j4 : Nat → Int → Int → Int → Int → Int → Int → Int → Int → Int → Bool → Option (Int × Int)
  | 0, _, _, _, _, _, _, _, _, _, _ => none
  | k + 1, x2, x8, x9, x10, x14, x15, x16, x17, x18, x113 => if x113 = true then (if (IntKind.u64.wrap (x16 + x9)) ≥ 4294967296 then (if 0 ≤ x8 then (some (IntKind.u64.wrap ((IntKind.u64.wrap (x15 * 4294967296)) + (IntKind.u64.wrap (x18 - 1))), shr .u64 (IntKind.u64.wrap ((IntKind.u64.wrap ((IntKind.u64.wrap (x17 * 4294967296)) + x14)) - (IntKind.u64.wrap ((IntKind.u64.wrap (x18 - 1)) * x2)))) x8)) else (none)) else (bits_Div64.l1 k x2 x8 x9 x10 x14 x15 (IntKind.u64.wrap (x16 + x9)) x17 (IntKind.u64.wrap (x18 - 1)))) else (if 0 ≤ x8 then (some (IntKind.u64.wrap ((IntKind.u64.wrap (x15 * 4294967296)) + x18), shr .u64 (IntKind.u64.wrap ((IntKind.u64.wrap ((IntKind.u64.wrap (x17 * 4294967296)) + x14)) - (IntKind.u64.wrap (x18 * x2)))) x8)) else (none))
def bits_Div64.l0 : Nat → Int → Int → Int → Int → Int → Int → Int → Int → Int → Option (Int × Int)
  | 0, _, _, _, _, _, _, _, _, _ => none
  | k + 1, x2, x8, x9, x10, x11, x13, x14, x15, x16 => if x15 ≥ 4294967296 then (bits_Div64.j1 k x2 x8 x9 x10 x11 x13 x14 x15 x16 true) else (bits_Div64.j1 k x2 x8 x9 x10 x11 x13 x14 x15 x16 (decide ((IntKind.u64.wrap (x15 * x10)) > (IntKind.u64.wrap ((IntKind.u64.wrap (4294967296 * x16)) + x13)))))
def bits_Div64.j1 : Nat → Int → Int → Int → Int → Int → Int → Int → Int → Int → Bool → Option (Int × Int)
  | 0, _, _, _, _, _, _, _, _, _, _ => none
  | k + 1, x2, x8, x9, x10, x11, x13, x14, x15, x16, x78 => if x78 = true then (if (IntKind.u64.wrap (x16 + x9)) ≥ 4294967296 then (bits_Div64.j2 k x2 x8 x9 x10 x11 x13 x14 (IntKind.u64.wrap (x15 - 1))) else (bits_Div64.l0 k x2 x8 x9 x10 x11 x13 x14 (IntKind.u64.wrap (x15 - 1)) (IntKind.u64.wrap (x16 + x9)))) else (bits_Div64.j2 k x2 x8 x9 x10 x11 x13 x14 x15)
end
def bits_Div64.f (k : Nat) (a0 : Int) (a1 : Int) (a2 : Int) : Option (Int × Int) := if a2 = 0 then (none) else (if a2 ≤ a0 then (none) else (if a0 = 0 then (some (IntKind.u64.wrap (Int.tdiv a1 a2), Int.tmod a1 a2)) else ((bits_LeadingZeros64.f k a2).bind fun t197 => (if 0 ≤ (IntKind.u64.wrap (t197)) then (if 0 ≤ (IntKind.u64.wrap (64 - (IntKind.u64.wrap (t197)))) then (if ((shl .u64 a2 (IntKind.u64.wrap (t197))) / 4294967296) = 0 then (none) else (bits_Div64.l0 k (shl .u64 a2 (IntKind.u64.wrap (t197))) (IntKind.u64.wrap (t197)) ((shl .u64 a2 (IntKind.u64.wrap (t197))) / 4294967296) (Go.bits .and .u64 (shl .u64 a2 (IntKind.u64.wrap (t197))) 4294967295) (Go.bits .or .u64 (shl .u64 a0 (IntKind.u64.wrap (t197))) (shr .u64 a1 (IntKind.u64.wrap (64 - (IntKind.u64.wrap (t197)))))) ((shl .u64 a1 (IntKind.u64.wrap (t197))) / 4294967296) (Go.bits .and .u64 (shl .u64 a1 (IntKind.u64.wrap (t197))) 4294967295) (IntKind.u64.wrap (Int.tdiv (Go.bits .or .u64 (shl .u64 a0 (IntKind.u64.wrap (t197))) (shr .u64 a1 (IntKind.u64.wrap (64 - (IntKind.u64.wrap (t197)))))) ((shl .u64 a2 (IntKind.u64.wrap (t197))) / 4294967296))) (IntKind.u64.wrap ((Go.bits .or .u64 (shl .u64 a0 (IntKind.u64.wrap (t197))) (shr .u64 a1 (IntKind.u64.wrap (64 - (IntKind.u64.wrap (t197)))))) - (IntKind.u64.wrap ((IntKind.u64.wrap (Int.tdiv (Go.bits .or .u64 (shl .u64 a0 (IntKind.u64.wrap (t197))) (shr .u64 a1 (IntKind.u64.wrap (64 - (IntKind.u64.wrap (t197)))))) ((shl .u64 a2 (IntKind.u64.wrap (t197))) / 4294967296))) * ((shl .u64 a2 (IntKind.u64.wrap (t197))) / 4294967296))))))) else (none)) else (none)))))
theorem bits_Div64.mono_l : ∀ k, (∀ y0 y1 y2 y3 y4 y5 y6 y7, LeO (bits_Div64.j2 k y0 y1 y2 y3 y4 y5 y6 y7) (bits_Div64.j2 (k + 1) y0 y1 y2 y3 y4 y5 y6 y7)) ∧ (∀ y0 y1 y2 y3 y4 y5 y6 y7 y8, LeO (bits_Div64.l1 k y0 y1 y2 y3 y4 y5 y6 y7 y8) (bits_Div64.l1 (k + 1) y0 y1 y2 y3 y4 y5 y6 y7 y8)) ∧ (∀ y0 y1 y2 y3 y4 y5 y6 y7 y8 y9, LeO (bits_Div64.j4 k y0 y1 y2 y3 y4 y5 y6 y7 y8 y9) (bits_Div64.j4 (k + 1) y0 y1 y2 y3 y4 y5 y6 y7 y8 y9)) ∧ (∀ y0 y1 y2 y3 y4 y5 y6 y7 y8, LeO (bits_Div64.l0 k y0 y1 y2 y3 y4 y5 y6 y7 y8) (bits_Div64.l0 (k + 1) y0 y1 y2 y3 y4 y5 y6 y7 y8)) ∧ (∀ y0 y1 y2 y3 y4 y5 y6 y7 y8 y9, LeO (bits_Div64.j1 k y0 y1 y2 y3 y4 y5 y6 y7 y8 y9) (bits_Div64.j1 (k + 1) y0 y1 y2 y3 y4 y5 y6 y7 y8 y9))
  | 0 => ⟨fun _ _ _ _ _ _ _ _ r h => by simp [bits_Div64.j2] at h, fun _ _ _ _ _ _ _ _ _ r h => by simp [bits_Div64.l1] at h, fun _ _ _ _ _ _ _ _ _ _ r h => by simp [bits_Div64.j4] at h, fun _ _ _ _ _ _ _ _ _ r h => by simp [bits_Div64.l0] at h, fun _ _ _ _ _ _ _ _ _ _ r h => by simp [bits_Div64.j1] at h⟩
  | k + 1 => by
    obtain ⟨ih0, ih1, ih2, ih3, ih4⟩ := bits_Div64.mono_l k
    refine ⟨?_, ?_, ?_, ?_, ?_⟩
    · intro y0 y1 y2 y3 y4 y5 y6 y7
      unfold bits_Div64.j2
      repeat' first
      | (with_reducible exact ih0 _ _ _ _ _ _ _ _)
      | (with_reducible exact ih1 _ _ _ _ _ _ _ _ _)
      | (with_reducible exact ih2 _ _ _ _ _ _ _ _ _ _)
      | (with_reducible exact ih3 _ _ _ _ _ _ _ _ _)
      | (with_reducible exact ih4 _ _ _ _ _ _ _ _ _ _)
      | (with_reducible exact bits_LeadingZeros64.mono _ _)
      | (with_reducible exact LeO.refl _)
      | (with_reducible exact LeO.none _)
      | (with_reducible refine LeO.ite ?_ ?_)
      | (with_reducible refine LeO.bind ?_ (fun _ => ?_))
      | exact ih0 _ _ _ _ _ _ _ _
      | exact ih1 _ _ _ _ _ _ _ _ _
      | exact ih2 _ _ _ _ _ _ _ _ _ _
      | exact ih3 _ _ _ _ _ _ _ _ _
      | exact ih4 _ _ _ _ _ _ _ _ _ _
      | exact bits_LeadingZeros64.mono _ _
      | exact LeO.none _
      | refine LeO.ite ?_ ?_
      | refine LeO.bind ?_ (fun _ => ?_)
    · intro y0 y1 y2 y3 y4 y5 y6 y7 y8
      unfold bits_Div64.l1
      repeat' first
      | (with_reducible exact ih0 _ _ _ _ _ _ _ _)
      | (with_reducible exact ih1 _ _ _ _ _ _ _ _ _)
      | (with_reducible exact ih2 _ _ _ _ _ _ _ _ _ _)
      | (with_reducible exact ih3 _ _ _ _ _ _ _ _ _)
      | (with_reducible exact ih4 _ _ _ _ _ _ _ _ _ _)
      | (with_reducible exact bits_LeadingZeros64.mono _ _)
      | (with_reducible exact LeO.refl _)
      | (with_reducible exact LeO.none _)
      | (with_reducible refine LeO.ite ?_ ?_)
      | (with_reducible refine LeO.bind ?_ (fun _ => ?_))
      | exact ih0 _ _ _ _ _ _ _ _
      | exact ih1 _ _ _ _ _ _ _ _ _
      | exact ih2 _ _ _ _ _ _ _ _ _ _
      | exact ih3 _ _ _ _ _ _ _ _ _
      | exact ih4 _ _ _ _ _ _ _ _ _ _
      | exact bits_LeadingZeros64.mono _ _
      | exact LeO.none _
      | refine LeO.ite ?_ ?_
      | refine LeO.bind ?_ (fun _ => ?_)
    · intro y0 y1 y2 y3 y4 y5 y6 y7 y8 y9
      unfold bits_Div64.j4
      repeat' first
      | (with_reducible exact ih0 _ _ _ _ _ _ _ _)
      | (with_reducible exact ih1 _ _ _ _ _ _ _ _ _)
      | (with_reducible exact ih2 _ _ _ _ _ _ _ _ _ _)
      | (with_reducible exact ih3 _ _ _ _ _ _ _ _ _)
      | (with_reducible exact ih4 _ _ _ _ _ _ _ _ _ _)
      | (with_reducible exact bits_LeadingZeros64.mono _ _)
      | (with_reducible exact LeO.refl _)
      | (with_reducible exact LeO.none _)
      | (with_reducible refine LeO.ite ?_ ?_)
      | (with_reducible refine LeO.bind ?_ (fun _ => ?_))
      | exact ih0 _ _ _ _ _ _ _ _
      | exact ih1 _ _ _ _ _ _ _ _ _
      | exact ih2 _ _ _ _ _ _ _ _ _ _
      | exact ih3 _ _ _ _ _ _ _ _ _
      | exact ih4 _ _ _ _ _ _ _ _ _ _
      | exact bits_LeadingZeros64.mono _ _
      | exact LeO.none _
      | refine LeO.ite ?_ ?_
      | refine LeO.bind ?_ (fun _ => ?_)
    · intro y0 y1 y2 y3 y4 y5 y6 y7 y8
      unfold bits_Div64.l0
      repeat' first
      | (with_reducible exact ih0 _ _ _ _ _ _ _ _)
      | (with_reducible exact ih1 _ _ _ _ _ _ _ _ _)
      | (with_reducible exact ih2 _ _ _ _ _ _ _ _ _ _)
      | (with_reducible exact ih3 _ _ _ _ _ _ _ _ _)
      | (with_reducible exact ih4 _ _ _ _ _ _ _ _ _ _)
      | (with_reducible exact bits_LeadingZeros64.mono _ _)
      | (with_reducible exact LeO.refl _)
      | (with_reducible exact LeO.none _)
      | (with_reducible refine LeO.ite ?_ ?_)
      | (with_reducible refine LeO.bind ?_ (fun _ => ?_))
      | exact ih0 _ _ _ _ _ _ _ _
      | exact ih1 _ _ _ _ _ _ _ _ _
      | exact ih2 _ _ _ _ _ _ _ _ _ _
      | exact ih3 _ _ _ _ _ _ _ _ _
      | exact ih4 _ _ _ _ _ _ _ _ _ _
      | exact bits_LeadingZeros64.mono _ _
      | exact LeO.none _
      | refine LeO.ite ?_ ?_
      | refine LeO.bind ?_ (fun _ => ?_)
    · intro y0 y1 y2 y3 y4 y5 y6 y7 y8 y9
      unfold bits_Div64.j1
      repeat' first
      | (with_reducible exact ih0 _ _ _ _ _ _ _ _)
      | (with_reducible exact ih1 _ _ _ _ _ _ _ _ _)
      | (with_reducible exact ih2 _ _ _ _ _ _ _ _ _ _)
      | (with_reducible exact ih3 _ _ _ _ _ _ _ _ _)
      | (with_reducible exact ih4 _ _ _ _ _ _ _ _ _ _)
      | (with_reducible exact bits_LeadingZeros64.mono _ _)
      | (with_reducible exact LeO.refl _)
      | (with_reducible exact LeO.none _)
      | (with_reducible refine LeO.ite ?_ ?_)
      | (with_reducible refine LeO.bind ?_ (fun _ => ?_))
      | exact ih0 _ _ _ _ _ _ _ _
      | exact ih1 _ _ _ _ _ _ _ _ _
      | exact ih2 _ _ _ _ _ _ _ _ _ _
      | exact ih3 _ _ _ _ _ _ _ _ _
      | exact ih4 _ _ _ _ _ _ _ _ _ _
      | exact bits_LeadingZeros64.mono _ _
      | exact LeO.none _
      | refine LeO.ite ?_ ?_
      | refine LeO.bind ?_ (fun _ => ?_)
theorem bits_Div64.mono : ∀ a0 a1 a2 k, LeO (bits_Div64.f k a0 a1 a2) (bits_Div64.f (k + 1) a0 a1 a2) := by
  intro a0 a1 a2 k
  obtain ⟨ih0, ih1, ih2, ih3, ih4⟩ := bits_Div64.mono_l k
  unfold bits_Div64.f
  repeat' first
      | (with_reducible exact ih0 _ _ _ _ _ _ _ _)
      | (with_reducible exact ih1 _ _ _ _ _ _ _ _ _)
      | (with_reducible exact ih2 _ _ _ _ _ _ _ _ _ _)
      | (with_reducible exact ih3 _ _ _ _ _ _ _ _ _)
      | (with_reducible exact ih4 _ _ _ _ _ _ _ _ _ _)
      | (with_reducible exact bits_LeadingZeros64.mono _ _)
      | (with_reducible exact LeO.refl _)
      | (with_reducible exact LeO.none _)
      | (with_reducible refine LeO.ite ?_ ?_)
      | (with_reducible refine LeO.bind ?_ (fun _ => ?_))
      | exact ih0 _ _ _ _ _ _ _ _
      | exact ih1 _ _ _ _ _ _ _ _ _
      | exact ih2 _ _ _ _ _ _ _ _ _ _
      | exact ih3 _ _ _ _ _ _ _ _ _
      | exact ih4 _ _ _ _ _ _ _ _ _ _
      | exact bits_LeadingZeros64.mono _ _
      | exact LeO.none _
      | refine LeO.ite ?_ ?_
      | refine LeO.bind ?_ (fun _ => ?_)
def scaled_MulDiv.f (k : Nat) (a0 : Int) (a1 : Int) (a2 : Int) : Option (Int × Bool) := (scaled_Clamp.f a2).bind fun t198 => (if t198 = 0 then (some (0, false)) else ((scaled_size.f a0).bind fun t199 => ((scaled_size.f a1).bind fun t200 => ((bits_Mul64.f t199 t200).bind fun bt201 => ((scaled_size.f t198).bind fun t203 => (if bt201.1 ≥ t203 then (if (((decide (a0 < 0)) != (decide (a1 < 0))) != (decide (t198 < 0))) = true then ((scaled_signed.f k (decide ((Go.bits .or .u64 bt201.1 bt201.2) > 0)) 1 0).bind fun t204 => (some (t204, true))) else ((scaled_signed.f k false 1 0).bind fun t205 => (some (t205, true)))) else ((bits_Div64.f k bt201.1 bt201.2 t203).bind fun bt206 => (if (((decide (a0 < 0)) != (decide (a1 < 0))) != (decide (t198 < 0))) = true then (if bt206.2 > 0 then (if bt206.1 ≥ 1152921504606846976 then (some ((-1152921504606846976), true)) else ((scaled_signed.f k (decide ((IntKind.u64.wrap (bt206.1 + 1)) > 0)) 0 (IntKind.u64.wrap (bt206.1 + 1))).bind fun t208 => (some (t208, true)))) else ((scaled_signed.f k (decide (bt206.1 > 0)) 0 bt206.1).bind fun t209 => (some (t209, true)))) else ((scaled_signed.f k false 0 bt206.1).bind fun t210 => (some (t210, true)))))))))))
theorem scaled_MulDiv.mono : ∀ a0 a1 a2 k, LeO (scaled_MulDiv.f k a0 a1 a2) (scaled_MulDiv.f (k + 1) a0 a1 a2) := by
  intro a0 a1 a2 k
  unfold scaled_MulDiv.f
  repeat' first
      | (with_reducible exact bits_Div64.mono _ _ _ _)
      | (with_reducible exact scaled_signed.mono _ _ _ _)
      | (with_reducible exact LeO.refl _)
      | (with_reducible exact LeO.none _)
      | (with_reducible refine LeO.ite ?_ ?_)
      | (with_reducible refine LeO.bind ?_ (fun _ => ?_))
      | exact bits_Div64.mono _ _ _ _
      | exact scaled_signed.mono _ _ _ _
      | exact LeO.none _
      | refine LeO.ite ?_ ?_
      | refine LeO.bind ?_ (fun _ => ?_)
def scaled_Scale.f (k : Nat) (a0 : Int) (a1 : Int) (a2 : Int) : Option (Int) := if a2 ≤ 0 then (some 0) else ((scaled_MulDiv.f k a0 a1 a2).bind fun bt211 => (some bt211.1))
theorem scaled_Scale.mono : ∀ a0 a1 a2 k, LeO (scaled_Scale.f k a0 a1 a2) (scaled_Scale.f (k + 1) a0 a1 a2) := by
  intro a0 a1 a2 k
  unfold scaled_Scale.f
  repeat' first
      | (with_reducible exact scaled_MulDiv.mono _ _ _ _)
      | (with_reducible exact LeO.refl _)
      | (with_reducible exact LeO.none _)
      | (with_reducible refine LeO.ite ?_ ?_)
      | (with_reducible refine LeO.bind ?_ (fun _ => ?_))
      | exact scaled_MulDiv.mono _ _ _ _
      | exact LeO.none _
      | refine LeO.ite ?_ ?_
      | refine LeO.bind ?_ (fun _ => ?_)
def locate_space.f (k : Nat) (l0 : List (S124)) (a1_0 : ByteArray) (l1_1 : List (S89)) (a1_2 : Int) (a1_3 : Int) (a1_4 : Int) (a1_5 : Bool) (a1_6 : Int) (a1_7 : Bool) (a1_8 : Bool) (a2 : Int) : Option (Int) := (metrics_Table_Space.f l0 a2).bind fun bt214 => (if a1_2 > 0 then ((scaled_Scale.f k bt214.2.1 a1_2 a1_3).bind fun t217 => (some (wrap64 (bt214.1 + t217)))) else (if a1_2 < 0 then ((scaled_Scale.f k bt214.2.2 a1_2 a1_3).bind fun t218 => (some (wrap64 (bt214.1 + t218)))) else (some bt214.1)))
theorem locate_space.mono : ∀ a0 a1 a2 a3 a4 a5 a6 a7 a8 a9 a10 k, LeO (locate_space.f k a0 a1 a2 a3 a4 a5 a6 a7 a8 a9 a10) (locate_space.f (k + 1) a0 a1 a2 a3 a4 a5 a6 a7 a8 a9 a10) := by
  intro a0 a1 a2 a3 a4 a5 a6 a7 a8 a9 a10 k
  unfold locate_space.f
  repeat' first
      | (with_reducible exact scaled_Scale.mono _ _ _ _)
      | (with_reducible exact LeO.refl _)
      | (with_reducible exact LeO.none _)
      | (with_reducible refine LeO.ite ?_ ?_)
      | (with_reducible refine LeO.bind ?_ (fun _ => ?_))
      | exact scaled_Scale.mono _ _ _ _
      | exact LeO.none _
      | refine LeO.ite ?_ ?_
      | refine LeO.bind ?_ (fun _ => ?_)
def locate_Stops.l0 : Nat → List (S124) → List (S99) → Int → Int → ByteArray → List (S89) → Int → Int → Int → Bool → Int → Bool → Bool → ByteArray → Int → Option ((List (S99)))
  | 0, _, _, _, _, _, _, _, _, _, _, _, _, _, _, _ => none
  | k + 1, x0, x5, x6, x7, x220000, x220001, x220002, x220003, x220004, x220005, x220006, x220007, x220008, x222000, x222001 => if (x222001 : Int).toNat < x222000.size then (if x5.length < 8796093022208 then ((some (x5 ++ [(⟨itP_ x222001, x6⟩ : S99)] : List (S99))).bind fun y222 => ((locate_styleAt.f k x220001 (itP_ x222001)).bind fun t225 => ((runes_Kind.f k (itR_ x222000 x222001)).bind fun t226 => (if t226 = 1 then (if (itP_ x222001) < x7 then ((locate_space.f k x0 x220000 x220001 x220002 x220003 x220004 x220005 x220006 x220007 x220008 t225).bind fun t227 => ((scaled_Add.f x6 t227).bind fun t228 => (locate_Stops.l0 k x0 y222 t228 x7 x220000 x220001 x220002 x220003 x220004 x220005 x220006 x220007 x220008 x222000 (itN_ x222000 x222001)))) else (locate_Stops.l0 k x0 y222 x6 x7 x220000 x220001 x220002 x220003 x220004 x220005 x220006 x220007 x220008 x222000 (itN_ x222000 x222001))) else ((metrics_Table_Width.f k x0 t225 (itR_ x222000 x222001)).bind fun t229 => ((scaled_Add.f x6 t229).bind fun t230 => (locate_Stops.l0 k x0 y222 t230 x7 x220000 x220001 x220002 x220003 x220004 x220005 x220006 x220007 x220008 x222000 (itN_ x222000 x222001)))))))) else (none)) else (if x5.length < 8796093022208 then (some (x5 ++ [(⟨(x220000.size : Int), x6⟩ : S99)])) else (none))
def locate_Stops.f (k : Nat) (l0 : List (S124)) (a1_0 : ByteArray) (l1_1 : List (S89)) (a1_2 : Int) (a1_3 : Int) (a1_4 : Int) (a1_5 : Bool) (a1_6 : Int) (a1_7 : Bool) (a1_8 : Bool) : Option ((List (S99))) := (locate_shown.f k a1_0).bind fun t220 => (locate_Stops.l0 k l0 ([] : List (S99)) 0 t220 a1_0 l1_1 a1_2 a1_3 a1_4 a1_5 a1_6 a1_7 a1_8 a1_0 0)
theorem locate_Stops.mono_l : ∀ k, (∀ y0 y1 y2 y3 y4 y5 y6 y7 y8 y9 y10 y11 y12 y13 y14, LeO (locate_Stops.l0 k y0 y1 y2 y3 y4 y5 y6 y7 y8 y9 y10 y11 y12 y13 y14) (locate_Stops.l0 (k + 1) y0 y1 y2 y3 y4 y5 y6 y7 y8 y9 y10 y11 y12 y13 y14))
  | 0 => fun _ _ _ _ _ _ _ _ _ _ _ _ _ _ _ r h => by simp [locate_Stops.l0] at h
  | k + 1 => by
    have ih0 := locate_Stops.mono_l k
    · intro y0 y1 y2 y3 y4 y5 y6 y7 y8 y9 y10 y11 y12 y13 y14
      unfold locate_Stops.l0
      repeat' first
      | (with_reducible exact ih0 _ _ _ _ _ _ _ _ _ _ _ _ _ _ _)
      | (with_reducible exact locate_shown.mono _ _)
      | (with_reducible exact locate_space.mono _ _ _ _ _ _ _ _ _ _ _ _)
      | (with_reducible exact locate_styleAt.mono _ _ _)
      | (with_reducible exact metrics_Table_Width.mono _ _ _ _)
      | (with_reducible exact runes_Kind.mono _ _)
      | (with_reducible exact LeO.refl _)
      | (with_reducible exact LeO.none _)
      | (with_reducible refine LeO.ite ?_ ?_)
      | (with_reducible refine LeO.bind ?_ (fun _ => ?_))
      | exact ih0 _ _ _ _ _ _ _ _ _ _ _ _ _ _ _
      | exact locate_shown.mono _ _
      | exact locate_space.mono _ _ _ _ _ _ _ _ _ _ _ _
      | exact locate_styleAt.mono _ _ _
      | exact metrics_Table_Width.mono _ _ _ _
      | exact runes_Kind.mono _ _
      | exact LeO.none _
      | refine LeO.ite ?_ ?_
      | refine LeO.bind ?_ (fun _ => ?_)
theorem locate_Stops.mono : ∀ a0 a1 a2 a3 a4 a5 a6 a7 a8 a9 k, LeO (locate_Stops.f k a0 a1 a2 a3 a4 a5 a6 a7 a8 a9) (locate_Stops.f (k + 1) a0 a1 a2 a3 a4 a5 a6 a7 a8 a9) := by
  intro a0 a1 a2 a3 a4 a5 a6 a7 a8 a9 k
  have ih0 := locate_Stops.mono_l k
  unfold locate_Stops.f
  repeat' first
      | (with_reducible exact ih0 _ _ _ _ _ _ _ _ _ _ _ _ _ _ _)
      | (with_reducible exact locate_shown.mono _ _)
      | (with_reducible exact locate_space.mono _ _ _ _ _ _ _ _ _ _ _ _)
      | (with_reducible exact locate_styleAt.mono _ _ _)
      | (with_reducible exact metrics_Table_Width.mono _ _ _ _)
      | (with_reducible exact runes_Kind.mono _ _)
      | (with_reducible exact LeO.refl _)
      | (with_reducible exact LeO.none _)
      | (with_reducible refine LeO.ite ?_ ?_)
      | (with_reducible refine LeO.bind ?_ (fun _ => ?_))
      | exact ih0 _ _ _ _ _ _ _ _ _ _ _ _ _ _ _
      | exact locate_shown.mono _ _
      | exact locate_space.mono _ _ _ _ _ _ _ _ _ _ _ _
      | exact locate_styleAt.mono _ _ _
      | exact metrics_Table_Width.mono _ _ _ _
      | exact runes_Kind.mono _ _
      | exact LeO.none _
      | refine LeO.ite ?_ ?_
      | refine LeO.bind ?_ (fun _ => ?_)
def paint_drawn.f (k : Nat) (a0 : Int) : Option (Bool) := (runes_Kind.f k a0).bind fun t234 => (if t234 = 0 then (some true) else (some (t234 == 6)))
theorem paint_drawn.mono : ∀ a0 k, LeO (paint_drawn.f k a0) (paint_drawn.f (k + 1) a0) := by
  intro a0 k
  unfold paint_drawn.f
  repeat' first
      | (with_reducible exact runes_Kind.mono _ _)
      | (with_reducible exact LeO.refl _)
      | (with_reducible exact LeO.none _)
      | (with_reducible refine LeO.ite ?_ ?_)
      | (with_reducible refine LeO.bind ?_ (fun _ => ?_))
      | exact runes_Kind.mono _ _
      | exact LeO.none _
      | refine LeO.ite ?_ ?_
      | refine LeO.bind ?_ (fun _ => ?_)
def paint_styleAt.l0 : Nat → Int → List (S89) → Int → Int → Option (Int)
  | 0, _, _, _, _ => none
  | k + 1, x1, x7, x8, x9 => if x9 < x8 then (if 0 ≤ x9 then (if x9 < (x7.length : Int) then (if ((rd_T89 x7 x9).f0) ≤ 0 then (paint_styleAt.l0 k x1 x7 x8 (wrap64 (x9 + 1))) else (if x1 < ((rd_T89 x7 x9).f0) then (some ((rd_T89 x7 x9).f1)) else (paint_styleAt.l0 k (wrap64 (x1 - ((rd_T89 x7 x9).f0))) x7 x8 (wrap64 (x9 + 1))))) else (none)) else (none)) else (some 0)
def paint_styleAt.f (k : Nat) (l0 : List (S89)) (a1 : Int) : Option (Int) := paint_styleAt.l0 k a1 l0 (l0.length : Int) 0
theorem paint_styleAt.mono_l : ∀ k, (∀ y0 y1 y2 y3, LeO (paint_styleAt.l0 k y0 y1 y2 y3) (paint_styleAt.l0 (k + 1) y0 y1 y2 y3))
  | 0 => fun _ _ _ _ r h => by simp [paint_styleAt.l0] at h
  | k + 1 => by
    have ih0 := paint_styleAt.mono_l k
    · intro y0 y1 y2 y3
      unfold paint_styleAt.l0
      repeat' first
      | (with_reducible exact ih0 _ _ _ _)
      | (with_reducible exact LeO.refl _)
      | (with_reducible exact LeO.none _)
      | (with_reducible refine LeO.ite ?_ ?_)
      | (with_reducible refine LeO.bind ?_ (fun _ => ?_))
      | exact ih0 _ _ _ _
      | exact LeO.none _
      | refine LeO.ite ?_ ?_
      | refine LeO.bind ?_ (fun _ => ?_)
theorem paint_styleAt.mono : ∀ a0 a1 k, LeO (paint_styleAt.f k a0 a1) (paint_styleAt.f (k + 1) a0 a1) := by
  intro a0 a1 k
  have ih0 := paint_styleAt.mono_l k
  unfold paint_styleAt.f
  repeat' first
      | (with_reducible exact ih0 _ _ _ _)
      | (with_reducible exact LeO.refl _)
      | (with_reducible exact LeO.none _)
      | (with_reducible refine LeO.ite ?_ ?_)
      | (with_reducible refine LeO.bind ?_ (fun _ => ?_))
      | exact ih0 _ _ _ _
      | exact LeO.none _
      | refine LeO.ite ?_ ?_
      | refine LeO.bind ?_ (fun _ => ?_)
def scaled_Neg.f (a0 : Int) : Option (Int) := (scaled_Clamp.f a0).bind fun t237 => (some (wrap64 (-t237)))
def scaled_Sub.f (a0 : Int) (a1 : Int) : Option (Int) := (scaled_Neg.f a1).bind fun t238 => ((scaled_Add.f a0 t238).bind fun t239 => (some t239))
def paint_lastStyle.l0 : Nat → Int → List (S89) → Int → Int → Option (Int)
  | 0, _, _, _, _ => none
  | k + 1, x3, x7, x8, x9 => if x9 < x8 then (if 0 ≤ x9 then (if x9 < (x7.length : Int) then (if ((rd_T89 x7 x9).f0) > 0 then (paint_lastStyle.l0 k ((rd_T89 x7 x9).f1) x7 x8 (wrap64 (x9 + 1))) else (paint_lastStyle.l0 k x3 x7 x8 (wrap64 (x9 + 1)))) else (none)) else (none)) else (some x3)
def paint_lastStyle.f (k : Nat) (a0_0 : ByteArray) (l0_1 : List (S89)) (a0_2 : Int) (a0_3 : Int) (a0_4 : Int) (a0_5 : Bool) (a0_6 : Int) (a0_7 : Bool) (a0_8 : Bool) : Option (Int) := paint_lastStyle.l0 k 0 l0_1 (l0_1.length : Int) 0
theorem paint_lastStyle.mono_l : ∀ k, (∀ y0 y1 y2 y3, LeO (paint_lastStyle.l0 k y0 y1 y2 y3) (paint_lastStyle.l0 (k + 1) y0 y1 y2 y3))
  | 0 => fun _ _ _ _ r h => by simp [paint_lastStyle.l0] at h
  | k + 1 => by
    have ih0 := paint_lastStyle.mono_l k
    · intro y0 y1 y2 y3
      unfold paint_lastStyle.l0
      repeat' first
      | (with_reducible exact ih0 _ _ _ _)
      | (with_reducible exact LeO.refl _)
      | (with_reducible exact LeO.none _)
      | (with_reducible refine LeO.ite ?_ ?_)
      | (with_reducible refine LeO.bind ?_ (fun _ => ?_))
      | exact ih0 _ _ _ _
      | exact LeO.none _
      | refine LeO.ite ?_ ?_
      | refine LeO.bind ?_ (fun _ => ?_)
theorem paint_lastStyle.mono : ∀ a0 a1 a2 a3 a4 a5 a6 a7 a8 k, LeO (paint_lastStyle.f k a0 a1 a2 a3 a4 a5 a6 a7 a8) (paint_lastStyle.f (k + 1) a0 a1 a2 a3 a4 a5 a6 a7 a8) := by
  intro a0 a1 a2 a3 a4 a5 a6 a7 a8 k
  have ih0 := paint_lastStyle.mono_l k
  unfold paint_lastStyle.f
  repeat' first
      | (with_reducible exact ih0 _ _ _ _)
      | (with_reducible exact LeO.refl _)
      | (with_reducible exact LeO.none _)
      | (with_reducible refine LeO.ite ?_ ?_)
      | (with_reducible refine LeO.bind ?_ (fun _ => ?_))
      | exact ih0 _ _ _ _
      | exact LeO.none _
      | refine LeO.ite ?_ ?_
      | refine LeO.bind ?_ (fun _ => ?_)
def metrics_Table_Hyphen.f (l0 : List (S124)) (a1 : Int) : Option (Int) := (metrics_Table_of.f l0 a1).bind fun bt243 => (some bt243.2.2.2.2.1)
mutual
def paint_Line.l0 : Nat → List (S124) → List (S38) → List (S99) → Bool → Int → ByteArray → List (S89) → Int → Int → Int → Bool → Int → Bool → Bool → ByteArray → Int → Option ((List (S38)))
  | 0, _, _, _, _, _, _, _, _, _, _, _, _, _, _, _, _ => none
  | k + 1, x0, x5, x6, x7, x8, x254000, x254001, x254002, x254003, x254004, x254005, x254006, x254007, x254008, x258000, x258001 => if (x258001 : Int).toNat < x258000.size then (if 0 ≤ x8 then (if x8 < (x6.length : Int) then (if 0 ≤ (wrap64 (x8 + 1)) then (if (wrap64 (x8 + 1)) < (x6.length : Int) then ((paint_drawn.f k (itR_ x258000 x258001)).bind fun t262 => (if t262 = true then ((paint_styleAt.f k x254001 (itP_ x258001)).bind fun t265 => (if 0 ≤ ((rd_T99 x6 x8).f0) then (if ((rd_T99 x6 x8).f0) ≤ ((rd_T99 x6 (wrap64 (x8 + 1))).f0) then (if ((rd_T99 x6 (wrap64 (x8 + 1))).f0) ≤ (x254000.size : Int) then (if x7 = true then (if 0 ≤ (wrap64 ((x5.length : Int) - 1)) then (if (wrap64 ((x5.length : Int) - 1)) < (x5.length : Int) then (paint_Line.j1 k x0 x5 x6 x7 (wrap64 (x8 + 1)) t265 (x254000.extract (((rd_T99 x6 x8).f0) : Int).toNat (((rd_T99 x6 (wrap64 (x8 + 1))).f0) : Int).toNat) (wrap64 ((x5.length : Int) - 1)) (((rd_T38 x5 (wrap64 ((x5.length : Int) - 1))).f4) == t265) x254000 x254001 x254002 x254003 x254004 x254005 x254006 x254007 x254008 x258000 (itN_ x258000 x258001) ((rd_T99 x6 x8).f0) ((rd_T99 x6 x8).f1) ((rd_T99 x6 (wrap64 (x8 + 1))).f0) ((rd_T99 x6 (wrap64 (x8 + 1))).f1)) else (none)) else (none)) else (paint_Line.j1 k x0 x5 x6 x7 (wrap64 (x8 + 1)) t265 (x254000.extract (((rd_T99 x6 x8).f0) : Int).toNat (((rd_T99 x6 (wrap64 (x8 + 1))).f0) : Int).toNat) (wrap64 ((x5.length : Int) - 1)) false x254000 x254001 x254002 x254003 x254004 x254005 x254006 x254007 x254008 x258000 (itN_ x258000 x258001) ((rd_T99 x6 x8).f0) ((rd_T99 x6 x8).f1) ((rd_T99 x6 (wrap64 (x8 + 1))).f0) ((rd_T99 x6 (wrap64 (x8 + 1))).f1))) else (none)) else (none)) else (none))) else (if x7 = true then (if ((rd_T99 x6 (wrap64 (x8 + 1))).f1) = ((rd_T99 x6 x8).f1) then ((runes_Kind.f k (itR_ x258000 x258001)).bind fun t263 => (if t263 = 1 then (paint_Line.l0 k x0 x5 x6 false (wrap64 (x8 + 1)) x254000 x254001 x254002 x254003 x254004 x254005 x254006 x254007 x254008 x258000 (itN_ x258000 x258001)) else ((runes_Kind.f k (itR_ x258000 x258001)).bind fun t264 => (paint_Line.l0 k x0 x5 x6 (t264 != 2) (wrap64 (x8 + 1)) x254000 x254001 x254002 x254003 x254004 x254005 x254006 x254007 x254008 x258000 (itN_ x258000 x258001))))) else (paint_Line.l0 k x0 x5 x6 false (wrap64 (x8 + 1)) x254000 x254001 x254002 x254003 x254004 x254005 x254006 x254007 x254008 x258000 (itN_ x258000 x258001))) else (paint_Line.l0 k x0 x5 x6 false (wrap64 (x8 + 1)) x254000 x254001 x254002 x254003 x254004 x254005 x254006 x254007 x254008 x258000 (itN_ x258000 x258001))))) else (none)) else (none)) else (none)) else (none)) else (if x254005 = true then ((paint_lastStyle.f k x254000 x254001 x254002 x254003 x254004 x254005 x254006 x254007 x254008).bind fun t276 => (if 0 ≤ (wrap64 ((x6.length : Int) - 1)) then (if (wrap64 ((x6.length : Int) - 1)) < (x6.length : Int) then ((metrics_Table_Hyphen.f x0 t276).bind fun t278 => (if x5.length < 2932031007402 then (some (x5 ++ [(⟨(rd_T99 x6 (wrap64 ((x6.length : Int) - 1))).f1, x254006, t278, (⟨#[45]⟩ : ByteArray), t276⟩ : S38)])) else (none))) else (none)) else (none))) else (some x5))
def paint_Line.j1 : Nat → List (S124) → List (S38) → List (S99) → Bool → Int → Int → ByteArray → Int → Bool → ByteArray → List (S89) → Int → Int → Int → Bool → Int → Bool → Bool → ByteArray → Int → Int → Int → Int → Int → Option ((List (S38)))
  | 0, _, _, _, _, _, _, _, _, _, _, _, _, _, _, _, _, _, _, _, _, _, _, _, _ => none
  | k + 1, x0, x5, x6, x7, x8, x13, x14, x15, x82, x254000, x254001, x254002, x254003, x254004, x254005, x254006, x254007, x254008, x258000, x258001, x261000, x261001, x262000, x262001 => if x82 = true then (if 0 ≤ x15 then (if x15 < (x5.length : Int) then (if ((rd_T38 x5 x15).f3).size + x14.size ≤ 9223372036854775807 then ((some (x5.set (x15 : Int).toNat (⟨(rd_T38 x5 x15).f0, (rd_T38 x5 x15).f1, (rd_T38 x5 x15).f2, ((rd_T38 x5 x15).f3) ++ x14, (rd_T38 x5 x15).f4⟩ : S38) : List (S38))).bind fun y268 => ((scaled_Sub.f x262001 ((rd_T38 y268 x15).f0)).bind fun t270 => (paint_Line.l0 k x0 (y268.set (x15 : Int).toNat (⟨(rd_T38 y268 x15).f0, (rd_T38 y268 x15).f1, t270, (rd_T38 y268 x15).f3, (rd_T38 y268 x15).f4⟩ : S38)) x6 x7 x8 x254000 x254001 x254002 x254003 x254004 x254005 x254006 x254007 x254008 x258000 x258001))) else (none)) else (none)) else (none)) else ((scaled_Sub.f x262001 x261001).bind fun t272 => (if x5.length < 2932031007402 then (paint_Line.l0 k x0 (x5 ++ [(⟨x261001, x254006, t272, x14, x13⟩ : S38)]) x6 true x8 x254000 x254001 x254002 x254003 x254004 x254005 x254006 x254007 x254008 x258000 x258001) else (none)))
end
def paint_Line.f (k : Nat) (l0 : List (S124)) (a1_0 : ByteArray) (l1_1 : List (S89)) (a1_2 : Int) (a1_3 : Int) (a1_4 : Int) (a1_5 : Bool) (a1_6 : Int) (a1_7 : Bool) (a1_8 : Bool) : Option ((List (S38))) := (locate_Stops.f k l0 a1_0 l1_1 a1_2 a1_3 a1_4 a1_5 a1_6 a1_7 a1_8).bind fun t254 => (paint_Line.l0 k l0 ([] : List (S38)) t254 false 0 a1_0 l1_1 a1_2 a1_3 a1_4 a1_5 a1_6 a1_7 a1_8 a1_0 0)
theorem paint_Line.mono_l : ∀ k, (∀ y0 y1 y2 y3 y4 y5 y6 y7 y8 y9 y10 y11 y12 y13 y14 y15, LeO (paint_Line.l0 k y0 y1 y2 y3 y4 y5 y6 y7 y8 y9 y10 y11 y12 y13 y14 y15) (paint_Line.l0 (k + 1) y0 y1 y2 y3 y4 y5 y6 y7 y8 y9 y10 y11 y12 y13 y14 y15)) ∧ (∀ y0 y1 y2 y3 y4 y5 y6 y7 y8 y9 y10 y11 y12 y13 y14 y15 y16 y17 y18 y19 y20 y21 y22 y23, LeO (paint_Line.j1 k y0 y1 y2 y3 y4 y5 y6 y7 y8 y9 y10 y11 y12 y13 y14 y15 y16 y17 y18 y19 y20 y21 y22 y23) (paint_Line.j1 (k + 1) y0 y1 y2 y3 y4 y5 y6 y7 y8 y9 y10 y11 y12 y13 y14 y15 y16 y17 y18 y19 y20 y21 y22 y23))
  | 0 => ⟨fun _ _ _ _ _ _ _ _ _ _ _ _ _ _ _ _ r h => by simp [paint_Line.l0] at h, fun _ _ _ _ _ _ _ _ _ _ _ _ _ _ _ _ _ _ _ _ _ _ _ _ r h => by simp [paint_Line.j1] at h⟩
  | k + 1 => by
    obtain ⟨ih0, ih1⟩ := paint_Line.mono_l k
    refine ⟨?_, ?_⟩
    · intro y0 y1 y2 y3 y4 y5 y6 y7 y8 y9 y10 y11 y12 y13 y14 y15
      unfold paint_Line.l0
      repeat' first
      | (with_reducible exact ih0 _ _ _ _ _ _ _ _ _ _ _ _ _ _ _ _)
      | (with_reducible exact ih1 _ _ _ _ _ _ _ _ _ _ _ _ _ _ _ _ _ _ _ _ _ _ _ _)
      | (with_reducible exact locate_Stops.mono _ _ _ _ _ _ _ _ _ _ _)
      | (with_reducible exact paint_drawn.mono _ _)
      | (with_reducible exact paint_lastStyle.mono _ _ _ _ _ _ _ _ _ _)
      | (with_reducible exact paint_styleAt.mono _ _ _)
      | (with_reducible exact runes_Kind.mono _ _)
      | (with_reducible exact LeO.refl _)
      | (with_reducible exact LeO.none _)
      | (with_reducible refine LeO.ite ?_ ?_)
      | (with_reducible refine LeO.bind ?_ (fun _ => ?_))
      | exact ih0 _ _ _ _ _ _ _ _ _ _ _ _ _ _ _ _
      | exact ih1 _ _ _ _ _ _ _ _ _ _ _ _ _ _ _ _ _ _ _ _ _ _ _ _
      | exact locate_Stops.mono _ _ _ _ _ _ _ _ _ _ _
      | exact paint_drawn.mono _ _
      | exact paint_lastStyle.mono _ _ _ _ _ _ _ _ _ _
      | exact paint_styleAt.mono _ _ _
      | exact runes_Kind.mono _ _
      | exact LeO.none _
      | refine LeO.ite ?_ ?_
      | refine LeO.bind ?_ (fun _ => ?_)
    · intro y0 y1 y2 y3 y4 y5 y6 y7 y8 y9 y10 y11 y12 y13 y14 y15 y16 y17 y18 y19 y20 y21 y22 y23
      unfold paint_Line.j1
      repeat' first
      | (with_reducible exact ih0 _ _ _ _ _ _ _ _ _ _ _ _ _ _ _ _)
      | (with_reducible exact ih1 _ _ _ _ _ _ _ _ _ _ _ _ _ _ _ _ _ _ _ _ _ _ _ _)
      | (with_reducible exact locate_Stops.mono _ _ _ _ _ _ _ _ _ _ _)
      | (with_reducible exact paint_drawn.mono _ _)
      | (with_reducible exact paint_lastStyle.mono _ _ _ _ _ _ _ _ _ _)
      | (with_reducible exact paint_styleAt.mono _ _ _)
      | (with_reducible exact runes_Kind.mono _ _)
      | (with_reducible exact LeO.refl _)
      | (with_reducible exact LeO.none _)
      | (with_reducible refine LeO.ite ?_ ?_)
      | (with_reducible refine LeO.bind ?_ (fun _ => ?_))
      | exact ih0 _ _ _ _ _ _ _ _ _ _ _ _ _ _ _ _
      | exact ih1 _ _ _ _ _ _ _ _ _ _ _ _ _ _ _ _ _ _ _ _ _ _ _ _
      | exact locate_Stops.mono _ _ _ _ _ _ _ _ _ _ _
      | exact paint_drawn.mono _ _
      | exact paint_lastStyle.mono _ _ _ _ _ _ _ _ _ _
      | exact paint_styleAt.mono _ _ _
      | exact runes_Kind.mono _ _
      | exact LeO.none _
      | refine LeO.ite ?_ ?_
      | refine LeO.bind ?_ (fun _ => ?_)
theorem paint_Line.mono : ∀ a0 a1 a2 a3 a4 a5 a6 a7 a8 a9 k, LeO (paint_Line.f k a0 a1 a2 a3 a4 a5 a6 a7 a8 a9) (paint_Line.f (k + 1) a0 a1 a2 a3 a4 a5 a6 a7 a8 a9) := by
  intro a0 a1 a2 a3 a4 a5 a6 a7 a8 a9 k
  obtain ⟨ih0, ih1⟩ := paint_Line.mono_l k
  unfold paint_Line.f
  repeat' first
      | (with_reducible exact ih0 _ _ _ _ _ _ _ _ _ _ _ _ _ _ _ _)
      | (with_reducible exact ih1 _ _ _ _ _ _ _ _ _ _ _ _ _ _ _ _ _ _ _ _ _ _ _ _)
      | (with_reducible exact locate_Stops.mono _ _ _ _ _ _ _ _ _ _ _)
      | (with_reducible exact paint_drawn.mono _ _)
      | (with_reducible exact paint_lastStyle.mono _ _ _ _ _ _ _ _ _ _)
      | (with_reducible exact paint_styleAt.mono _ _ _)
      | (with_reducible exact runes_Kind.mono _ _)
      | (with_reducible exact LeO.refl _)
      | (with_reducible exact LeO.none _)
      | (with_reducible refine LeO.ite ?_ ?_)
      | (with_reducible refine LeO.bind ?_ (fun _ => ?_))
      | exact ih0 _ _ _ _ _ _ _ _ _ _ _ _ _ _ _ _
      | exact ih1 _ _ _ _ _ _ _ _ _ _ _ _ _ _ _ _ _ _ _ _ _ _ _ _
      | exact locate_Stops.mono _ _ _ _ _ _ _ _ _ _ _
      | exact paint_drawn.mono _ _
      | exact paint_lastStyle.mono _ _ _ _ _ _ _ _ _ _
      | exact paint_styleAt.mono _ _ _
      | exact runes_Kind.mono _ _
      | exact LeO.none _
      | refine LeO.ite ?_ ?_
      | refine LeO.bind ?_ (fun _ => ?_)
def paint_Line.T8 : Bool × List (List Nat × List Nat) := (true, [([], []), ([], []), ([0, 1], [0, 1]), ([2], [2]), ([], []), ([], []), ([5], [5]), ([4, 6], [4, 6]), ([7], [7]), ([], []), ([], []), ([9, 3, 0, 1, 2, 3, 9, 10], [3, 9]), ([10, 8, 11, 0, 1, 2, 3, 4, 5, 6, 7, 8, 9, 10, 11], [8, 10])])
def paint_Line.B8 : List Nat := [0, 0, 3, 7, 0, 0, 32, 112, 240, 0, 0, 1551, 4095]
def paint_Line.T17 : Bool × List (List Nat × List Nat) := (true, [([], []), ([], []), ([], []), ([2], [2]), ([], []), ([], []), ([4, 5], [4, 5]), ([6], [6]), ([7], [7]), ([3, 8], [3, 8]), ([0, 1, 0, 1, 2, 3, 4, 5, 6, 7, 8, 9], [0, 1]), ([10, 0, 1, 2, 3, 4, 5, 6, 7, 8, 9], [10]), ([11, 9, 9, 0, 1, 2, 3, 4, 5, 6, 7, 8, 9], [9, 11])])
def paint_Line.B17 : List Nat := [0, 0, 0, 4, 0, 0, 48, 112, 240, 508, 1023, 2047, 4095]
def paint_Line.T18 : Bool × List (List Nat × List Nat) := (true, [([], []), ([], []), ([1], [1]), ([], []), ([3], [3]), ([], []), ([5], [5]), ([], []), ([7], [7]), ([6, 8], [6, 8]), ([], []), ([], []), ([2, 4, 9, 10, 11], [2, 4, 9, 10, 11]), ([12], [12]), ([0, 13, 9], [0, 13]), ([14, 14, 0, 1, 2, 3, 4, 5, 6, 7, 8, 9, 10, 11, 12, 13, 14], [0, 14])])
def paint_Line.B18 : List Nat := [0, 0, 2, 0, 8, 0, 32, 0, 128, 480, 0, 0, 4094, 8190, 16383, 32767]
def paint_Line.T22 : Bool × List (List Nat × List Nat) := (true, [([], []), ([], []), ([], []), ([2], [2]), ([3], [3]), ([1, 4], [1, 4]), ([5], [5]), ([6], [6]), ([], []), ([8], [8]), ([], []), ([], []), ([10, 11], [10, 11]), ([], []), ([7, 9, 12, 13], [7, 9, 12, 13]), ([14], [14]), ([0, 15, 12], [0, 15]), ([16, 16, 0, 1, 2, 3, 4, 5, 6, 7, 8, 9, 10, 11, 12, 13, 14, 15, 16], [0, 16])])
def paint_Line.B22 : List Nat := [0, 0, 0, 4, 12, 30, 62, 126, 0, 256, 0, 0, 3072, 0, 16382, 32766, 65535, 131071]
def paint_Window_Top.f (a0_0 : Int) (a0_1 : Int) (a0_2 : Int) (a1 : Int) : Option (Int × Bool) := if a1 < 0 then (some (0, false)) else (if a1 ≥ a0_2 then (some (0, false)) else (some (wrap64 (a1 * (wrap64 (a0_0 + a0_1))), true)))
def paint_Window_Size.f (a0_0 : Int) (a0_1 : Int) (a0_2 : Int) : Option (Int) := if a0_2 = 0 then (some 0) else (some (wrap64 ((wrap64 (a0_2 * a0_0)) + (wrap64 ((wrap64 (a0_2 - 1)) * a0_1)))))
def paint_Window_Seen.l0 : Nat → Int → List (S90) → Int → Int → Int → Int → Int → Option ((List (S90)))
  | 0, _, _, _, _, _, _, _ => none
  | k + 1, x1, x7, x8, x9, x285000, x285001, x285002 => if x9 < x285002 then ((paint_Window_Top.f x285000 x285001 x285002 x9).bind fun bt287 => (if bt287.1 ≥ x8 then (some x7) else (if (mx 0 (wrap64 (x1 - bt287.1))) < (mn x285000 (wrap64 (x8 - bt287.1))) then (if x7.length < 5864062014805 then (paint_Window_Seen.l0 k x1 (x7 ++ [(⟨x9, mx 0 (wrap64 (x1 - bt287.1)), mn x285000 (wrap64 (x8 - bt287.1))⟩ : S90)]) x8 (wrap64 (x9 + 1)) x285000 x285001 x285002) else (none)) else (paint_Window_Seen.l0 k x1 x7 x8 (wrap64 (x9 + 1)) x285000 x285001 x285002)))) else (some x7)
def paint_Window_Seen.f (k : Nat) (a0_0 : Int) (a0_1 : Int) (a0_2 : Int) (a1 : Int) (a2 : Int) : Option ((List (S90))) := if a2 ≤ 0 then (some ([] : List (S90))) else ((paint_Window_Size.f a0_0 a0_1 a0_2).bind fun t285 => (if (mx (-1073741824) a1) ≥ t285 then (some ([] : List (S90))) else ((paint_Window_Size.f a0_0 a0_1 a0_2).bind fun t286 => (if (wrap64 (a0_0 + a0_1)) = 0 then (none) else (paint_Window_Seen.l0 k (mx (-1073741824) a1) ([] : List (S90)) (mn t286 (wrap64 ((mx (-1073741824) a1) + (mn a2 281474976710656)))) (mx 0 (wrap64 (Int.tdiv (mx (-1073741824) a1) (wrap64 (a0_0 + a0_1))))) a0_0 a0_1 a0_2)))))
theorem paint_Window_Seen.mono_l : ∀ k, (∀ y0 y1 y2 y3 y4 y5 y6, LeO (paint_Window_Seen.l0 k y0 y1 y2 y3 y4 y5 y6) (paint_Window_Seen.l0 (k + 1) y0 y1 y2 y3 y4 y5 y6))
  | 0 => fun _ _ _ _ _ _ _ r h => by simp [paint_Window_Seen.l0] at h
  | k + 1 => by
    have ih0 := paint_Window_Seen.mono_l k
    · intro y0 y1 y2 y3 y4 y5 y6
      unfold paint_Window_Seen.l0
      repeat' first
      | (with_reducible exact ih0 _ _ _ _ _ _ _)
      | (with_reducible exact LeO.refl _)
      | (with_reducible exact LeO.none _)
      | (with_reducible refine LeO.ite ?_ ?_)
      | (with_reducible refine LeO.bind ?_ (fun _ => ?_))
      | exact ih0 _ _ _ _ _ _ _
      | exact LeO.none _
      | refine LeO.ite ?_ ?_
      | refine LeO.bind ?_ (fun _ => ?_)
theorem paint_Window_Seen.mono : ∀ a0 a1 a2 a3 a4 k, LeO (paint_Window_Seen.f k a0 a1 a2 a3 a4) (paint_Window_Seen.f (k + 1) a0 a1 a2 a3 a4) := by
  intro a0 a1 a2 a3 a4 k
  have ih0 := paint_Window_Seen.mono_l k
  unfold paint_Window_Seen.f
  repeat' first
      | (with_reducible exact ih0 _ _ _ _ _ _ _)
      | (with_reducible exact LeO.refl _)
      | (with_reducible exact LeO.none _)
      | (with_reducible refine LeO.ite ?_ ?_)
      | (with_reducible refine LeO.bind ?_ (fun _ => ?_))
      | exact ih0 _ _ _ _ _ _ _
      | exact LeO.none _
      | refine LeO.ite ?_ ?_
      | refine LeO.bind ?_ (fun _ => ?_)
def paint_Window_At.j0 : Nat → Int → Bool → Int → Int → Int → Option (Int × Int × Bool)
  | 0, _, _, _, _, _ => none
  | k + 1, x1, x16, x293000, x293001, x293002 => if x16 = true then (some (0, 0, false)) else (if (wrap64 (x293000 + x293001)) = 0 then (none) else (if (Int.tmod x1 (wrap64 (x293000 + x293001))) ≥ x293000 then (some (0, 0, false)) else (some (wrap64 (Int.tdiv x1 (wrap64 (x293000 + x293001))), Int.tmod x1 (wrap64 (x293000 + x293001)), true))))
def paint_Window_At.f (k : Nat) (a0_0 : Int) (a0_1 : Int) (a0_2 : Int) (a1 : Int) : Option (Int × Int × Bool) := if a1 < 0 then (paint_Window_At.j0 k a1 true a0_0 a0_1 a0_2) else ((paint_Window_Size.f a0_0 a0_1 a0_2).bind fun t293 => (paint_Window_At.j0 k a1 (decide (a1 ≥ t293)) a0_0 a0_1 a0_2))
theorem paint_Window_At.mono_l : ∀ k, (∀ y0 y1 y2 y3 y4, LeO (paint_Window_At.j0 k y0 y1 y2 y3 y4) (paint_Window_At.j0 (k + 1) y0 y1 y2 y3 y4))
  | 0 => fun _ _ _ _ _ r h => by simp [paint_Window_At.j0] at h
  | k + 1 => by
    have ih0 := paint_Window_At.mono_l k
    · intro y0 y1 y2 y3 y4
      unfold paint_Window_At.j0
      repeat' first
      | (with_reducible exact ih0 _ _ _ _ _)
      | (with_reducible exact LeO.refl _)
      | (with_reducible exact LeO.none _)
      | (with_reducible refine LeO.ite ?_ ?_)
      | (with_reducible refine LeO.bind ?_ (fun _ => ?_))
      | exact ih0 _ _ _ _ _
      | exact LeO.none _
      | refine LeO.ite ?_ ?_
      | refine LeO.bind ?_ (fun _ => ?_)
theorem paint_Window_At.mono : ∀ a0 a1 a2 a3 k, LeO (paint_Window_At.f k a0 a1 a2 a3) (paint_Window_At.f (k + 1) a0 a1 a2 a3) := by
  intro a0 a1 a2 a3 k
  have ih0 := paint_Window_At.mono_l k
  unfold paint_Window_At.f
  repeat' first
      | (with_reducible exact ih0 _ _ _ _ _)
      | (with_reducible exact LeO.refl _)
      | (with_reducible exact LeO.none _)
      | (with_reducible refine LeO.ite ?_ ?_)
      | (with_reducible refine LeO.bind ?_ (fun _ => ?_))
      | exact ih0 _ _ _ _ _
      | exact LeO.none _
      | refine LeO.ite ?_ ?_
      | refine LeO.bind ?_ (fun _ => ?_)
def regletlaw21_awake.f (k : Nat)  : Option (Bool) := (regletlaw21_table.f k (([(⟨10, 6, 0, 0, 6, 6, ([] : List (S134)), false⟩ : S87)] : List (S87)))).bind fun t297 => (if (t297.length : Int) = 0 then (some false) else ((paint_Line.f k t297 (⟨#[97, 98, 32, 99, 100]⟩ : ByteArray) (([(⟨5, 0⟩ : S89)] : List (S89))) 0 1 0 false 0 false false).bind fun t303 => ((paint_Window_Seen.f k 30 5 4 20 20).bind fun t307 => ((paint_Window_At.f k 30 5 4 33).bind fun bt310 => (if (t303.length : Int) = 2 then (if 0 < (t303.length : Int) then (if ((rd_T38 t303 0).f2) = 12 then (if 1 < (t303.length : Int) then (if ((rd_T38 t303 1).f0) = 18 then (if ((rd_T38 t303 1).f3).toList = ([99, 100] : List UInt8) then (if bt310.2.2 = true then (some false) else (if (t307.length : Int) = 2 then (if 1 < (t307.length : Int) then (some (((rd_T90 t307 1).f0) == 1 && (((rd_T90 t307 1).f1) == 0 && (((rd_T90 t307 1).f2) == 5)))) else (none)) else (some false))) else (some false)) else (some false)) else (none)) else (some false)) else (none)) else (some false))))))
theorem regletlaw21_awake.mono : ∀ k, LeO (regletlaw21_awake.f k ) (regletlaw21_awake.f (k + 1) ) := by
  intro  k
  unfold regletlaw21_awake.f
  repeat' first
      | (with_reducible exact paint_Line.mono _ _ _ _ _ _ _ _ _ _ _)
      | (with_reducible exact paint_Window_At.mono _ _ _ _ _)
      | (with_reducible exact paint_Window_Seen.mono _ _ _ _ _ _)
      | (with_reducible exact regletlaw21_table.mono _ _)
      | (with_reducible exact LeO.refl _)
      | (with_reducible exact LeO.none _)
      | (with_reducible refine LeO.ite ?_ ?_)
      | (with_reducible refine LeO.bind ?_ (fun _ => ?_))
      | exact paint_Line.mono _ _ _ _ _ _ _ _ _ _ _
      | exact paint_Window_At.mono _ _ _ _ _
      | exact paint_Window_Seen.mono _ _ _ _ _ _
      | exact regletlaw21_table.mono _ _
      | exact LeO.none _
      | refine LeO.ite ?_ ?_
      | refine LeO.bind ?_ (fun _ => ?_)
def regletlaw21_bands.l0 : Nat → List (S90) → List (S56) → Int → Option ((List (S56)))
  | 0, _, _, _ => none
  | k + 1, x0, x3, x4 => if x4 < (x0.length : Int) then (if 0 ≤ x4 then (if x3.length < 5864062014805 then (regletlaw21_bands.l0 k x0 (x3 ++ [(⟨(rd_T90 x0 x4).f0, (rd_T90 x0 x4).f1, (rd_T90 x0 x4).f2⟩ : S56)]) (wrap64 (x4 + 1))) else (none)) else (none)) else (some x3)
def regletlaw21_bands.f (k : Nat) (l0 : List (S90)) : Option ((List (S56))) := regletlaw21_bands.l0 k l0 ([] : List (S56)) 0
theorem regletlaw21_bands.mono_l : ∀ k, (∀ y0 y1 y2, LeO (regletlaw21_bands.l0 k y0 y1 y2) (regletlaw21_bands.l0 (k + 1) y0 y1 y2))
  | 0 => fun _ _ _ r h => by simp [regletlaw21_bands.l0] at h
  | k + 1 => by
    have ih0 := regletlaw21_bands.mono_l k
    · intro y0 y1 y2
      unfold regletlaw21_bands.l0
      repeat' first
      | (with_reducible exact ih0 _ _ _)
      | (with_reducible exact LeO.refl _)
      | (with_reducible exact LeO.none _)
      | (with_reducible refine LeO.ite ?_ ?_)
      | (with_reducible refine LeO.bind ?_ (fun _ => ?_))
      | exact ih0 _ _ _
      | exact LeO.none _
      | refine LeO.ite ?_ ?_
      | refine LeO.bind ?_ (fun _ => ?_)
theorem regletlaw21_bands.mono : ∀ a0 k, LeO (regletlaw21_bands.f k a0) (regletlaw21_bands.f (k + 1) a0) := by
  intro a0 k
  have ih0 := regletlaw21_bands.mono_l k
  unfold regletlaw21_bands.f
  repeat' first
      | (with_reducible exact ih0 _ _ _)
      | (with_reducible exact LeO.refl _)
      | (with_reducible exact LeO.none _)
      | (with_reducible refine LeO.ite ?_ ?_)
      | (with_reducible refine LeO.bind ?_ (fun _ => ?_))
      | exact ih0 _ _ _
      | exact LeO.none _
      | refine LeO.ite ?_ ?_
      | refine LeO.bind ?_ (fun _ => ?_)
def regletlaw21_bands.T5 : Bool × List (List Nat × List Nat) := (true, [([], []), ([], []), ([], []), ([1, 2], [1, 2]), ([3], [3]), ([4], [4]), ([], []), ([], []), ([6, 7], [6, 7]), ([8], [8]), ([9], [9]), ([], []), ([], []), ([11, 12], [11, 12]), ([13], [13]), ([14], [14]), ([5, 10, 15], [5, 10, 15]), ([16], [16]), ([0, 17], [0, 17]), ([18, 18, 0, 1, 2, 3, 4, 5, 6, 7, 8, 9, 10, 11, 12, 13, 14, 15, 16, 17, 18], [0, 18])])
def regletlaw21_bands.B5 : List Nat := [0, 0, 0, 6, 14, 30, 0, 0, 192, 448, 960, 0, 0, 6144, 14336, 30720, 65534, 131070, 262143, 524287]
def regletref21_Tidy.l0 : Nat → List (S56) → Int → Option (Bool)
  | 0, _, _ => none
  | k + 1, x0, x3 => if x3 < (x0.length : Int) then (if 0 ≤ x3 then (if ((rd_T56 x0 x3).f1) ≥ ((rd_T56 x0 x3).f2) then (some false) else (if x3 > 0 then (if 0 ≤ (wrap64 (x3 - 1)) then (if (wrap64 (x3 - 1)) < (x0.length : Int) then (if ((rd_T56 x0 x3).f0) < ((rd_T56 x0 (wrap64 (x3 - 1))).f0) then (some false) else (if ((rd_T56 x0 x3).f0) = ((rd_T56 x0 (wrap64 (x3 - 1))).f0) then (if ((rd_T56 x0 x3).f1) ≤ ((rd_T56 x0 (wrap64 (x3 - 1))).f2) then (some false) else (regletref21_Tidy.l0 k x0 (wrap64 (x3 + 1)))) else (regletref21_Tidy.l0 k x0 (wrap64 (x3 + 1))))) else (none)) else (none)) else (regletref21_Tidy.l0 k x0 (wrap64 (x3 + 1))))) else (none)) else (some true)
def regletref21_Tidy.f (k : Nat) (l0 : List (S56)) : Option (Bool) := regletref21_Tidy.l0 k l0 0
theorem regletref21_Tidy.mono_l : ∀ k, (∀ y0 y1, LeO (regletref21_Tidy.l0 k y0 y1) (regletref21_Tidy.l0 (k + 1) y0 y1))
  | 0 => fun _ _ r h => by simp [regletref21_Tidy.l0] at h
  | k + 1 => by
    have ih0 := regletref21_Tidy.mono_l k
    · intro y0 y1
      unfold regletref21_Tidy.l0
      repeat' first
      | (with_reducible exact ih0 _ _)
      | (with_reducible exact LeO.refl _)
      | (with_reducible exact LeO.none _)
      | (with_reducible refine LeO.ite ?_ ?_)
      | (with_reducible refine LeO.bind ?_ (fun _ => ?_))
      | exact ih0 _ _
      | exact LeO.none _
      | refine LeO.ite ?_ ?_
      | refine LeO.bind ?_ (fun _ => ?_)
theorem regletref21_Tidy.mono : ∀ a0 k, LeO (regletref21_Tidy.f k a0) (regletref21_Tidy.f (k + 1) a0) := by
  intro a0 k
  have ih0 := regletref21_Tidy.mono_l k
  unfold regletref21_Tidy.f
  repeat' first
      | (with_reducible exact ih0 _ _)
      | (with_reducible exact LeO.refl _)
      | (with_reducible exact LeO.none _)
      | (with_reducible refine LeO.ite ?_ ?_)
      | (with_reducible refine LeO.bind ?_ (fun _ => ?_))
      | exact ih0 _ _
      | exact LeO.none _
      | refine LeO.ite ?_ ?_
      | refine LeO.bind ?_ (fun _ => ?_)
def regletref21_In.l0 : Nat → List (S56) → Int → Int → Int → Option (Bool)
  | 0, _, _, _, _ => none
  | k + 1, x0, x1, x2, x7 => if x7 < (x0.length : Int) then (if 0 ≤ x7 then (if ((rd_T56 x0 x7).f0) = x1 then (if ((rd_T56 x0 x7).f1) ≤ x2 then (if x2 < ((rd_T56 x0 x7).f2) then (some true) else (regletref21_In.l0 k x0 x1 x2 (wrap64 (x7 + 1)))) else (regletref21_In.l0 k x0 x1 x2 (wrap64 (x7 + 1)))) else (regletref21_In.l0 k x0 x1 x2 (wrap64 (x7 + 1)))) else (none)) else (some false)
def regletref21_In.f (k : Nat) (l0 : List (S56)) (a1 : Int) (a2 : Int) : Option (Bool) := regletref21_In.l0 k l0 a1 a2 0
theorem regletref21_In.mono_l : ∀ k, (∀ y0 y1 y2 y3, LeO (regletref21_In.l0 k y0 y1 y2 y3) (regletref21_In.l0 (k + 1) y0 y1 y2 y3))
  | 0 => fun _ _ _ _ r h => by simp [regletref21_In.l0] at h
  | k + 1 => by
    have ih0 := regletref21_In.mono_l k
    · intro y0 y1 y2 y3
      unfold regletref21_In.l0
      repeat' first
      | (with_reducible exact ih0 _ _ _ _)
      | (with_reducible exact LeO.refl _)
      | (with_reducible exact LeO.none _)
      | (with_reducible refine LeO.ite ?_ ?_)
      | (with_reducible refine LeO.bind ?_ (fun _ => ?_))
      | exact ih0 _ _ _ _
      | exact LeO.none _
      | refine LeO.ite ?_ ?_
      | refine LeO.bind ?_ (fun _ => ?_)
theorem regletref21_In.mono : ∀ a0 a1 a2 k, LeO (regletref21_In.f k a0 a1 a2) (regletref21_In.f (k + 1) a0 a1 a2) := by
  intro a0 a1 a2 k
  have ih0 := regletref21_In.mono_l k
  unfold regletref21_In.f
  repeat' first
      | (with_reducible exact ih0 _ _ _ _)
      | (with_reducible exact LeO.refl _)
      | (with_reducible exact LeO.none _)
      | (with_reducible refine LeO.ite ?_ ?_)
      | (with_reducible refine LeO.bind ?_ (fun _ => ?_))
      | exact ih0 _ _ _ _
      | exact LeO.none _
      | refine LeO.ite ?_ ?_
      | refine LeO.bind ?_ (fun _ => ?_)
def bits_Len32.f (a0 : Int) : Option (Int) := if a0 ≥ 65536 then (if (a0 / 65536) ≥ 256 then (if 0 ≤ (((a0 / 65536) / 256) % 256) then (if (((a0 / 65536) / 256) % 256) < 256 then (some (wrap64 ((16 + 8) + (wrap64 (bt (⟨#[0, 1, 2, 2, 3, 3, 3, 3, 4, 4, 4, 4, 4, 4, 4, 4, 5, 5, 5, 5, 5, 5, 5, 5, 5, 5, 5, 5, 5, 5, 5, 5, 6, 6, 6, 6, 6, 6, 6, 6, 6, 6, 6, 6, 6, 6, 6, 6, 6, 6, 6, 6, 6, 6, 6, 6, 6, 6, 6, 6, 6, 6, 6, 6, 7, 7, 7, 7, 7, 7, 7, 7, 7, 7, 7, 7, 7, 7, 7, 7, 7, 7, 7, 7, 7, 7, 7, 7, 7, 7, 7, 7, 7, 7, 7, 7, 7, 7, 7, 7, 7, 7, 7, 7, 7, 7, 7, 7, 7, 7, 7, 7, 7, 7, 7, 7, 7, 7, 7, 7, 7, 7, 7, 7, 7, 7, 7, 7, 8, 8, 8, 8, 8, 8, 8, 8, 8, 8, 8, 8, 8, 8, 8, 8, 8, 8, 8, 8, 8, 8, 8, 8, 8, 8, 8, 8, 8, 8, 8, 8, 8, 8, 8, 8, 8, 8, 8, 8, 8, 8, 8, 8, 8, 8, 8, 8, 8, 8, 8, 8, 8, 8, 8, 8, 8, 8, 8, 8, 8, 8, 8, 8, 8, 8, 8, 8, 8, 8, 8, 8, 8, 8, 8, 8, 8, 8, 8, 8, 8, 8, 8, 8, 8, 8, 8, 8, 8, 8, 8, 8, 8, 8, 8, 8, 8, 8, 8, 8, 8, 8, 8, 8, 8, 8, 8, 8, 8, 8, 8, 8, 8, 8, 8, 8, 8, 8, 8, 8, 8, 8, 8, 8, 8, 8, 8, 8]⟩ : ByteArray) (((a0 / 65536) / 256) % 256)))))) else (none)) else (none)) else (if 0 ≤ ((a0 / 65536) % 256) then (if ((a0 / 65536) % 256) < 256 then (some (wrap64 (16 + (wrap64 (bt (⟨#[0, 1, 2, 2, 3, 3, 3, 3, 4, 4, 4, 4, 4, 4, 4, 4, 5, 5, 5, 5, 5, 5, 5, 5, 5, 5, 5, 5, 5, 5, 5, 5, 6, 6, 6, 6, 6, 6, 6, 6, 6, 6, 6, 6, 6, 6, 6, 6, 6, 6, 6, 6, 6, 6, 6, 6, 6, 6, 6, 6, 6, 6, 6, 6, 7, 7, 7, 7, 7, 7, 7, 7, 7, 7, 7, 7, 7, 7, 7, 7, 7, 7, 7, 7, 7, 7, 7, 7, 7, 7, 7, 7, 7, 7, 7, 7, 7, 7, 7, 7, 7, 7, 7, 7, 7, 7, 7, 7, 7, 7, 7, 7, 7, 7, 7, 7, 7, 7, 7, 7, 7, 7, 7, 7, 7, 7, 7, 7, 8, 8, 8, 8, 8, 8, 8, 8, 8, 8, 8, 8, 8, 8, 8, 8, 8, 8, 8, 8, 8, 8, 8, 8, 8, 8, 8, 8, 8, 8, 8, 8, 8, 8, 8, 8, 8, 8, 8, 8, 8, 8, 8, 8, 8, 8, 8, 8, 8, 8, 8, 8, 8, 8, 8, 8, 8, 8, 8, 8, 8, 8, 8, 8, 8, 8, 8, 8, 8, 8, 8, 8, 8, 8, 8, 8, 8, 8, 8, 8, 8, 8, 8, 8, 8, 8, 8, 8, 8, 8, 8, 8, 8, 8, 8, 8, 8, 8, 8, 8, 8, 8, 8, 8, 8, 8, 8, 8, 8, 8, 8, 8, 8, 8, 8, 8, 8, 8, 8, 8, 8, 8, 8, 8, 8, 8, 8, 8]⟩ : ByteArray) ((a0 / 65536) % 256)))))) else (none)) else (none))) else (if a0 ≥ 256 then (if 0 ≤ ((a0 / 256) % 256) then (if ((a0 / 256) % 256) < 256 then (some (wrap64 ((0 + 8) + (wrap64 (bt (⟨#[0, 1, 2, 2, 3, 3, 3, 3, 4, 4, 4, 4, 4, 4, 4, 4, 5, 5, 5, 5, 5, 5, 5, 5, 5, 5, 5, 5, 5, 5, 5, 5, 6, 6, 6, 6, 6, 6, 6, 6, 6, 6, 6, 6, 6, 6, 6, 6, 6, 6, 6, 6, 6, 6, 6, 6, 6, 6, 6, 6, 6, 6, 6, 6, 7, 7, 7, 7, 7, 7, 7, 7, 7, 7, 7, 7, 7, 7, 7, 7, 7, 7, 7, 7, 7, 7, 7, 7, 7, 7, 7, 7, 7, 7, 7, 7, 7, 7, 7, 7, 7, 7, 7, 7, 7, 7, 7, 7, 7, 7, 7, 7, 7, 7, 7, 7, 7, 7, 7, 7, 7, 7, 7, 7, 7, 7, 7, 7, 8, 8, 8, 8, 8, 8, 8, 8, 8, 8, 8, 8, 8, 8, 8, 8, 8, 8, 8, 8, 8, 8, 8, 8, 8, 8, 8, 8, 8, 8, 8, 8, 8, 8, 8, 8, 8, 8, 8, 8, 8, 8, 8, 8, 8, 8, 8, 8, 8, 8, 8, 8, 8, 8, 8, 8, 8, 8, 8, 8, 8, 8, 8, 8, 8, 8, 8, 8, 8, 8, 8, 8, 8, 8, 8, 8, 8, 8, 8, 8, 8, 8, 8, 8, 8, 8, 8, 8, 8, 8, 8, 8, 8, 8, 8, 8, 8, 8, 8, 8, 8, 8, 8, 8, 8, 8, 8, 8, 8, 8, 8, 8, 8, 8, 8, 8, 8, 8, 8, 8, 8, 8, 8, 8, 8, 8, 8, 8]⟩ : ByteArray) ((a0 / 256) % 256)))))) else (none)) else (none)) else (if 0 ≤ ((a0) % 256) then (if ((a0) % 256) < 256 then (some (wrap64 (0 + (wrap64 (bt (⟨#[0, 1, 2, 2, 3, 3, 3, 3, 4, 4, 4, 4, 4, 4, 4, 4, 5, 5, 5, 5, 5, 5, 5, 5, 5, 5, 5, 5, 5, 5, 5, 5, 6, 6, 6, 6, 6, 6, 6, 6, 6, 6, 6, 6, 6, 6, 6, 6, 6, 6, 6, 6, 6, 6, 6, 6, 6, 6, 6, 6, 6, 6, 6, 6, 7, 7, 7, 7, 7, 7, 7, 7, 7, 7, 7, 7, 7, 7, 7, 7, 7, 7, 7, 7, 7, 7, 7, 7, 7, 7, 7, 7, 7, 7, 7, 7, 7, 7, 7, 7, 7, 7, 7, 7, 7, 7, 7, 7, 7, 7, 7, 7, 7, 7, 7, 7, 7, 7, 7, 7, 7, 7, 7, 7, 7, 7, 7, 7, 8, 8, 8, 8, 8, 8, 8, 8, 8, 8, 8, 8, 8, 8, 8, 8, 8, 8, 8, 8, 8, 8, 8, 8, 8, 8, 8, 8, 8, 8, 8, 8, 8, 8, 8, 8, 8, 8, 8, 8, 8, 8, 8, 8, 8, 8, 8, 8, 8, 8, 8, 8, 8, 8, 8, 8, 8, 8, 8, 8, 8, 8, 8, 8, 8, 8, 8, 8, 8, 8, 8, 8, 8, 8, 8, 8, 8, 8, 8, 8, 8, 8, 8, 8, 8, 8, 8, 8, 8, 8, 8, 8, 8, 8, 8, 8, 8, 8, 8, 8, 8, 8, 8, 8, 8, 8, 8, 8, 8, 8, 8, 8, 8, 8, 8, 8, 8, 8, 8, 8, 8, 8, 8, 8, 8, 8, 8, 8]⟩ : ByteArray) ((a0) % 256)))))) else (none)) else (none)))
def bits_Len.f (k : Nat) (a0 : Int) : Option (Int) := (bits_Len64.f k a0).bind fun t334 => (some t334)
theorem bits_Len.mono : ∀ a0 k, LeO (bits_Len.f k a0) (bits_Len.f (k + 1) a0) := by
  intro a0 k
  unfold bits_Len.f
  repeat' first
      | (with_reducible exact bits_Len64.mono _ _)
      | (with_reducible exact LeO.refl _)
      | (with_reducible exact LeO.none _)
      | (with_reducible refine LeO.ite ?_ ?_)
      | (with_reducible refine LeO.bind ?_ (fun _ => ?_))
      | exact bits_Len64.mono _ _
      | exact LeO.none _
      | refine LeO.ite ?_ ?_
      | refine LeO.bind ?_ (fun _ => ?_)
def slices_nextPowerOfTwo.f (k : Nat) (a0 : Int) : Option (Int) := (bits_Len.f k (IntKind.u64.wrap (a0))).bind fun t335 => (if 0 ≤ t335 then (some (shl .u64 1 t335)) else (none))
theorem slices_nextPowerOfTwo.mono : ∀ a0 k, LeO (slices_nextPowerOfTwo.f k a0) (slices_nextPowerOfTwo.f (k + 1) a0) := by
  intro a0 k
  unfold slices_nextPowerOfTwo.f
  repeat' first
      | (with_reducible exact bits_Len.mono _ _)
      | (with_reducible exact LeO.refl _)
      | (with_reducible exact LeO.none _)
      | (with_reducible refine LeO.ite ?_ ?_)
      | (with_reducible refine LeO.bind ?_ (fun _ => ?_))
      | exact bits_Len.mono _ _
      | exact LeO.none _
      | refine LeO.ite ?_ ?_
      | refine LeO.bind ?_ (fun _ => ?_)
-- By hand
-- include Joins
/-! By hand: the models of functions that the print does not take. -/
-- fn slices_IndexFunc 1 reglet/paint.Join$1
-- fn slices_DeleteFunc 1 reglet/paint.Join$1
-- sort slices.SortFunc[ bandSort_ok
def paint_Join_1.f (a0_0 : Int) (a0_1 : Int) (a0_2 : Int) : Option (Bool) := some (decide (a0_1 ≥ a0_2))
def slices_Clone.f (l0 : List (S90)) : Option ((List (S90))) := if l0.length < 5864062014805 then (some l0) else (none)
def slices_IndexFunc.l0 : Nat → List (S90) → Int → Int → Option (Int)
  | 0, _, _, _ => none
  | k + 1, x0, x7, x8 => if x8 < x7 then (if 0 ≤ x8 then (if x8 < (x0.length : Int) then ((paint_Join_1.f ((rd_T90 x0 x8).f0) ((rd_T90 x0 x8).f1) ((rd_T90 x0 x8).f2)).bind fun t16 => (if t16 = true then (some x8) else (slices_IndexFunc.l0 k x0 x7 (wrap64 (x8 + 1))))) else (none)) else (none)) else (some (-1))
def slices_IndexFunc.f (k : Nat) (l0 : List (S90)) : Option (Int) := slices_IndexFunc.l0 k l0 (l0.length : Int) 0
def slices_DeleteFunc.l0 : Nat → List (S90) → Int → Int → Option ((List (S90)))
  | 0, _, _, _ => none
  | k + 1, x0, x5, x6 => if x6 < (x0.length : Int) then (if 0 ≤ x6 then ((paint_Join_1.f ((rd_T90 x0 x6).f0) ((rd_T90 x0 x6).f1) ((rd_T90 x0 x6).f2)).bind fun t28 => (if t28 = true then (slices_DeleteFunc.l0 k x0 x5 (wrap64 (x6 + 1))) else (if 0 ≤ x5 then (if x5 < (x0.length : Int) then (slices_DeleteFunc.l0 k (x0.set (x5 : Int).toNat (rd_T90 x0 x6)) (wrap64 (x5 + 1)) (wrap64 (x6 + 1))) else (none)) else (none)))) else (none)) else (if 0 ≤ x5 then (if x5 ≤ (x0.length : Int) then (some ((x0.take (x5 : Int).toNat ++ List.replicate (x0.length - (x5 : Int).toNat) z90 ++ x0.drop x0.length).take (x5 : Int).toNat)) else (none)) else (none))
def slices_DeleteFunc.f (k : Nat) (o0 : List (S90)) : Option ((List (S90))) := (slices_IndexFunc.f k o0).bind fun t10 => (if t10 = (-1) then (some o0) else (slices_DeleteFunc.l0 k o0 t10 (wrap64 (t10 + 1))))
/-- Bands by their pages, tops and ends. -/
def bandLt (x y : S90) : Bool := decide (x.f0 < y.f0 ∨ x.f0 = y.f0 ∧ (x.f1 < y.f1 ∨ x.f1 = y.f1 ∧ x.f2 < y.f2))
def bandSort (l : List (S90)) : List (S90) := l.mergeSort (fun x y => !bandLt y x)
def paint_Join.l0 : Nat → List (S90) → List (S90) → Int → Int → Option ((List (S90)))
  | 0, _, _, _, _ => none
  | k + 1, x3, x4, x14, x15 => if x15 < x14 then (if 0 ≤ x15 then (if x15 < (x3.length : Int) then (if (wrap64 ((x4.length : Int) - 1)) ≥ 0 then (if (wrap64 ((x4.length : Int) - 1)) < (x4.length : Int) then (if ((rd_T90 x4 (wrap64 ((x4.length : Int) - 1))).f0) = ((rd_T90 x3 x15).f0) then (if ((rd_T90 x3 x15).f1) ≤ ((rd_T90 x4 (wrap64 ((x4.length : Int) - 1))).f2) then (paint_Join.l0 k x3 (x4.set ((wrap64 ((x4.length : Int) - 1)) : Int).toNat (⟨(rd_T90 x4 (wrap64 ((x4.length : Int) - 1))).f0, (rd_T90 x4 (wrap64 ((x4.length : Int) - 1))).f1, mx ((rd_T90 x4 (wrap64 ((x4.length : Int) - 1))).f2) ((rd_T90 x3 x15).f2)⟩ : S90)) x14 (wrap64 (x15 + 1))) else (if x4.length < 5864062014805 then (paint_Join.l0 k x3 (x4 ++ [(⟨(rd_T90 x3 x15).f0, (rd_T90 x3 x15).f1, (rd_T90 x3 x15).f2⟩ : S90)]) x14 (wrap64 (x15 + 1))) else (none))) else (if x4.length < 5864062014805 then (paint_Join.l0 k x3 (x4 ++ [(⟨(rd_T90 x3 x15).f0, (rd_T90 x3 x15).f1, (rd_T90 x3 x15).f2⟩ : S90)]) x14 (wrap64 (x15 + 1))) else (none))) else (none)) else (if x4.length < 5864062014805 then (paint_Join.l0 k x3 (x4 ++ [(⟨(rd_T90 x3 x15).f0, (rd_T90 x3 x15).f1, (rd_T90 x3 x15).f2⟩ : S90)]) x14 (wrap64 (x15 + 1))) else (none))) else (none)) else (none)) else (some x4)
def paint_Join.f (k : Nat) (l0 : List (S90)) : Option ((List (S90))) := (slices_Clone.f l0).bind fun t9 => ((slices_DeleteFunc.f k t9).bind fun t10 => (if t10.length < 4611686018427387904 then (paint_Join.l0 k (bandSort t10) ([] : List (S90)) ((bandSort t10).length : Int) 0) else (none)))
structure S49 where
  f0 : Int
  f1 : Int
def z49 : S49 := ⟨(0 : Int), (0 : Int)⟩
mutual
def paint_Clip.l0 : Nat → List (S90) → List (S90) → List (S90) → Int → Int → Option ((List (S90)))
  | 0, _, _, _, _, _ => none
  | k + 1, x1, x5, x12, x13, x14 => if x14 < x13 then (if 0 ≤ x14 then (if x14 < (x12.length : Int) then ((paint_Join.f k x1).bind fun t19 => (paint_Clip.l1 k x1 x5 x12 x13 x14 t19 (t19.length : Int) 0 ((rd_T90 x12 x14).f0) ((rd_T90 x12 x14).f1) ((rd_T90 x12 x14).f2))) else (none)) else (none)) else (some x5)
def paint_Clip.l1 : Nat → List (S90) → List (S90) → List (S90) → Int → Int → List (S90) → Int → Int → Int → Int → Int → Option ((List (S90)))
  | 0, _, _, _, _, _, _, _, _, _, _, _ => none
  | k + 1, x1, x5, x12, x13, x14, x19, x20, x21, x7000, x7001, x7002 => if x21 < x20 then (if 0 ≤ x21 then (if x21 < (x19.length : Int) then (if x7000 = ((rd_T90 x19 x21).f0) then (if (mx x7001 ((rd_T90 x19 x21).f1)) < (mn x7002 ((rd_T90 x19 x21).f2)) then (if x5.length < 5864062014805 then (paint_Clip.l1 k x1 (x5 ++ [(⟨x7000, mx x7001 ((rd_T90 x19 x21).f1), mn x7002 ((rd_T90 x19 x21).f2)⟩ : S90)]) x12 x13 x14 x19 x20 (wrap64 (x21 + 1)) x7000 x7001 x7002) else (none)) else (paint_Clip.l1 k x1 x5 x12 x13 x14 x19 x20 (wrap64 (x21 + 1)) x7000 x7001 x7002)) else (paint_Clip.l1 k x1 x5 x12 x13 x14 x19 x20 (wrap64 (x21 + 1)) x7000 x7001 x7002)) else (none)) else (none)) else (paint_Clip.l0 k x1 x5 x12 x13 (wrap64 (x14 + 1)))
end
def paint_Clip.f (k : Nat) (l0 : List (S90)) (l1 : List (S90)) : Option ((List (S90))) := (paint_Join.f k l0).bind fun t12 => (paint_Clip.l0 k l1 ([] : List (S90)) t12 (t12.length : Int) 0)
def regletlaw21_PaintClips.f (k : Nat) (l0 : List (S90)) (l1 : List (S90)) (a2_0 : Int) (a2_1 : Int) : Option (Bool) := (regletlaw21_awake.f k).bind fun t8 => (if t8 = true then (if (l0.length : Int) > 100 then (some true) else (if (l1.length : Int) > 100 then (some true) else ((paint_Clip.f k l0 l1).bind fun t20 => ((regletlaw21_bands.f k t20).bind fun t21 => ((regletref21_Tidy.f k t21).bind fun t23 => (if t23 = true then ((regletref21_In.f k t21 a2_0 a2_1).bind fun t30 => ((regletlaw21_bands.f k l0).bind fun t32 => ((regletref21_In.f k t32 a2_0 a2_1).bind fun t37 => (if t37 = true then ((regletlaw21_bands.f k l1).bind fun t40 => ((regletref21_In.f k t40 a2_0 a2_1).bind fun t45 => (some (t30 == t45)))) else (some (t30 == false)))))) else (some false))))))) else (some false))
end Go.Proofs.Ytblmcdpfhdamjaa.PPaintClips
