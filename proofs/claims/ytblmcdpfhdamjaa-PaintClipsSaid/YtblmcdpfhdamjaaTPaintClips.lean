/- The table of types, and which values lie in which cells. -/
import Derived.Test.YtblmcdpfhdamjaaA2PaintClips
import Derived.Test.YtblmcdpfhdamjaaProg
import Derived.Test.YtblmcdpfhdamjaaPPaintClipsx
import Derived.Laws.BitsLemmas
namespace Go.AL.X
set_option linter.unusedVariables false
set_option linter.unusedSimpArgs false
open Go.Proofs
def tb : Tab := [
  (3, ⟨.int .i64, 1, 8, [.int .i64 0]⟩),
  (4, ⟨.bool, 1, 1, [.bool false]⟩),
  (5, ⟨.int .u8, 1, 1, [.int .u8 0]⟩),
  (9, ⟨.str, 1, 16, [.str ⟨#[]⟩]⟩),
  (21, ⟨.int .i32, 1, 4, [.int .i32 0]⟩),
  (22, ⟨.slice 87, 1, 24, [.emp]⟩),
  (23, ⟨.slice 89, 1, 24, [.emp]⟩),
  (25, ⟨.struct [(0, 9), (1, 23), (2, 3), (3, 3), (4, 3), (5, 4), (6, 3), (7, 4), (8, 4)], 9, 88, [.str ⟨#[]⟩, .emp, .int .i64 0, .int .i64 0, .int .i64 0, .bool false, .int .i64 0, .bool false, .bool false]⟩),
  (27, ⟨.ptr, 1, 8, [.nilp]⟩),
  (33, ⟨.slice 38, 1, 24, [.emp]⟩),
  (38, ⟨.struct [(0, 3), (1, 3), (2, 3), (3, 9), (4, 3)], 5, 48, [.int .i64 0, .int .i64 0, .int .i64 0, .str ⟨#[]⟩, .int .i64 0]⟩),
  (39, ⟨.slice 3, 1, 24, [.emp]⟩),
  (48, ⟨.struct [(0, 3), (1, 3), (2, 3)], 3, 24, [.int .i64 0, .int .i64 0, .int .i64 0]⟩),
  (49, ⟨.arr 2 3, 2, 16, [.int .i64 0, .int .i64 0]⟩),
  (50, ⟨.int .i64, 1, 8, [.int .i64 0]⟩),
  (52, ⟨.slice 56, 1, 24, [.emp]⟩),
  (56, ⟨.struct [(0, 3), (1, 3), (2, 3)], 3, 24, [.int .i64 0, .int .i64 0, .int .i64 0]⟩),
  (58, ⟨.slice 90, 1, 24, [.emp]⟩),
  (85, ⟨.slice 134, 1, 24, [.emp]⟩),
  (87, ⟨.struct [(0, 3), (1, 3), (2, 3), (3, 3), (4, 3), (5, 3), (6, 85), (7, 4)], 8, 80, [.int .i64 0, .int .i64 0, .int .i64 0, .int .i64 0, .int .i64 0, .int .i64 0, .emp, .bool false]⟩),
  (89, ⟨.struct [(0, 3), (1, 3)], 2, 16, [.int .i64 0, .int .i64 0]⟩),
  (90, ⟨.struct [(0, 3), (1, 3), (2, 3)], 3, 24, [.int .i64 0, .int .i64 0, .int .i64 0]⟩),
  (97, ⟨.slice 99, 1, 24, [.emp]⟩),
  (99, ⟨.struct [(0, 3), (1, 3)], 2, 16, [.int .i64 0, .int .i64 0]⟩),
  (119, ⟨.fn, 1, 8, [.junk]⟩),
  (121, ⟨.fn, 1, 8, [.junk]⟩),
  (124, ⟨.struct [(0, 22)], 1, 24, [.emp]⟩),
  (134, ⟨.struct [(0, 3), (1, 3), (2, 3)], 3, 24, [.int .i64 0, .int .i64 0, .int .i64 0]⟩),
  (140, ⟨.int .u64, 1, 8, [.int .u64 0]⟩),
  (162, ⟨.int .u64, 1, 8, [.int .u64 0]⟩)]
theorem tb_ok : Tab.Ok Try.prog tb := Tab.ok_of (by decide +kernel)
open Go.Proofs Go.Proofs.Ytblmcdpfhdamjaa.PPaintClips
set_option linter.unusedVariables false
noncomputable abbrev cfg (tk : List (Nat × Nat)) : Cfg := ⟨Try.prog, tb, true, fun _ => false, fun _ => false, tk, []⟩
theorem mixed : Try.prog.follows .mixedOrders = true := by kernel_rfl
instance : Enc Int := ⟨fun n => [.int .i64 n], 0, 1, fun _ => rfl⟩
instance : Enc ByteArray := ⟨fun n => [.str n], ⟨#[]⟩, 1, fun _ => rfl⟩
instance {α : Type} [Enc α] : Enc (List α) := ⟨fun l => [.sl (l.map Enc.enc)], [], 1, fun _ => rfl⟩
@[reducible] def e134 (x : S134) : List AV := [.int .i64 x.f0, .int .i64 x.f1, .int .i64 x.f2]
instance : Enc S134 := ⟨e134, z134, 3, fun _ => rfl⟩
@[reducible] def e87 (x : S87) : List AV := [.int .i64 x.f0, .int .i64 x.f1, .int .i64 x.f2, .int .i64 x.f3, .int .i64 x.f4, .int .i64 x.f5, .sl (x.f6.map Enc.enc), .bool x.f7]
instance : Enc S87 := ⟨e87, z87, 8, fun _ => rfl⟩
@[reducible] def e124 (x : S124) : List AV := [.sl (x.f0.map Enc.enc)]
instance : Enc S124 := ⟨e124, z124, 1, fun _ => rfl⟩
@[reducible] def e89 (x : S89) : List AV := [.int .i64 x.f0, .int .i64 x.f1]
instance : Enc S89 := ⟨e89, z89, 2, fun _ => rfl⟩
@[reducible] def e99 (x : S99) : List AV := [.int .i64 x.f0, .int .i64 x.f1]
instance : Enc S99 := ⟨e99, z99, 2, fun _ => rfl⟩
@[reducible] def e38 (x : S38) : List AV := [.int .i64 x.f0, .int .i64 x.f1, .int .i64 x.f2, .str x.f3, .int .i64 x.f4]
instance : Enc S38 := ⟨e38, z38, 5, fun _ => rfl⟩
@[reducible] def e90 (x : S90) : List AV := [.int .i64 x.f0, .int .i64 x.f1, .int .i64 x.f2]
instance : Enc S90 := ⟨e90, z90, 3, fun _ => rfl⟩
@[reducible] def e56 (x : S56) : List AV := [.int .i64 x.f0, .int .i64 x.f1, .int .i64 x.f2]
instance : Enc S56 := ⟨e56, z56, 3, fun _ => rfl⟩
@[reducible] def e49 (x : S49) : List AV := [.int .i64 x.f0, .int .i64 x.f1]
instance : Enc S49 := ⟨e49, z49, 2, fun _ => rfl⟩
def len8 : ByteArray := (⟨#[0, 1, 2, 2, 3, 3, 3, 3, 4, 4, 4, 4, 4, 4, 4, 4, 5, 5, 5, 5, 5, 5, 5, 5, 5, 5, 5, 5, 5, 5, 5, 5, 6, 6, 6, 6, 6, 6, 6, 6, 6, 6, 6, 6, 6, 6, 6, 6, 6, 6, 6, 6, 6, 6, 6, 6, 6, 6, 6, 6, 6, 6, 6, 6, 7, 7, 7, 7, 7, 7, 7, 7, 7, 7, 7, 7, 7, 7, 7, 7, 7, 7, 7, 7, 7, 7, 7, 7, 7, 7, 7, 7, 7, 7, 7, 7, 7, 7, 7, 7, 7, 7, 7, 7, 7, 7, 7, 7, 7, 7, 7, 7, 7, 7, 7, 7, 7, 7, 7, 7, 7, 7, 7, 7, 7, 7, 7, 7, 8, 8, 8, 8, 8, 8, 8, 8, 8, 8, 8, 8, 8, 8, 8, 8, 8, 8, 8, 8, 8, 8, 8, 8, 8, 8, 8, 8, 8, 8, 8, 8, 8, 8, 8, 8, 8, 8, 8, 8, 8, 8, 8, 8, 8, 8, 8, 8, 8, 8, 8, 8, 8, 8, 8, 8, 8, 8, 8, 8, 8, 8, 8, 8, 8, 8, 8, 8, 8, 8, 8, 8, 8, 8, 8, 8, 8, 8, 8, 8, 8, 8, 8, 8, 8, 8, 8, 8, 8, 8, 8, 8, 8, 8, 8, 8, 8, 8, 8, 8, 8, 8, 8, 8, 8, 8, 8, 8, 8, 8, 8, 8, 8, 8, 8, 8, 8, 8, 8, 8, 8, 8, 8, 8, 8, 8, 8, 8]⟩ : ByteArray)
theorem vB8 {P : Program} {Δ : Tab} {S : St} {t sz by_ : Nat} {z : List AV} {x i : Operand} {s : ByteArray} {n : Int} (hx : S.val x = some (.str s) := by exact rfl) (hi : S.val i = some (.int .u8 (IntKind.u8.wrap n)) := by exact rfl)
    (ht : lk Δ t = some ⟨.str, sz, by_, z⟩ := by exact rfl) (hs : s = len8 := by decide +kernel) : QV P Δ S (.index t x i) (.int .u8 (bt len8 (n % 256))) := by
  have hsz : len8.size = 256 := by decide +kernel
  have hw : IntKind.u8.wrap n = n % 256 := IntKind.wrap_u8 n
  subst hs
  rw [hw] at hi
  exact vB hx hi ht (by omega) (by rw [hsz]; omega)
def pv {α : Type} [Enc α] : List α → AV
  | [] => .nilp
  | t :: _ => .ptrF (Enc.enc t)
theorem rdc124 (a : S124) (l : List S124) : rd_T124 (a :: l) 0 = a := rfl
theorem rdc124' (a : S124) (l : List S124) : Go.AL.rd (a :: l) 0 = a := rfl
def runes_size.m : Nat → ByteArray → Int → Int → Int → Int → Int → Option Int
  | 0, _, _, _, _, _, _ => none
  | k + 1, s, i, nd, lo, hi, n => if nd = 0 then some (wrap64 (n - i)) else if n ≥ (s.size : Int) then some 0 else (if 0 ≤ n then (if n < (s.size : Int) then (if Go.Proofs.YtblmcdpfhdamjaaW.PrintWords.bt s n < lo then some 0 else (if Go.Proofs.YtblmcdpfhdamjaaW.PrintWords.bt s n > hi then some 0 else runes_size.m k s i (wrap64 (nd - 1)) 128 191 (wrap64 (n + 1)))) else none) else none)
def runes_size.g (k : Nat) (s : ByteArray) (i : Int) : Option Int := if i < 0 then some 0 else if i ≥ (s.size : Int) then some 0 else (if 0 ≤ i then (if i < (s.size : Int) then
   (if Go.Proofs.YtblmcdpfhdamjaaW.PrintWords.bt s i < 128 then some 1 else (if Go.Proofs.YtblmcdpfhdamjaaW.PrintWords.bt s i < 194 then some 0 else (if Go.Proofs.YtblmcdpfhdamjaaW.PrintWords.bt s i > 244 then some 0 else (if Go.Proofs.YtblmcdpfhdamjaaW.PrintWords.bt s i < 224 then runes_size.m k s i 1 128 191 (wrap64 (i + 1)) else
     (if Go.Proofs.YtblmcdpfhdamjaaW.PrintWords.bt s i < 240 then (if Go.Proofs.YtblmcdpfhdamjaaW.PrintWords.bt s i = 224 then (if Go.Proofs.YtblmcdpfhdamjaaW.PrintWords.bt s i = 237 then runes_size.m k s i 2 160 159 (wrap64 (i + 1)) else runes_size.m k s i 2 160 191 (wrap64 (i + 1))) else (if Go.Proofs.YtblmcdpfhdamjaaW.PrintWords.bt s i = 237 then runes_size.m k s i 2 128 159 (wrap64 (i + 1)) else runes_size.m k s i 2 128 191 (wrap64 (i + 1))))
     else (if Go.Proofs.YtblmcdpfhdamjaaW.PrintWords.bt s i = 240 then (if Go.Proofs.YtblmcdpfhdamjaaW.PrintWords.bt s i = 244 then runes_size.m k s i 3 144 143 (wrap64 (i + 1)) else runes_size.m k s i 3 144 191 (wrap64 (i + 1))) else (if Go.Proofs.YtblmcdpfhdamjaaW.PrintWords.bt s i = 244 then runes_size.m k s i 3 128 143 (wrap64 (i + 1)) else runes_size.m k s i 3 128 191 (wrap64 (i + 1))))))))) else none) else none)
theorem rs_w {x : Int} (h0 : -9223372036854775808 ≤ x) (h1 : x ≤ 9223372036854775807) : wrap64 x = x := by rw [wrap64_def]; omega
theorem rs_m (s : ByteArray) (i : Int) (h0 : 0 ≤ i) (hi : i ≤ 4611686018427387904) : ∀ (d k : Nat) (n lo hi : Int), d < k → d ≤ 3 → 0 ≤ n → n + d ≤ 4611686018427387908 → runes_size.m k s i (d : Int) lo hi n = some (more_ s i d n lo hi)
  | 0, k + 1, n, lo, hi, _, _, hn, hn2 => by
    simp only [runes_size.m, more_]
    rw [if_pos (by simp), rs_w (by omega) (by omega)]
  | d + 1, k + 1, n, lo, hi, hk, hd, hn, hn2 => by
    simp only [runes_size.m, more_]
    rw [if_neg (by omega)]
    by_cases h1 : (s.size : Int) ≤ n
    · rw [if_pos h1, if_pos h1]
    rw [if_neg h1, if_neg h1, if_pos hn, if_pos (by omega)]
    by_cases h2 : Go.Proofs.YtblmcdpfhdamjaaW.PrintWords.bt s n < lo
    · rw [if_pos h2, if_pos h2]
    rw [if_neg h2, if_neg h2]
    by_cases h3 : hi < Go.Proofs.YtblmcdpfhdamjaaW.PrintWords.bt s n
    · rw [if_pos h3, if_pos h3]
    rw [if_neg h3, if_neg h3, rs_w (by omega) (by omega), rs_w (by omega) (by omega), show ((d + 1 : Nat) : Int) - 1 = (d : Int) from by omega]
    exact rs_m s i h0 (by omega) d k (n + 1) 128 191 (by omega) (by omega) (by omega) (by omega)
theorem rs_g (s : ByteArray) (i : Int) (hs : (s.size : Int) ≤ 4611686018427387904) : runes_size.g 5 s i = some (rsize_ s i) := by
  unfold runes_size.g rsize_
  by_cases h1 : i < 0
  · rw [if_pos h1, if_pos h1]
  rw [if_neg h1, if_neg h1]
  by_cases h2 : (s.size : Int) ≤ i
  · rw [if_pos h2, if_pos h2]
  rw [if_neg h2, if_neg h2, if_pos (by omega), if_pos (by omega), rs_w (x := i + 1) (by omega) (by omega)]
  unfold lead_
  have M := fun (d : Nat) (hd : d ≤ 3) lo hi => rs_m s i (by omega) (by omega) d 5 (i + 1) lo hi (by omega) hd (by omega) (by omega)
  have M1 := M 1 (by omega)
  have M2 := M 2 (by omega)
  have M3 := M 3 (by omega)
  simp only [Int.ofNat_one, Int.natCast_one, show ((2 : Nat) : Int) = 2 from rfl, show ((3 : Nat) : Int) = 3 from rfl] at M1 M2 M3
  generalize Go.Proofs.YtblmcdpfhdamjaaW.PrintWords.bt s i = c
  by_cases c1 : c < 128
  · rw [if_pos c1, if_pos c1]
  rw [if_neg c1, if_neg c1]
  by_cases c2 : c < 194
  · rw [if_pos c2, if_pos c2]
  rw [if_neg c2, if_neg c2]
  by_cases c3 : 244 < c
  · rw [if_pos c3, if_pos c3]
  rw [if_neg c3, if_neg c3]
  by_cases c4 : c < 224
  · rw [if_pos c4, if_pos c4, M1]
  rw [if_neg c4, if_neg c4]
  by_cases c5 : c < 240
  · rw [if_pos c5, if_pos c5]
    by_cases c6 : c = 224
    · rw [if_pos c6, if_pos c6, if_neg (by omega), M2]
    rw [if_neg c6, if_neg c6]
    by_cases c7 : c = 237
    · rw [if_pos c7, if_pos c7, M2]
    · rw [if_neg c7, if_neg c7, M2]
  rw [if_neg c5, if_neg c5]
  by_cases c6 : c = 240
  · rw [if_pos c6, if_pos c6, if_neg (by omega), M3]
  rw [if_neg c6, if_neg c6]
  by_cases c7 : c = 244
  · rw [if_pos c7, if_pos c7, M3]
  · rw [if_neg c7, if_neg c7, M3]
/-! Sorting: the library's contract laid at this program; what the comparing function answers. -/
section
open Go.Shelf Go.RowKit Go.Lib Go.Sort
noncomputable def sortLays_ren : Go.Shelf.Ren := ⟨fun | 6 => 67 | 15 => 86 | 14 => 85 | 28 => 106 | 29 => 107 | 20 => 98 | 21 => 99 | 22 => 100 | 23 => 101 | 24 => 102 | 25 => 103 | 26 => 104 | 27 => 105 | 46 => 112 | 47 => 113 | 48 => 114 | 49 => 115 | 50 => 116 | 57 => 121 | n => n, fun | 22 => 58 | 24 => 90 | 25 => 121 | 3 => 3 | 39 => 140 | 0 => 0 | 53 => 160 | 55 => 162 | 4 => 4 | 46 => 154 | 45 => 153 | 50 => 53 | 5 => 5 | 9 => 9 | 66 => 166 | 70 => 170 | 76 => 177 | 77 => 91 | n => n, fun | n => n⟩
theorem sortLays : Go.Proofs.SlLaysF0.n6 Try.prog sortLays_ren where
  mixed := by kernel_rfl
  f6 := ⟨"slices.SortFunc[[]reglet/paint.Band,reglet/paint.Band]", by decide, Try.func67.trans (congrArg some (by kernel_rfl))⟩
  f14 := ⟨"slices.pdqsortCmpFunc[reglet/paint.Band]", by decide, Try.func85.trans (congrArg some (by kernel_rfl))⟩
  f15 := Try.func86.trans (congrArg some (by kernel_rfl))
  f20 := ⟨"slices.insertionSortCmpFunc[reglet/paint.Band]", by decide, Try.func98.trans (congrArg some (by kernel_rfl))⟩
  f21 := ⟨"slices.heapSortCmpFunc[reglet/paint.Band]", by decide, Try.func99.trans (congrArg some (by kernel_rfl))⟩
  f22 := ⟨"slices.breakPatternsCmpFunc[reglet/paint.Band]", by decide, Try.func100.trans (congrArg some (by kernel_rfl))⟩
  f23 := ⟨"slices.choosePivotCmpFunc[reglet/paint.Band]", by decide, Try.func101.trans (congrArg some (by kernel_rfl))⟩
  f24 := ⟨"slices.reverseRangeCmpFunc[reglet/paint.Band]", by decide, Try.func102.trans (congrArg some (by kernel_rfl))⟩
  f25 := ⟨"slices.partialInsertionSortCmpFunc[reglet/paint.Band]", by decide, Try.func103.trans (congrArg some (by kernel_rfl))⟩
  f26 := ⟨"slices.partitionEqualCmpFunc[reglet/paint.Band]", by decide, Try.func104.trans (congrArg some (by kernel_rfl))⟩
  f27 := ⟨"slices.partitionCmpFunc[reglet/paint.Band]", by decide, Try.func105.trans (congrArg some (by kernel_rfl))⟩
  f28 := Try.func106.trans (congrArg some (by kernel_rfl))
  f29 := Try.func107.trans (congrArg some (by kernel_rfl))
  f46 := ⟨"slices.siftDownCmpFunc[reglet/paint.Band]", by decide, Try.func112.trans (congrArg some (by kernel_rfl))⟩
  f47 := Try.func113.trans (congrArg some (by kernel_rfl))
  f48 := Try.func114.trans (congrArg some (by kernel_rfl))
  f49 := ⟨"slices.medianAdjacentCmpFunc[reglet/paint.Band]", by decide, Try.func115.trans (congrArg some (by kernel_rfl))⟩
  f50 := ⟨"slices.medianCmpFunc[reglet/paint.Band]", by decide, Try.func116.trans (congrArg some (by kernel_rfl))⟩
  f57 := ⟨"slices.order2CmpFunc[reglet/paint.Band]", by decide, Try.func121.trans (congrArg some (by kernel_rfl))⟩
  t0 := Try.underlying0
  a0 := Try.isAgg0
  z0 := Try.sizeOf0
  v0 := Try.zeroValue0
  t3 := Try.underlying3
  a3 := Try.isAgg3
  z3 := Try.sizeOf3
  v3 := Try.zeroValue3
  t4 := Try.underlying4
  a4 := Try.isAgg4
  z4 := Try.sizeOf4
  v4 := Try.zeroValue4
  t5 := Try.underlying5
  a5 := Try.isAgg5
  z5 := Try.sizeOf5
  v5 := Try.zeroValue5
  t9 := Try.underlying9
  a9 := Try.isAgg9
  z9 := Try.sizeOf9
  v9 := Try.zeroValue9
  t22 := Try.underlying58
  a22 := Try.isAgg58
  z22 := Try.sizeOf58
  v22 := Try.zeroValue58
  t25 := Try.underlying121
  a25 := Try.isAgg121
  z25 := Try.sizeOf121
  v25 := Try.zeroValue121
  t39 := Try.underlying140
  a39 := Try.isAgg140
  z39 := Try.sizeOf140
  v39 := Try.zeroValue140
  t45 := Try.underlying153
  a45 := Try.isAgg153
  z45 := Try.sizeOf153
  v45 := Try.zeroValue153
  t46 := Try.underlying154
  a46 := Try.isAgg154
  z46 := Try.sizeOf154
  v46 := Try.zeroValue154
  t50 := Try.underlying53
  a50 := Try.isAgg53
  z50 := Try.sizeOf53
  v50 := Try.zeroValue53
  t53 := Try.underlying160
  a53 := Try.isAgg160
  z53 := Try.sizeOf160
  v53 := Try.zeroValue160
  t55 := Try.underlying162
  a55 := Try.isAgg162
  z55 := Try.sizeOf162
  v55 := Try.zeroValue162
  t66 := Try.underlying166
  a66 := Try.isAgg166
  z66 := Try.sizeOf166
  v66 := Try.zeroValue166
  t70 := Try.underlying170
  a70 := Try.isAgg170
  z70 := Try.sizeOf170
  v70 := Try.zeroValue170
  t76 := Try.underlying177
  a76 := Try.isAgg177
  z76 := Try.sizeOf177
  v76 := Try.zeroValue177
  t77 := Try.underlying91
  a77 := Try.isAgg91
  z77 := Try.sizeOf91
  v77 := Try.zeroValue91
def bandCmp (x y : S90) : Int := if x.f0 < y.f0 ∨ x.f0 = y.f0 ∧ x.f1 < y.f1 then -1 else if x.f0 = y.f0 ∧ x.f1 = y.f1 ∧ x.f2 = y.f2 then 0 else if x.f0 = y.f0 ∧ x.f1 = y.f1 ∧ x.f2 < y.f2 then -1 else 1
theorem rq_bt (s : ByteArray) (i : Int) : Go.Proofs.YtblmcdpfhdamjaaW.PrintWords.bt s i = Go.AL.bt s i := rfl
theorem rq_I (l : List Int) (i : Int) : Go.Proofs.YtblmcdpfhdamjaaW.PrintWords.rd l i = Go.AL.rd l i := rfl
theorem rq_T134 (l : List S134) (i : Int) : rd_T134 l i = Go.AL.rd l i := rfl
theorem rq_L2 (l : List (List S134)) (i : Int) : rd_L2 l i = Go.AL.rd l i := rfl
theorem rq_T87 (l : List S87) (i : Int) : rd_T87 l i = Go.AL.rd l i := rfl
theorem rq_L5 (l : List (List S87)) (i : Int) : rd_L5 l i = Go.AL.rd l i := rfl
theorem rq_T124 (l : List S124) (i : Int) : rd_T124 l i = Go.AL.rd l i := rfl
theorem rq_T89 (l : List S89) (i : Int) : rd_T89 l i = Go.AL.rd l i := rfl
theorem rq_T99 (l : List S99) (i : Int) : rd_T99 l i = Go.AL.rd l i := rfl
theorem rq_T38 (l : List S38) (i : Int) : rd_T38 l i = Go.AL.rd l i := rfl
theorem rq_T90 (l : List S90) (i : Int) : rd_T90 l i = Go.AL.rd l i := rfl
theorem rq_T56 (l : List S56) (i : Int) : rd_T56 l i = Go.AL.rd l i := rfl
set_option maxHeartbeats 1000000 in
theorem bandCmp_does (x y : S90) (W : World) : Calls Try.prog 68 #[.agg #[.int .i64 x.f0, .int .i64 x.f1, .int .i64 x.f2], .agg #[.int .i64 y.f0, .int .i64 y.f1, .int .i64 y.f2]] W fun e w' => e = .returned (.int .i64 (bandCmp x y)) ∧ ∃ q os', w' = Go.Sort.grow (W.drewN q) os' := by
  obtain ⟨a, b, c⟩ := x
  obtain ⟨a', b', c'⟩ := y
  unfold bandCmp
  go_enter Try.func68, Try.ntmps68
  go_wp2
  all_goals (go_ret; refine ⟨?_, 0, _, by rw [alloc_eq_grow, alloc_eq_grow, grow_grow]; rfl⟩; refine congrArg (fun z => Ending.returned (.int .i64 z)) ?_; (repeat' split) <;> first | omega | (simp only [bne_eq_false_iff_eq, bne_iff_ne, ne_eq] at *; omega))
theorem bandCmp_lt (x y : S90) : bandCmp x y < 0 ↔ bandLt x y = true := by
  unfold bandCmp bandLt
  simp only [decide_eq_true_eq]
  (repeat' split) <;> omega
theorem bandLt_total (x y : S90) : (!bandLt y x) || (!bandLt x y) := by
  unfold bandLt
  by_cases h : x.f0 < y.f0 ∨ x.f0 = y.f0 ∧ (x.f1 < y.f1 ∨ x.f1 = y.f1 ∧ x.f2 < y.f2)
  · have : ¬ (y.f0 < x.f0 ∨ y.f0 = x.f0 ∧ (y.f1 < x.f1 ∨ y.f1 = x.f1 ∧ y.f2 < x.f2)) := by omega
    simp [this]
  · simp [h]
theorem bandSort_pw (m : List S90) : (bandSort m).Pairwise (fun x y => (!bandLt y x) = true) := by
  unfold bandSort
  refine List.pairwise_mergeSort (le := fun x y => !bandLt y x) (fun a b c h1 h2 => ?_) (fun a b => bandLt_total a b) m
  unfold bandLt at *
  simp only [Bool.not_eq_true', decide_eq_false_iff_not] at *
  omega
theorem cell_int {Fz : Nat → Prop} {D : Nat → Option Nat} {W : World} {k : IntKind} {n : Int} {v : Value} (h : Rv Fz D W (.int k n) v) : v = .int k n := by cases h; rfl
theorem band_cells {Fz : Nat → Prop} {D : Nat → Option Nat} {W : World} {x : S90} {us : Array Value} (h : CellsR Fz D W (Enc.enc x) us) : us = #[.int .i64 x.f0, .int .i64 x.f1, .int .i64 x.f2] := by
  have hs : us.size = 3 := h.1.symm
  have g := fun j (hj : j < us.size) (y : AV) (hy : (Enc.enc x)[j]? = some y) => h.2 j y us[j] hy (Array.getElem?_eq_getElem hj)
  apply Array.ext
  · rw [hs]; rfl
  · intro i h1 h2
    have hi : i < 3 := by rw [← hs]; exact h1
    match i, hi with
    | 0, _ => exact cell_int (g 0 h1 _ rfl)
    | 1, _ => exact cell_int (g 1 h1 _ rfl)
    | 2, _ => exact cell_int (g 2 h1 _ rfl)
theorem bandSort_ok {m : List S90} (hlen : m.length < 4611686018427387904) : SortOk Try.prog 67 68 3 (m.map Enc.enc) ((bandSort m).map Enc.enc) := by
  have lt := bandCmp_lt
  have nlt : ∀ x y, ¬ bandCmp x y < 0 ↔ bandLt x y = false := fun x y => by rw [lt]; simp
  refine sortOk_of sortLays 3 bandCmp (fun _ => True) rfl Try.isAgg90 Try.sizeOf90 rfl (by decide) (fun _ => rfl) (fun x _ => ?_) (fun x y z _ _ _ h1 h2 => ?_) (fun x y z _ _ _ h1 h2 => ?_) (fun x y _ _ h1 h2 => ?_)
    (enters_of Try.func68 (by kernel_rfl) rfl) (fun Fz D W x y us vs _ _ h1 h2 => ?_) m (bandSort m) (fun _ _ => trivial) hlen (List.mergeSort_perm _ _) ?_
  · rw [nlt]; unfold bandLt; simp
  · rw [lt] at *; unfold bandLt at *; simp only [decide_eq_true_eq] at *; omega
  · rw [nlt] at *; unfold bandLt at *; simp only [decide_eq_false_iff_not] at *; omega
  · rw [nlt] at *; unfold bandLt at *; simp only [decide_eq_false_iff_not] at *
    obtain ⟨a, b, c⟩ := x
    obtain ⟨a', b', c'⟩ := y
    simp only at h1 h2
    obtain ⟨rfl, rfl, rfl⟩ : a = a' ∧ b = b' ∧ c = c' := by omega
    rfl
  · rw [band_cells h1, band_cells h2]
    exact bandCmp_does x y W
  · refine (bandSort_pw m).imp (fun {x y} h => ?_)
    rw [nlt]; simpa using h
end
end Go.AL.X
