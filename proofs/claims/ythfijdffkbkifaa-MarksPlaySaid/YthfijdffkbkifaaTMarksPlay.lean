/- The table of types, and which values lie in which cells. -/
import Derived.Test.YthfijdffkbkifaaA2MarksPlay
import Derived.Test.YthfijdffkbkifaaProg
import Derived.Test.YthfijdffkbkifaaPMarksPlayx
import Derived.Laws.BitsLemmas
namespace Go.AL.X
set_option linter.unusedVariables false
set_option linter.unusedSimpArgs false
open Go.Proofs
def tb : Tab := [
  (3, ⟨.int .i64, 1, 8, [.int .i64 0]⟩),
  (4, ⟨.bool, 1, 1, [.bool false]⟩),
  (23, ⟨.ptr, 1, 8, [.nilp]⟩),
  (24, ⟨.int .i64, 1, 8, [.int .i64 0]⟩),
  (32, ⟨.slice 34, 1, 24, [.emp]⟩),
  (34, ⟨.struct [(0, 3), (1, 3), (2, 3), (3, 4)], 4, 32, [.int .i64 0, .int .i64 0, .int .i64 0, .bool false]⟩),
  (36, ⟨.slice 51, 1, 24, [.emp]⟩),
  (38, ⟨.struct [(0, 3), (1, 3), (2, 36)], 3, 40, [.int .i64 0, .int .i64 0, .emp]⟩),
  (41, ⟨.slice 46, 1, 24, [.emp]⟩),
  (46, ⟨.struct [(0, 3), (1, 3), (2, 4)], 3, 24, [.int .i64 0, .int .i64 0, .bool false]⟩),
  (51, ⟨.struct [(0, 3), (1, 3), (2, 4)], 3, 24, [.int .i64 0, .int .i64 0, .bool false]⟩),
  (61, ⟨.struct [(0, 3), (1, 3), (2, 41)], 3, 40, [.int .i64 0, .int .i64 0, .emp]⟩),
  (66, ⟨.fn, 1, 8, [.junk]⟩),
  (72, ⟨.ptr, 1, 8, [.nilp]⟩),
  (75, ⟨.fn, 1, 8, [.junk]⟩)]
theorem tb_ok : Tab.Ok Try.prog tb := Tab.ok_of (by decide +kernel)
open Go.Proofs Go.Proofs.Ythfijdffkbkifaa.PMarksPlay
set_option linter.unusedVariables false
noncomputable abbrev cfg (tk : List (Nat × Nat)) : Cfg := ⟨Try.prog, tb, true, fun _ => false, fun _ => false, tk, []⟩
noncomputable abbrev cfgL (tk : List (Nat × Nat)) : Cfg := ⟨Try.prog, tb, false, fun _ => false, fun _ => false, tk, []⟩
theorem mixed : Try.prog.follows .mixedOrders = true := by kernel_rfl
instance : Enc Int := ⟨fun n => [.int .i64 n], 0, 1, fun _ => rfl⟩
instance : Enc ByteArray := ⟨fun n => [.str n], ⟨#[]⟩, 1, fun _ => rfl⟩
instance {α : Type} [Enc α] : Enc (List α) := ⟨fun l => [.sl (l.map Enc.enc)], [], 1, fun _ => rfl⟩
@[reducible] def e46 (x : S46) : List AV := [.int .i64 x.f0, .int .i64 x.f1, .bool x.f2]
instance : Enc S46 := ⟨e46, z46, 3, fun _ => rfl⟩
def dec46 : List AV → S46 | [.int _ y0, .int _ y1, .bool y2] => ⟨y0, y1, y2⟩ | _ => z46
@[reducible] def e51 (x : S51) : List AV := [.int .i64 x.f0, .int .i64 x.f1, .bool x.f2]
instance : Enc S51 := ⟨e51, z51, 3, fun _ => rfl⟩
def dec51 : List AV → S51 | [.int _ y0, .int _ y1, .bool y2] => ⟨y0, y1, y2⟩ | _ => z51
@[reducible] def e34 (x : S34) : List AV := [.int .i64 x.f0, .int .i64 x.f1, .int .i64 x.f2, .bool x.f3]
instance : Enc S34 := ⟨e34, z34, 4, fun _ => rfl⟩
def dec34 : List AV → S34 | [.int _ y0, .int _ y1, .int _ y2, .bool y3] => ⟨y0, y1, y2, y3⟩ | _ => z34
def len8 : ByteArray := (⟨#[0, 1, 2, 2, 3, 3, 3, 3, 4, 4, 4, 4, 4, 4, 4, 4, 5, 5, 5, 5, 5, 5, 5, 5, 5, 5, 5, 5, 5, 5, 5, 5, 6, 6, 6, 6, 6, 6, 6, 6, 6, 6, 6, 6, 6, 6, 6, 6, 6, 6, 6, 6, 6, 6, 6, 6, 6, 6, 6, 6, 6, 6, 6, 6, 7, 7, 7, 7, 7, 7, 7, 7, 7, 7, 7, 7, 7, 7, 7, 7, 7, 7, 7, 7, 7, 7, 7, 7, 7, 7, 7, 7, 7, 7, 7, 7, 7, 7, 7, 7, 7, 7, 7, 7, 7, 7, 7, 7, 7, 7, 7, 7, 7, 7, 7, 7, 7, 7, 7, 7, 7, 7, 7, 7, 7, 7, 7, 7, 8, 8, 8, 8, 8, 8, 8, 8, 8, 8, 8, 8, 8, 8, 8, 8, 8, 8, 8, 8, 8, 8, 8, 8, 8, 8, 8, 8, 8, 8, 8, 8, 8, 8, 8, 8, 8, 8, 8, 8, 8, 8, 8, 8, 8, 8, 8, 8, 8, 8, 8, 8, 8, 8, 8, 8, 8, 8, 8, 8, 8, 8, 8, 8, 8, 8, 8, 8, 8, 8, 8, 8, 8, 8, 8, 8, 8, 8, 8, 8, 8, 8, 8, 8, 8, 8, 8, 8, 8, 8, 8, 8, 8, 8, 8, 8, 8, 8, 8, 8, 8, 8, 8, 8, 8, 8, 8, 8, 8, 8, 8, 8, 8, 8, 8, 8, 8, 8, 8, 8, 8, 8, 8, 8, 8, 8, 8, 8]⟩ : ByteArray)
theorem vB8 {P : Program} {Δ : Tab} {S : St} {t sz by_ : Nat} {z : List AV} {x i : Operand} {s : ByteArray} {n : Int} (hx : S.val x = some (.str s) := by exact rfl) (hi : S.val i = some (.int .u8 (IntKind.u8.wrap n)) := by exact rfl)
    (ht : lk Δ t = some ⟨.str, sz, by_, z⟩ := by exact rfl) (hs : s = len8 := by decide +kernel) : QV P Δ S (.index t x i) (.int .u8 (bt len8 (n % 256))) := by
  have hsz : len8.size = 256 := by decide +kernel
  have hw : IntKind.u8.wrap n = n % 256 := IntKind.wrap_u8 n
  subst hs
  rw [hw] at hi
  exact vB hx hi ht (by omega) (by rw [hsz]; omega)
def pv {α : Type} [Enc α] : List α → AV
  | [] => .nilp
  | t :: _ => .ptrF (Enc.enc t)
theorem rdc46 (a : S46) (l : List S46) : rd_T46 (a :: l) 0 = a := rfl
theorem rdc46' (a : S46) (l : List S46) : Go.AL.rd (a :: l) 0 = a := rfl
theorem pl46 (y : S46) : ∀ x ∈ (Enc.enc y : List AV), leaf0 x = true := by
  intro x hx
  have hx : x ∈ ([.int .i64 y.f0, .int .i64 y.f1, .bool y.f2] : List AV) := hx
  simp only [List.mem_cons, List.not_mem_nil, or_false] at hx
  rcases hx with rfl | rfl | rfl <;> rfl
theorem del_row {α : Type} (l : List α) (z : α) {i j : Nat} (h : i < j) (hj : j ≤ l.length) (X : List α) : (((l.take i ++ l.drop j ++ X).take (i + (l.length - j)) ++ List.replicate (l.length - (i + (l.length - j))) z ++ (l.take i ++ l.drop j ++ X).drop l.length).take (i + (l.length - j))) = l.take i ++ l.drop j := by
  have h1 : (l.take i ++ l.drop j).length = i + (l.length - j) := by simp; omega
  rw [List.append_assoc, List.take_append_of_le_length (by rw [List.length_take, List.length_append, h1]; omega), List.take_take, Nat.min_self, List.take_append_of_le_length (by omega), List.take_of_length_le (by omega)]
theorem rq_bt (s : ByteArray) (i : Int) : Go.Proofs.YthfijdffkbkifaaW.PrintWords.bt s i = Go.AL.bt s i := rfl
theorem rq_T46 (l : List S46) (i : Int) : rd_T46 l i = Go.AL.rd l i := rfl
theorem rq_T51 (l : List S51) (i : Int) : rd_T51 l i = Go.AL.rd l i := rfl
theorem rq_T34 (l : List S34) (i : Int) : rd_T34 l i = Go.AL.rd l i := rfl
set_option maxHeartbeats 1000000 in
theorem slices_Delete.does {o0 : List S46} {a1 a2 : Int} {r : List S46} (h : slices_Delete.f o0 a1 a2 = some r) (G : Objs) : DoesT Try.prog true 25 [.own 3 (o0.map Enc.enc), .int .i64 a1, .int .i64 a2] G (fun x _ => x = .own 3 (r.map Enc.enc)) := by
  unfold slices_Delete.f at h
  by_cases hc : 0 ≤ a1 ∧ a1 < a2 ∧ a2 ≤ (o0.length : Int)
  · rw [if_pos hc] at h
    obtain ⟨c0, c1, c2⟩ := hc
    have hr := Option.some.inj h
    clear h
    have hM : ((o0.map Enc.enc).take o0.length).drop a2.toNat = ((o0.drop a2.toNat).map Enc.enc : List (List AV)) := by
      rw [List.take_of_length_le (by simp), List.map_drop]
    have hL : (o0.map Enc.enc).take a1.toNat ++ ((o0.drop a2.toNat).map Enc.enc : List (List AV)) ++ (o0.map Enc.enc).drop (a1.toNat + ((o0.drop a2.toNat).map Enc.enc : List (List AV)).length) = (o0.take a1.toNat ++ o0.drop a2.toNat ++ o0.drop (a1.toNat + (o0.length - a2.toNat))).map Enc.enc := by
      simp [List.map_take, List.map_drop]
    have hH : a1.toNat + ((o0.drop a2.toNat).map Enc.enc : List (List AV)).length = a1.toNat + (o0.length - a2.toNat) := by simp
    have hW : ∀ es ∈ ((o0.drop a2.toNat).map Enc.enc : List (List AV)), es.length = 3 := by
      intro es hes
      obtain ⟨y, _, rfl⟩ := List.mem_map.1 hes
      rfl
    have hF : ((o0.drop a2.toNat).map Enc.enc : List (List AV)).flatten.all AV.leaf = true := by
      rw [List.all_eq_true]
      intro x hx
      obtain ⟨es, he, hx⟩ := List.mem_flatten.1 hx
      obtain ⟨y, _, rfl⟩ := List.mem_map.1 he
      have := pl46 y x hx
      cases x <;> first | rfl | cases this
    have hlen : (o0.take a1.toNat ++ o0.drop a2.toNat ++ o0.drop (a1.toNat + (o0.length - a2.toNat))).length = o0.length := by simp; omega
    refine doesT_walk 3 (F := cfg [(5, 6)]) tb_ok mixed Try.func25 rfl (fun T hT => ?_)
    repeat' first
      | (show E3 _ _ _ _ _ _ _ _; first
        | refine oQ vLv ?_
        | refine oQ (vLs (hle := by simp only [List.length_map, hlen]; omega)) ?_
        | refine oS3 ?_
        | refine oSd (c0 := by omega) (c1 := by omega) (c2 := by simp only [List.length_map, hlen]; omega) ?_
        | refine oClr z46 (hlh := by omega) (hhl := by omega) ?_
        | refine oSh (hle := by simp [hlen]; omega) ?_
        | refine oW ?_
        | refine oWs ?_
        | refine n_reg [0, 1, 2, 6, 7, 8, 16] ?_)
      | (show E1 _ _ _ _ _ _ _; first
        | (show E1 _ _ _ (.region 5 _ _) _ _ _; refine rehome 0 8 ?_)
        | refine c_seq ?_
        | refine c_reg ?_
        | refine c_drwf ?_
        | refine c_drw ?_
        | refine c_ff ?_
        | refine c_df ?_
        | refine c_skip ?_
        | refine c_ret ?_)
      | (show E2 _ _ _ _ _ _ _; first
        | (refine n_endO hT ?_; subst hr; exact congrArg (fun z => AV.own 3 (List.map Enc.enc z)) (del_row o0 z46 (by omega) (by omega) _))
        | refine n_seq ?_)
      | (show E4 _ _ _ _ _ _ _; first
        | refine dQ vShv ?_
        | refine dQ vSlv ?_
        | refine dW ?_
        | refine dE ?_)
      | (show E5 _ _ _ _ _ _ _; first
        | refine tDs (hmm := hM) (hhi := hH) (a4 := hW) (a5 := hF) (a6 := by simp only [List.length_map, List.length_drop]; omega) (hl' := hL) ?_
        | refine tW ?_
        | refine n_drw [0, 1, 2, 6, 7, 8, 16] ?_)
  · rw [if_neg hc] at h; cases h
/-! Sorting: the library's contract laid at this program; what the comparing function answers. -/
section
open Go.Shelf Go.RowKit Go.Lib Go.Sort
noncomputable def sortLays_ren : Go.Shelf.Ren := ⟨fun | 6 => 27 | 15 => 39 | 14 => 38 | 28 => 48 | 29 => 49 | 20 => 40 | 21 => 41 | 22 => 42 | 23 => 43 | 24 => 44 | 25 => 45 | 26 => 46 | 27 => 47 | 46 => 50 | 47 => 51 | 48 => 52 | 49 => 53 | 50 => 54 | 57 => 55 | n => n, fun | 22 => 41 | 24 => 46 | 25 => 66 | 3 => 3 | 39 => 78 | 0 => 0 | 53 => 88 | 55 => 90 | 4 => 4 | 46 => 81 | 45 => 80 | 50 => 85 | 5 => 5 | 9 => 9 | 66 => 91 | 70 => 95 | 76 => 97 | 77 => 98 | n => n, fun | n => n⟩
theorem sortLays : Go.Proofs.SlLaysF0.n6 Try.prog sortLays_ren where
  mixed := by kernel_rfl
  f6 := ⟨"slices.SortFunc[[]reglet/marks.Mark,reglet/marks.Mark]", by decide, Try.func27.trans (congrArg some (by kernel_rfl))⟩
  f14 := ⟨"slices.pdqsortCmpFunc[reglet/marks.Mark]", by decide, Try.func38.trans (congrArg some (by kernel_rfl))⟩
  f15 := Try.func39.trans (congrArg some (by kernel_rfl))
  f20 := ⟨"slices.insertionSortCmpFunc[reglet/marks.Mark]", by decide, Try.func40.trans (congrArg some (by kernel_rfl))⟩
  f21 := ⟨"slices.heapSortCmpFunc[reglet/marks.Mark]", by decide, Try.func41.trans (congrArg some (by kernel_rfl))⟩
  f22 := ⟨"slices.breakPatternsCmpFunc[reglet/marks.Mark]", by decide, Try.func42.trans (congrArg some (by kernel_rfl))⟩
  f23 := ⟨"slices.choosePivotCmpFunc[reglet/marks.Mark]", by decide, Try.func43.trans (congrArg some (by kernel_rfl))⟩
  f24 := ⟨"slices.reverseRangeCmpFunc[reglet/marks.Mark]", by decide, Try.func44.trans (congrArg some (by kernel_rfl))⟩
  f25 := ⟨"slices.partialInsertionSortCmpFunc[reglet/marks.Mark]", by decide, Try.func45.trans (congrArg some (by kernel_rfl))⟩
  f26 := ⟨"slices.partitionEqualCmpFunc[reglet/marks.Mark]", by decide, Try.func46.trans (congrArg some (by kernel_rfl))⟩
  f27 := ⟨"slices.partitionCmpFunc[reglet/marks.Mark]", by decide, Try.func47.trans (congrArg some (by kernel_rfl))⟩
  f28 := Try.func48.trans (congrArg some (by kernel_rfl))
  f29 := Try.func49.trans (congrArg some (by kernel_rfl))
  f46 := ⟨"slices.siftDownCmpFunc[reglet/marks.Mark]", by decide, Try.func50.trans (congrArg some (by kernel_rfl))⟩
  f47 := Try.func51.trans (congrArg some (by kernel_rfl))
  f48 := Try.func52.trans (congrArg some (by kernel_rfl))
  f49 := ⟨"slices.medianAdjacentCmpFunc[reglet/marks.Mark]", by decide, Try.func53.trans (congrArg some (by kernel_rfl))⟩
  f50 := ⟨"slices.medianCmpFunc[reglet/marks.Mark]", by decide, Try.func54.trans (congrArg some (by kernel_rfl))⟩
  f57 := ⟨"slices.order2CmpFunc[reglet/marks.Mark]", by decide, Try.func55.trans (congrArg some (by kernel_rfl))⟩
  t0 := Try.underlying0
  a0 := Try.isAgg0
  z0 := Try.sizeOf0
  v0 := Try.zeroValue0
  t3 := Try.underlying3
  a3 := Try.isAgg3
  z3 := Try.sizeOf3
  v3 := Try.zeroValue3
  t4 := Try.underlying4
  a4 := Try.isAgg4
  z4 := Try.sizeOf4
  v4 := Try.zeroValue4
  t5 := Try.underlying5
  a5 := Try.isAgg5
  z5 := Try.sizeOf5
  v5 := Try.zeroValue5
  t9 := Try.underlying9
  a9 := Try.isAgg9
  z9 := Try.sizeOf9
  v9 := Try.zeroValue9
  t22 := Try.underlying41
  a22 := Try.isAgg41
  z22 := Try.sizeOf41
  v22 := Try.zeroValue41
  t25 := Try.underlying66
  a25 := Try.isAgg66
  z25 := Try.sizeOf66
  v25 := Try.zeroValue66
  t39 := Try.underlying78
  a39 := Try.isAgg78
  z39 := Try.sizeOf78
  v39 := Try.zeroValue78
  t45 := Try.underlying80
  a45 := Try.isAgg80
  z45 := Try.sizeOf80
  v45 := Try.zeroValue80
  t46 := Try.underlying81
  a46 := Try.isAgg81
  z46 := Try.sizeOf81
  v46 := Try.zeroValue81
  t50 := Try.underlying85
  a50 := Try.isAgg85
  z50 := Try.sizeOf85
  v50 := Try.zeroValue85
  t53 := Try.underlying88
  a53 := Try.isAgg88
  z53 := Try.sizeOf88
  v53 := Try.zeroValue88
  t55 := Try.underlying90
  a55 := Try.isAgg90
  z55 := Try.sizeOf90
  v55 := Try.zeroValue90
  t66 := Try.underlying91
  a66 := Try.isAgg91
  z66 := Try.sizeOf91
  v66 := Try.zeroValue91
  t70 := Try.underlying95
  a70 := Try.isAgg95
  z70 := Try.sizeOf95
  v70 := Try.zeroValue95
  t76 := Try.underlying97
  a76 := Try.isAgg97
  z76 := Try.sizeOf97
  v76 := Try.zeroValue97
  t77 := Try.underlying98
  a77 := Try.isAgg98
  z77 := Try.sizeOf98
  v77 := Try.zeroValue98
def markCmp (x y : S46) : Int := if x.f1 = y.f1 then x.f0 - y.f0 else x.f1 - y.f1
def markIn (x : S46) : Prop := 0 ≤ x.f0 ∧ x.f0 < 4611686018427387904 ∧ 0 ≤ x.f1 ∧ x.f1 < 4611686018427387904
theorem iw {z : Int} (h0 : -9223372036854775808 ≤ z) (h1 : z ≤ 9223372036854775807) : IntKind.i64.wrap z = z := by
  have e : IntKind.i64.wrap z = if z % 18446744073709551616 ≥ 9223372036854775808 then z % 18446744073709551616 - 18446744073709551616 else z % 18446744073709551616 := by simp [IntKind.wrap, IntKind.bits, IntKind.signed]
  rw [e]; split <;> omega
set_option maxHeartbeats 1000000 in
theorem markCmp_does (x y : S46) (hx : markIn x) (hy : markIn y) (W : World) : Calls Try.prog 28 #[.agg #[.int .i64 x.f0, .int .i64 x.f1, .bool x.f2], .agg #[.int .i64 y.f0, .int .i64 y.f1, .bool y.f2]] W fun e w' => e = .returned (.int .i64 (markCmp x y)) ∧ ∃ q os', w' = Go.Sort.grow (W.drewN q) os' := by
  obtain ⟨a, b, c⟩ := x
  obtain ⟨a', b', c'⟩ := y
  unfold markIn at hx hy
  simp only at hx hy
  unfold markCmp
  go_enter Try.func28, Try.ntmps28
  go_wp2
  all_goals (go_ret; refine ⟨?_, 0, _, by rw [alloc_eq_grow, alloc_eq_grow, grow_grow]; rfl⟩; refine congrArg (fun z => Ending.returned (.int .i64 z)) ?_)
  all_goals (repeat' split) <;> first | exact iw (by omega) (by omega) | (exfalso; simp_all; done) | (simp only [bne_eq_false_iff_eq, bne_iff_ne, ne_eq] at * <;> first | omega | (rw [iw (by omega) (by omega)]; omega) | (rw [iw (by omega) (by omega)]))
theorem cell_int {Fz : Nat → Prop} {D : Nat → Option Nat} {W : World} {k : IntKind} {n : Int} {v : Value} (h : Rv Fz D W (.int k n) v) : v = .int k n := by cases h; rfl
theorem cell_bool {Fz : Nat → Prop} {D : Nat → Option Nat} {W : World} {b : Bool} {v : Value} (h : Rv Fz D W (.bool b) v) : v = .bool b := by cases h; rfl
theorem mark_cells {Fz : Nat → Prop} {D : Nat → Option Nat} {W : World} {x : S46} {us : Array Value} (h : CellsR Fz D W (Enc.enc x) us) : us = #[.int .i64 x.f0, .int .i64 x.f1, .bool x.f2] := by
  have hs : us.size = 3 := h.1.symm
  have g := fun j (hj : j < us.size) (y : AV) (hy : (Enc.enc x)[j]? = some y) => h.2 j y us[j] hy (Array.getElem?_eq_getElem hj)
  apply Array.ext
  · rw [hs]; rfl
  · intro i h1 h2
    have hi : i < 3 := by rw [← hs]; exact h1
    match i, hi with
    | 0, _ => exact cell_int (g 0 h1 _ rfl)
    | 1, _ => exact cell_int (g 1 h1 _ rfl)
    | 2, _ => exact cell_bool (g 2 h1 _ rfl)
theorem markCmp_lt (x y : S46) : markCmp x y < 0 ↔ markLt x y = true := by
  unfold markCmp markLt
  simp only [decide_eq_true_eq]
  split <;> omega
theorem markSort_pw (m : List S46) : (markSort m).Pairwise (fun x y => (!markLt y x) = true) := by
  unfold markSort
  refine List.pairwise_mergeSort (le := fun x y => !markLt y x) (fun a b c h1 h2 => ?_) (fun a b => ?_) m
  · unfold markLt at *
    simp only [Bool.not_eq_true', decide_eq_false_iff_not] at *
    omega
  · unfold markLt
    by_cases h : b.f1 < a.f1 ∨ b.f1 = a.f1 ∧ b.f0 < a.f0
    · have : ¬ (a.f1 < b.f1 ∨ a.f1 = b.f1 ∧ a.f0 < b.f0) := by omega
      simp [this]
    · simp [h]
theorem markSort_ok {m : List S46} (h : marksOk m) : SortOk Try.prog 27 28 3 (m.map Enc.enc) ((markSort m).map Enc.enc) := by
  obtain ⟨hlen, hin, hone⟩ := h
  have lt := markCmp_lt
  have nlt : ∀ x y, ¬ markCmp x y < 0 ↔ markLt x y = false := fun x y => by rw [lt]; simp
  refine sortOk_of sortLays 3 markCmp (fun x => x ∈ m ∧ markIn x) rfl Try.isAgg46 Try.sizeOf46 rfl (by decide) (fun _ => rfl) (fun x _ => ?_) (fun x y z _ _ _ h1 h2 => ?_) (fun x y z _ _ _ h1 h2 => ?_) (fun x y hx hy h1 h2 => ?_)
    (enters_of Try.func28 (by kernel_rfl) rfl) (fun Fz D W x y us vs hx hy h1 h2 => ?_) m (markSort m) (fun x hx => ⟨hx, hin x hx⟩) hlen (List.mergeSort_perm _ _) ?_
  · rw [nlt]; unfold markLt; simp
  · rw [lt] at *; unfold markLt at *; simp only [decide_eq_true_eq] at *; omega
  · rw [nlt] at *; unfold markLt at *; simp only [decide_eq_false_iff_not] at *; omega
  · rw [nlt] at *; unfold markLt at *; simp only [decide_eq_false_iff_not] at *
    have he : x.f0 = y.f0 := by omega
    obtain ⟨i, hi, rfl⟩ := List.getElem_of_mem hx.1
    obtain ⟨j, hj, rfl⟩ := List.getElem_of_mem hy.1
    rw [List.pairwise_iff_getElem] at hone
    rcases Nat.lt_trichotomy i j with g | g | g
    · exact absurd he (hone i j hi hj g)
    · subst g; rfl
    · exact absurd he.symm (hone j i hj hi g)
  · rw [mark_cells h1, mark_cells h2]
    exact markCmp_does x y hx.2 hy.2 W
  · refine (markSort_pw m).imp (fun {x y} h => ?_)
    rw [nlt]; simpa using h
end
end Go.AL.X
