/- The table of types, and which values lie in which cells. -/
import Derived.Test.YtblmcdpfhdamjaaA2PaintEnough
import Derived.Test.YtblmcdpfhdamjaaProg
import Derived.Test.YtblmcdpfhdamjaaPPaintEnoughx
import Derived.Laws.BitsLemmas
namespace Go.AL.X
set_option linter.unusedVariables false
set_option linter.unusedSimpArgs false
open Go.Proofs
def tb : Tab := [
  (3, ⟨.int .i64, 1, 8, [.int .i64 0]⟩),
  (4, ⟨.bool, 1, 1, [.bool false]⟩),
  (5, ⟨.int .u8, 1, 1, [.int .u8 0]⟩),
  (9, ⟨.str, 1, 16, [.str ⟨#[]⟩]⟩),
  (21, ⟨.int .i32, 1, 4, [.int .i32 0]⟩),
  (22, ⟨.slice 87, 1, 24, [.emp]⟩),
  (23, ⟨.slice 89, 1, 24, [.emp]⟩),
  (25, ⟨.struct [(0, 9), (1, 23), (2, 3), (3, 3), (4, 3), (5, 4), (6, 3), (7, 4), (8, 4)], 9, 88, [.str ⟨#[]⟩, .emp, .int .i64 0, .int .i64 0, .int .i64 0, .bool false, .int .i64 0, .bool false, .bool false]⟩),
  (27, ⟨.ptr, 1, 8, [.nilp]⟩),
  (33, ⟨.slice 38, 1, 24, [.emp]⟩),
  (38, ⟨.struct [(0, 3), (1, 3), (2, 3), (3, 9), (4, 3)], 5, 48, [.int .i64 0, .int .i64 0, .int .i64 0, .str ⟨#[]⟩, .int .i64 0]⟩),
  (39, ⟨.slice 3, 1, 24, [.emp]⟩),
  (48, ⟨.struct [(0, 3), (1, 3), (2, 3)], 3, 24, [.int .i64 0, .int .i64 0, .int .i64 0]⟩),
  (50, ⟨.int .i64, 1, 8, [.int .i64 0]⟩),
  (52, ⟨.slice 56, 1, 24, [.emp]⟩),
  (56, ⟨.struct [(0, 3), (1, 3), (2, 3)], 3, 24, [.int .i64 0, .int .i64 0, .int .i64 0]⟩),
  (58, ⟨.slice 90, 1, 24, [.emp]⟩),
  (64, ⟨.slice 25, 1, 24, [.emp]⟩),
  (66, ⟨.struct [(0, 64)], 1, 24, [.emp]⟩),
  (71, ⟨.slice 66, 1, 24, [.emp]⟩),
  (74, ⟨.slice 113, 1, 24, [.emp]⟩),
  (85, ⟨.slice 134, 1, 24, [.emp]⟩),
  (87, ⟨.struct [(0, 3), (1, 3), (2, 3), (3, 3), (4, 3), (5, 3), (6, 85), (7, 4)], 8, 80, [.int .i64 0, .int .i64 0, .int .i64 0, .int .i64 0, .int .i64 0, .int .i64 0, .emp, .bool false]⟩),
  (89, ⟨.struct [(0, 3), (1, 3)], 2, 16, [.int .i64 0, .int .i64 0]⟩),
  (90, ⟨.struct [(0, 3), (1, 3), (2, 3)], 3, 24, [.int .i64 0, .int .i64 0, .int .i64 0]⟩),
  (97, ⟨.slice 99, 1, 24, [.emp]⟩),
  (99, ⟨.struct [(0, 3), (1, 3)], 2, 16, [.int .i64 0, .int .i64 0]⟩),
  (113, ⟨.struct [(0, 3), (1, 3), (2, 3), (3, 3), (4, 64)], 5, 56, [.int .i64 0, .int .i64 0, .int .i64 0, .int .i64 0, .emp]⟩),
  (124, ⟨.struct [(0, 22)], 1, 24, [.emp]⟩),
  (134, ⟨.struct [(0, 3), (1, 3), (2, 3)], 3, 24, [.int .i64 0, .int .i64 0, .int .i64 0]⟩),
  (140, ⟨.int .u64, 1, 8, [.int .u64 0]⟩),
  (162, ⟨.int .u64, 1, 8, [.int .u64 0]⟩)]
theorem tb_ok : Tab.Ok Try.prog tb := Tab.ok_of (by decide +kernel)
open Go.Proofs Go.Proofs.Ytblmcdpfhdamjaa.PPaintEnough
set_option linter.unusedVariables false
noncomputable abbrev cfg (tk : List (Nat × Nat)) : Cfg := ⟨Try.prog, tb, true, fun _ => false, fun _ => false, tk, []⟩
theorem mixed : Try.prog.follows .mixedOrders = true := by kernel_rfl
instance : Enc Int := ⟨fun n => [.int .i64 n], 0, 1, fun _ => rfl⟩
instance : Enc ByteArray := ⟨fun n => [.str n], ⟨#[]⟩, 1, fun _ => rfl⟩
instance {α : Type} [Enc α] : Enc (List α) := ⟨fun l => [.sl (l.map Enc.enc)], [], 1, fun _ => rfl⟩
@[reducible] def e134 (x : S134) : List AV := [.int .i64 x.f0, .int .i64 x.f1, .int .i64 x.f2]
instance : Enc S134 := ⟨e134, z134, 3, fun _ => rfl⟩
@[reducible] def e87 (x : S87) : List AV := [.int .i64 x.f0, .int .i64 x.f1, .int .i64 x.f2, .int .i64 x.f3, .int .i64 x.f4, .int .i64 x.f5, .sl (x.f6.map Enc.enc), .bool x.f7]
instance : Enc S87 := ⟨e87, z87, 8, fun _ => rfl⟩
@[reducible] def e124 (x : S124) : List AV := [.sl (x.f0.map Enc.enc)]
instance : Enc S124 := ⟨e124, z124, 1, fun _ => rfl⟩
@[reducible] def e89 (x : S89) : List AV := [.int .i64 x.f0, .int .i64 x.f1]
instance : Enc S89 := ⟨e89, z89, 2, fun _ => rfl⟩
@[reducible] def e99 (x : S99) : List AV := [.int .i64 x.f0, .int .i64 x.f1]
instance : Enc S99 := ⟨e99, z99, 2, fun _ => rfl⟩
@[reducible] def e38 (x : S38) : List AV := [.int .i64 x.f0, .int .i64 x.f1, .int .i64 x.f2, .str x.f3, .int .i64 x.f4]
instance : Enc S38 := ⟨e38, z38, 5, fun _ => rfl⟩
@[reducible] def e90 (x : S90) : List AV := [.int .i64 x.f0, .int .i64 x.f1, .int .i64 x.f2]
instance : Enc S90 := ⟨e90, z90, 3, fun _ => rfl⟩
@[reducible] def e56 (x : S56) : List AV := [.int .i64 x.f0, .int .i64 x.f1, .int .i64 x.f2]
instance : Enc S56 := ⟨e56, z56, 3, fun _ => rfl⟩
@[reducible] def e25 (x : S25) : List AV := [.str x.f0, .sl (x.f1.map Enc.enc), .int .i64 x.f2, .int .i64 x.f3, .int .i64 x.f4, .bool x.f5, .int .i64 x.f6, .bool x.f7, .bool x.f8]
instance : Enc S25 := ⟨e25, z25, 9, fun _ => rfl⟩
@[reducible] def e66 (x : S66) : List AV := [.sl (x.f0.map Enc.enc)]
instance : Enc S66 := ⟨e66, z66, 1, fun _ => rfl⟩
@[reducible] def e113 (x : S113) : List AV := [.int .i64 x.f0, .int .i64 x.f1, .int .i64 x.f2, .int .i64 x.f3, .sl (x.f4.map Enc.enc)]
instance : Enc S113 := ⟨e113, z113, 5, fun _ => rfl⟩
def len8 : ByteArray := (⟨#[0, 1, 2, 2, 3, 3, 3, 3, 4, 4, 4, 4, 4, 4, 4, 4, 5, 5, 5, 5, 5, 5, 5, 5, 5, 5, 5, 5, 5, 5, 5, 5, 6, 6, 6, 6, 6, 6, 6, 6, 6, 6, 6, 6, 6, 6, 6, 6, 6, 6, 6, 6, 6, 6, 6, 6, 6, 6, 6, 6, 6, 6, 6, 6, 7, 7, 7, 7, 7, 7, 7, 7, 7, 7, 7, 7, 7, 7, 7, 7, 7, 7, 7, 7, 7, 7, 7, 7, 7, 7, 7, 7, 7, 7, 7, 7, 7, 7, 7, 7, 7, 7, 7, 7, 7, 7, 7, 7, 7, 7, 7, 7, 7, 7, 7, 7, 7, 7, 7, 7, 7, 7, 7, 7, 7, 7, 7, 7, 8, 8, 8, 8, 8, 8, 8, 8, 8, 8, 8, 8, 8, 8, 8, 8, 8, 8, 8, 8, 8, 8, 8, 8, 8, 8, 8, 8, 8, 8, 8, 8, 8, 8, 8, 8, 8, 8, 8, 8, 8, 8, 8, 8, 8, 8, 8, 8, 8, 8, 8, 8, 8, 8, 8, 8, 8, 8, 8, 8, 8, 8, 8, 8, 8, 8, 8, 8, 8, 8, 8, 8, 8, 8, 8, 8, 8, 8, 8, 8, 8, 8, 8, 8, 8, 8, 8, 8, 8, 8, 8, 8, 8, 8, 8, 8, 8, 8, 8, 8, 8, 8, 8, 8, 8, 8, 8, 8, 8, 8, 8, 8, 8, 8, 8, 8, 8, 8, 8, 8, 8, 8, 8, 8, 8, 8, 8, 8]⟩ : ByteArray)
theorem vB8 {P : Program} {Δ : Tab} {S : St} {t sz by_ : Nat} {z : List AV} {x i : Operand} {s : ByteArray} {n : Int} (hx : S.val x = some (.str s) := by exact rfl) (hi : S.val i = some (.int .u8 (IntKind.u8.wrap n)) := by exact rfl)
    (ht : lk Δ t = some ⟨.str, sz, by_, z⟩ := by exact rfl) (hs : s = len8 := by decide +kernel) : QV P Δ S (.index t x i) (.int .u8 (bt len8 (n % 256))) := by
  have hsz : len8.size = 256 := by decide +kernel
  have hw : IntKind.u8.wrap n = n % 256 := IntKind.wrap_u8 n
  subst hs
  rw [hw] at hi
  exact vB hx hi ht (by omega) (by rw [hsz]; omega)
def pv {α : Type} [Enc α] : List α → AV
  | [] => .nilp
  | t :: _ => .ptrF (Enc.enc t)
theorem rdc124 (a : S124) (l : List S124) : rd_T124 (a :: l) 0 = a := rfl
theorem rdc124' (a : S124) (l : List S124) : Go.AL.rd (a :: l) 0 = a := rfl
def runes_size.m : Nat → ByteArray → Int → Int → Int → Int → Int → Option Int
  | 0, _, _, _, _, _, _ => none
  | k + 1, s, i, nd, lo, hi, n => if nd = 0 then some (wrap64 (n - i)) else if n ≥ (s.size : Int) then some 0 else (if 0 ≤ n then (if n < (s.size : Int) then (if Go.Proofs.YtblmcdpfhdamjaaW.PrintWords.bt s n < lo then some 0 else (if Go.Proofs.YtblmcdpfhdamjaaW.PrintWords.bt s n > hi then some 0 else runes_size.m k s i (wrap64 (nd - 1)) 128 191 (wrap64 (n + 1)))) else none) else none)
def runes_size.g (k : Nat) (s : ByteArray) (i : Int) : Option Int := if i < 0 then some 0 else if i ≥ (s.size : Int) then some 0 else (if 0 ≤ i then (if i < (s.size : Int) then
   (if Go.Proofs.YtblmcdpfhdamjaaW.PrintWords.bt s i < 128 then some 1 else (if Go.Proofs.YtblmcdpfhdamjaaW.PrintWords.bt s i < 194 then some 0 else (if Go.Proofs.YtblmcdpfhdamjaaW.PrintWords.bt s i > 244 then some 0 else (if Go.Proofs.YtblmcdpfhdamjaaW.PrintWords.bt s i < 224 then runes_size.m k s i 1 128 191 (wrap64 (i + 1)) else
     (if Go.Proofs.YtblmcdpfhdamjaaW.PrintWords.bt s i < 240 then (if Go.Proofs.YtblmcdpfhdamjaaW.PrintWords.bt s i = 224 then (if Go.Proofs.YtblmcdpfhdamjaaW.PrintWords.bt s i = 237 then runes_size.m k s i 2 160 159 (wrap64 (i + 1)) else runes_size.m k s i 2 160 191 (wrap64 (i + 1))) else (if Go.Proofs.YtblmcdpfhdamjaaW.PrintWords.bt s i = 237 then runes_size.m k s i 2 128 159 (wrap64 (i + 1)) else runes_size.m k s i 2 128 191 (wrap64 (i + 1))))
     else (if Go.Proofs.YtblmcdpfhdamjaaW.PrintWords.bt s i = 240 then (if Go.Proofs.YtblmcdpfhdamjaaW.PrintWords.bt s i = 244 then runes_size.m k s i 3 144 143 (wrap64 (i + 1)) else runes_size.m k s i 3 144 191 (wrap64 (i + 1))) else (if Go.Proofs.YtblmcdpfhdamjaaW.PrintWords.bt s i = 244 then runes_size.m k s i 3 128 143 (wrap64 (i + 1)) else runes_size.m k s i 3 128 191 (wrap64 (i + 1))))))))) else none) else none)
theorem rs_w {x : Int} (h0 : -9223372036854775808 ≤ x) (h1 : x ≤ 9223372036854775807) : wrap64 x = x := by rw [wrap64_def]; omega
theorem rs_m (s : ByteArray) (i : Int) (h0 : 0 ≤ i) (hi : i ≤ 4611686018427387904) : ∀ (d k : Nat) (n lo hi : Int), d < k → d ≤ 3 → 0 ≤ n → n + d ≤ 4611686018427387908 → runes_size.m k s i (d : Int) lo hi n = some (more_ s i d n lo hi)
  | 0, k + 1, n, lo, hi, _, _, hn, hn2 => by
    simp only [runes_size.m, more_]
    rw [if_pos (by simp), rs_w (by omega) (by omega)]
  | d + 1, k + 1, n, lo, hi, hk, hd, hn, hn2 => by
    simp only [runes_size.m, more_]
    rw [if_neg (by omega)]
    by_cases h1 : (s.size : Int) ≤ n
    · rw [if_pos h1, if_pos h1]
    rw [if_neg h1, if_neg h1, if_pos hn, if_pos (by omega)]
    by_cases h2 : Go.Proofs.YtblmcdpfhdamjaaW.PrintWords.bt s n < lo
    · rw [if_pos h2, if_pos h2]
    rw [if_neg h2, if_neg h2]
    by_cases h3 : hi < Go.Proofs.YtblmcdpfhdamjaaW.PrintWords.bt s n
    · rw [if_pos h3, if_pos h3]
    rw [if_neg h3, if_neg h3, rs_w (by omega) (by omega), rs_w (by omega) (by omega), show ((d + 1 : Nat) : Int) - 1 = (d : Int) from by omega]
    exact rs_m s i h0 (by omega) d k (n + 1) 128 191 (by omega) (by omega) (by omega) (by omega)
theorem rs_g (s : ByteArray) (i : Int) (hs : (s.size : Int) ≤ 4611686018427387904) : runes_size.g 5 s i = some (rsize_ s i) := by
  unfold runes_size.g rsize_
  by_cases h1 : i < 0
  · rw [if_pos h1, if_pos h1]
  rw [if_neg h1, if_neg h1]
  by_cases h2 : (s.size : Int) ≤ i
  · rw [if_pos h2, if_pos h2]
  rw [if_neg h2, if_neg h2, if_pos (by omega), if_pos (by omega), rs_w (x := i + 1) (by omega) (by omega)]
  unfold lead_
  have M := fun (d : Nat) (hd : d ≤ 3) lo hi => rs_m s i (by omega) (by omega) d 5 (i + 1) lo hi (by omega) hd (by omega) (by omega)
  have M1 := M 1 (by omega)
  have M2 := M 2 (by omega)
  have M3 := M 3 (by omega)
  simp only [Int.ofNat_one, Int.natCast_one, show ((2 : Nat) : Int) = 2 from rfl, show ((3 : Nat) : Int) = 3 from rfl] at M1 M2 M3
  generalize Go.Proofs.YtblmcdpfhdamjaaW.PrintWords.bt s i = c
  by_cases c1 : c < 128
  · rw [if_pos c1, if_pos c1]
  rw [if_neg c1, if_neg c1]
  by_cases c2 : c < 194
  · rw [if_pos c2, if_pos c2]
  rw [if_neg c2, if_neg c2]
  by_cases c3 : 244 < c
  · rw [if_pos c3, if_pos c3]
  rw [if_neg c3, if_neg c3]
  by_cases c4 : c < 224
  · rw [if_pos c4, if_pos c4, M1]
  rw [if_neg c4, if_neg c4]
  by_cases c5 : c < 240
  · rw [if_pos c5, if_pos c5]
    by_cases c6 : c = 224
    · rw [if_pos c6, if_pos c6, if_neg (by omega), M2]
    rw [if_neg c6, if_neg c6]
    by_cases c7 : c = 237
    · rw [if_pos c7, if_pos c7, M2]
    · rw [if_neg c7, if_neg c7, M2]
  rw [if_neg c5, if_neg c5]
  by_cases c6 : c = 240
  · rw [if_pos c6, if_pos c6, if_neg (by omega), M3]
  rw [if_neg c6, if_neg c6]
  by_cases c7 : c = 244
  · rw [if_pos c7, if_pos c7, M3]
  · rw [if_neg c7, if_neg c7, M3]
theorem rq_bt (s : ByteArray) (i : Int) : Go.Proofs.YtblmcdpfhdamjaaW.PrintWords.bt s i = Go.AL.bt s i := rfl
theorem rq_I (l : List Int) (i : Int) : Go.Proofs.YtblmcdpfhdamjaaW.PrintWords.rd l i = Go.AL.rd l i := rfl
theorem rq_T134 (l : List S134) (i : Int) : rd_T134 l i = Go.AL.rd l i := rfl
theorem rq_L2 (l : List (List S134)) (i : Int) : rd_L2 l i = Go.AL.rd l i := rfl
theorem rq_T87 (l : List S87) (i : Int) : rd_T87 l i = Go.AL.rd l i := rfl
theorem rq_L5 (l : List (List S87)) (i : Int) : rd_L5 l i = Go.AL.rd l i := rfl
theorem rq_T124 (l : List S124) (i : Int) : rd_T124 l i = Go.AL.rd l i := rfl
theorem rq_T89 (l : List S89) (i : Int) : rd_T89 l i = Go.AL.rd l i := rfl
theorem rq_T99 (l : List S99) (i : Int) : rd_T99 l i = Go.AL.rd l i := rfl
theorem rq_T38 (l : List S38) (i : Int) : rd_T38 l i = Go.AL.rd l i := rfl
theorem rq_T90 (l : List S90) (i : Int) : rd_T90 l i = Go.AL.rd l i := rfl
theorem rq_T56 (l : List S56) (i : Int) : rd_T56 l i = Go.AL.rd l i := rfl
theorem rq_L13 (l : List (List S89)) (i : Int) : rd_L13 l i = Go.AL.rd l i := rfl
theorem rq_T25 (l : List S25) (i : Int) : rd_T25 l i = Go.AL.rd l i := rfl
theorem rq_L15 (l : List (List S25)) (i : Int) : rd_L15 l i = Go.AL.rd l i := rfl
theorem rq_T66 (l : List S66) (i : Int) : rd_T66 l i = Go.AL.rd l i := rfl
theorem rq_T113 (l : List S113) (i : Int) : rd_T113 l i = Go.AL.rd l i := rfl
theorem rq_L18 (l : List (List S66)) (i : Int) : rd_L18 l i = Go.AL.rd l i := rfl
end Go.AL.X
