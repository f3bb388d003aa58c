/- The table of types, and which values lie in which cells. -/
import Derived.Test.YtiabffkfabmlpaaA2LocateHits
import Derived.Test.YtiabffkfabmlpaaProg
import Derived.Test.YtiabffkfabmlpaaPLocateHitsx
import Derived.Laws.BitsLemmas
namespace Go.AL.X
set_option linter.unusedVariables false
set_option linter.unusedSimpArgs false
open Go.Proofs
def tb : Tab := [
  (3, ⟨.int .i64, 1, 8, [.int .i64 0]⟩),
  (4, ⟨.bool, 1, 1, [.bool false]⟩),
  (5, ⟨.int .u8, 1, 1, [.int .u8 0]⟩),
  (9, ⟨.str, 1, 16, [.str ⟨#[]⟩]⟩),
  (21, ⟨.int .i32, 1, 4, [.int .i32 0]⟩),
  (22, ⟨.slice 28, 1, 24, [.emp]⟩),
  (24, ⟨.struct [(0, 22)], 1, 24, [.emp]⟩),
  (26, ⟨.slice 75, 1, 24, [.emp]⟩),
  (28, ⟨.struct [(0, 9), (1, 26), (2, 3), (3, 3), (4, 3), (5, 4), (6, 3), (7, 4), (8, 4)], 9, 88, [.str ⟨#[]⟩, .emp, .int .i64 0, .int .i64 0, .int .i64 0, .bool false, .int .i64 0, .bool false, .bool false]⟩),
  (32, ⟨.slice 73, 1, 24, [.emp]⟩),
  (33, ⟨.ptr, 1, 8, [.nilp]⟩),
  (36, ⟨.slice 43, 1, 24, [.emp]⟩),
  (38, ⟨.slice 44, 1, 24, [.emp]⟩),
  (43, ⟨.struct [(0, 3), (1, 3)], 2, 16, [.int .i64 0, .int .i64 0]⟩),
  (44, ⟨.struct [(0, 3), (1, 3)], 2, 16, [.int .i64 0, .int .i64 0]⟩),
  (46, ⟨.slice 24, 1, 24, [.emp]⟩),
  (49, ⟨.struct [(0, 3), (1, 3), (2, 3)], 3, 24, [.int .i64 0, .int .i64 0, .int .i64 0]⟩),
  (50, ⟨.int .i64, 1, 8, [.int .i64 0]⟩),
  (71, ⟨.slice 110, 1, 24, [.emp]⟩),
  (73, ⟨.struct [(0, 3), (1, 3), (2, 3), (3, 3), (4, 3), (5, 3), (6, 71), (7, 4)], 8, 80, [.int .i64 0, .int .i64 0, .int .i64 0, .int .i64 0, .int .i64 0, .int .i64 0, .emp, .bool false]⟩),
  (75, ⟨.struct [(0, 3), (1, 3)], 2, 16, [.int .i64 0, .int .i64 0]⟩),
  (87, ⟨.slice 3, 1, 24, [.emp]⟩),
  (98, ⟨.struct [(0, 32)], 1, 24, [.emp]⟩),
  (108, ⟨.slice 87, 1, 24, [.emp]⟩),
  (110, ⟨.struct [(0, 3), (1, 3), (2, 3)], 3, 24, [.int .i64 0, .int .i64 0, .int .i64 0]⟩),
  (119, ⟨.slice 3, 1, 24, [.emp]⟩),
  (122, ⟨.int .u64, 1, 8, [.int .u64 0]⟩),
  (130, ⟨.int .u64, 1, 8, [.int .u64 0]⟩)]
theorem tb_ok : Tab.Ok Try.prog tb := Tab.ok_of (by decide +kernel)
open Go.Proofs Go.Proofs.Ytiabffkfabmlpaa.PLocateHits
set_option linter.unusedVariables false
noncomputable abbrev cfg (tk : List (Nat × Nat)) : Cfg := ⟨Try.prog, tb, true, fun _ => false, fun _ => false, tk, []⟩
theorem mixed : Try.prog.follows .mixedOrders = true := by kernel_rfl
instance : Enc Int := ⟨fun n => [.int .i64 n], 0, 1, fun _ => rfl⟩
instance : Enc ByteArray := ⟨fun n => [.str n], ⟨#[]⟩, 1, fun _ => rfl⟩
instance {α : Type} [Enc α] : Enc (List α) := ⟨fun l => [.sl (l.map Enc.enc)], [], 1, fun _ => rfl⟩
@[reducible] def e110 (x : S110) : List AV := [.int .i64 x.f0, .int .i64 x.f1, .int .i64 x.f2]
instance : Enc S110 := ⟨e110, z110, 3, fun _ => rfl⟩
@[reducible] def e73 (x : S73) : List AV := [.int .i64 x.f0, .int .i64 x.f1, .int .i64 x.f2, .int .i64 x.f3, .int .i64 x.f4, .int .i64 x.f5, .sl (x.f6.map Enc.enc), .bool x.f7]
instance : Enc S73 := ⟨e73, z73, 8, fun _ => rfl⟩
@[reducible] def e98 (x : S98) : List AV := [.sl (x.f0.map Enc.enc)]
instance : Enc S98 := ⟨e98, z98, 1, fun _ => rfl⟩
@[reducible] def e75 (x : S75) : List AV := [.int .i64 x.f0, .int .i64 x.f1]
instance : Enc S75 := ⟨e75, z75, 2, fun _ => rfl⟩
@[reducible] def e43 (x : S43) : List AV := [.int .i64 x.f0, .int .i64 x.f1]
instance : Enc S43 := ⟨e43, z43, 2, fun _ => rfl⟩
@[reducible] def e28 (x : S28) : List AV := [.str x.f0, .sl (x.f1.map Enc.enc), .int .i64 x.f2, .int .i64 x.f3, .int .i64 x.f4, .bool x.f5, .int .i64 x.f6, .bool x.f7, .bool x.f8]
instance : Enc S28 := ⟨e28, z28, 9, fun _ => rfl⟩
@[reducible] def e24 (x : S24) : List AV := [.sl (x.f0.map Enc.enc)]
instance : Enc S24 := ⟨e24, z24, 1, fun _ => rfl⟩
@[reducible] def e44 (x : S44) : List AV := [.int .i64 x.f0, .int .i64 x.f1]
instance : Enc S44 := ⟨e44, z44, 2, fun _ => rfl⟩
@[reducible] def e49 (x : S49) : List AV := [.int .i64 x.f0, .int .i64 x.f1, .int .i64 x.f2]
instance : Enc S49 := ⟨e49, z49, 3, fun _ => rfl⟩
def len8 : ByteArray := (⟨#[0, 1, 2, 2, 3, 3, 3, 3, 4, 4, 4, 4, 4, 4, 4, 4, 5, 5, 5, 5, 5, 5, 5, 5, 5, 5, 5, 5, 5, 5, 5, 5, 6, 6, 6, 6, 6, 6, 6, 6, 6, 6, 6, 6, 6, 6, 6, 6, 6, 6, 6, 6, 6, 6, 6, 6, 6, 6, 6, 6, 6, 6, 6, 6, 7, 7, 7, 7, 7, 7, 7, 7, 7, 7, 7, 7, 7, 7, 7, 7, 7, 7, 7, 7, 7, 7, 7, 7, 7, 7, 7, 7, 7, 7, 7, 7, 7, 7, 7, 7, 7, 7, 7, 7, 7, 7, 7, 7, 7, 7, 7, 7, 7, 7, 7, 7, 7, 7, 7, 7, 7, 7, 7, 7, 7, 7, 7, 7, 8, 8, 8, 8, 8, 8, 8, 8, 8, 8, 8, 8, 8, 8, 8, 8, 8, 8, 8, 8, 8, 8, 8, 8, 8, 8, 8, 8, 8, 8, 8, 8, 8, 8, 8, 8, 8, 8, 8, 8, 8, 8, 8, 8, 8, 8, 8, 8, 8, 8, 8, 8, 8, 8, 8, 8, 8, 8, 8, 8, 8, 8, 8, 8, 8, 8, 8, 8, 8, 8, 8, 8, 8, 8, 8, 8, 8, 8, 8, 8, 8, 8, 8, 8, 8, 8, 8, 8, 8, 8, 8, 8, 8, 8, 8, 8, 8, 8, 8, 8, 8, 8, 8, 8, 8, 8, 8, 8, 8, 8, 8, 8, 8, 8, 8, 8, 8, 8, 8, 8, 8, 8, 8, 8, 8, 8, 8, 8]⟩ : ByteArray)
theorem vB8 {P : Program} {Δ : Tab} {S : St} {t sz by_ : Nat} {z : List AV} {x i : Operand} {s : ByteArray} {n : Int} (hx : S.val x = some (.str s) := by exact rfl) (hi : S.val i = some (.int .u8 (IntKind.u8.wrap n)) := by exact rfl)
    (ht : lk Δ t = some ⟨.str, sz, by_, z⟩ := by exact rfl) (hs : s = len8 := by decide +kernel) : QV P Δ S (.index t x i) (.int .u8 (bt len8 (n % 256))) := by
  have hsz : len8.size = 256 := by decide +kernel
  have hw : IntKind.u8.wrap n = n % 256 := IntKind.wrap_u8 n
  subst hs
  rw [hw] at hi
  exact vB hx hi ht (by omega) (by rw [hsz]; omega)
def pv {α : Type} [Enc α] : List α → AV
  | [] => .nilp
  | t :: _ => .ptrF (Enc.enc t)
theorem rdc98 (a : S98) (l : List S98) : rd_T98 (a :: l) 0 = a := rfl
theorem rdc98' (a : S98) (l : List S98) : Go.AL.rd (a :: l) 0 = a := rfl
def runes_size.m : Nat → ByteArray → Int → Int → Int → Int → Int → Option Int
  | 0, _, _, _, _, _, _ => none
  | k + 1, s, i, nd, lo, hi, n => if nd = 0 then some (wrap64 (n - i)) else if n ≥ (s.size : Int) then some 0 else (if 0 ≤ n then (if n < (s.size : Int) then (if Go.Proofs.YtiabffkfabmlpaaW.PrintWords.bt s n < lo then some 0 else (if Go.Proofs.YtiabffkfabmlpaaW.PrintWords.bt s n > hi then some 0 else runes_size.m k s i (wrap64 (nd - 1)) 128 191 (wrap64 (n + 1)))) else none) else none)
def runes_size.g (k : Nat) (s : ByteArray) (i : Int) : Option Int := if i < 0 then some 0 else if i ≥ (s.size : Int) then some 0 else (if 0 ≤ i then (if i < (s.size : Int) then
   (if Go.Proofs.YtiabffkfabmlpaaW.PrintWords.bt s i < 128 then some 1 else (if Go.Proofs.YtiabffkfabmlpaaW.PrintWords.bt s i < 194 then some 0 else (if Go.Proofs.YtiabffkfabmlpaaW.PrintWords.bt s i > 244 then some 0 else (if Go.Proofs.YtiabffkfabmlpaaW.PrintWords.bt s i < 224 then runes_size.m k s i 1 128 191 (wrap64 (i + 1)) else
     (if Go.Proofs.YtiabffkfabmlpaaW.PrintWords.bt s i < 240 then (if Go.Proofs.YtiabffkfabmlpaaW.PrintWords.bt s i = 224 then (if Go.Proofs.YtiabffkfabmlpaaW.PrintWords.bt s i = 237 then runes_size.m k s i 2 160 159 (wrap64 (i + 1)) else runes_size.m k s i 2 160 191 (wrap64 (i + 1))) else (if Go.Proofs.YtiabffkfabmlpaaW.PrintWords.bt s i = 237 then runes_size.m k s i 2 128 159 (wrap64 (i + 1)) else runes_size.m k s i 2 128 191 (wrap64 (i + 1))))
     else (if Go.Proofs.YtiabffkfabmlpaaW.PrintWords.bt s i = 240 then (if Go.Proofs.YtiabffkfabmlpaaW.PrintWords.bt s i = 244 then runes_size.m k s i 3 144 143 (wrap64 (i + 1)) else runes_size.m k s i 3 144 191 (wrap64 (i + 1))) else (if Go.Proofs.YtiabffkfabmlpaaW.PrintWords.bt s i = 244 then runes_size.m k s i 3 128 143 (wrap64 (i + 1)) else runes_size.m k s i 3 128 191 (wrap64 (i + 1))))))))) else none) else none)
theorem rs_w {x : Int} (h0 : -9223372036854775808 ≤ x) (h1 : x ≤ 9223372036854775807) : wrap64 x = x := by rw [wrap64_def]; omega
theorem rs_m (s : ByteArray) (i : Int) (h0 : 0 ≤ i) (hi : i ≤ 4611686018427387904) : ∀ (d k : Nat) (n lo hi : Int), d < k → d ≤ 3 → 0 ≤ n → n + d ≤ 4611686018427387908 → runes_size.m k s i (d : Int) lo hi n = some (more_ s i d n lo hi)
  | 0, k + 1, n, lo, hi, _, _, hn, hn2 => by
    simp only [runes_size.m, more_]
    rw [if_pos (by simp), rs_w (by omega) (by omega)]
  | d + 1, k + 1, n, lo, hi, hk, hd, hn, hn2 => by
    simp only [runes_size.m, more_]
    rw [if_neg (by omega)]
    by_cases h1 : (s.size : Int) ≤ n
    · rw [if_pos h1, if_pos h1]
    rw [if_neg h1, if_neg h1, if_pos hn, if_pos (by omega)]
    by_cases h2 : Go.Proofs.YtiabffkfabmlpaaW.PrintWords.bt s n < lo
    · rw [if_pos h2, if_pos h2]
    rw [if_neg h2, if_neg h2]
    by_cases h3 : hi < Go.Proofs.YtiabffkfabmlpaaW.PrintWords.bt s n
    · rw [if_pos h3, if_pos h3]
    rw [if_neg h3, if_neg h3, rs_w (by omega) (by omega), rs_w (by omega) (by omega), show ((d + 1 : Nat) : Int) - 1 = (d : Int) from by omega]
    exact rs_m s i h0 (by omega) d k (n + 1) 128 191 (by omega) (by omega) (by omega) (by omega)
theorem rs_g (s : ByteArray) (i : Int) (hs : (s.size : Int) ≤ 4611686018427387904) : runes_size.g 5 s i = some (rsize_ s i) := by
  unfold runes_size.g rsize_
  by_cases h1 : i < 0
  · rw [if_pos h1, if_pos h1]
  rw [if_neg h1, if_neg h1]
  by_cases h2 : (s.size : Int) ≤ i
  · rw [if_pos h2, if_pos h2]
  rw [if_neg h2, if_neg h2, if_pos (by omega), if_pos (by omega), rs_w (x := i + 1) (by omega) (by omega)]
  unfold lead_
  have M := fun (d : Nat) (hd : d ≤ 3) lo hi => rs_m s i (by omega) (by omega) d 5 (i + 1) lo hi (by omega) hd (by omega) (by omega)
  have M1 := M 1 (by omega)
  have M2 := M 2 (by omega)
  have M3 := M 3 (by omega)
  simp only [Int.ofNat_one, Int.natCast_one, show ((2 : Nat) : Int) = 2 from rfl, show ((3 : Nat) : Int) = 3 from rfl] at M1 M2 M3
  generalize Go.Proofs.YtiabffkfabmlpaaW.PrintWords.bt s i = c
  by_cases c1 : c < 128
  · rw [if_pos c1, if_pos c1]
  rw [if_neg c1, if_neg c1]
  by_cases c2 : c < 194
  · rw [if_pos c2, if_pos c2]
  rw [if_neg c2, if_neg c2]
  by_cases c3 : 244 < c
  · rw [if_pos c3, if_pos c3]
  rw [if_neg c3, if_neg c3]
  by_cases c4 : c < 224
  · rw [if_pos c4, if_pos c4, M1]
  rw [if_neg c4, if_neg c4]
  by_cases c5 : c < 240
  · rw [if_pos c5, if_pos c5]
    by_cases c6 : c = 224
    · rw [if_pos c6, if_pos c6, if_neg (by omega), M2]
    rw [if_neg c6, if_neg c6]
    by_cases c7 : c = 237
    · rw [if_pos c7, if_pos c7, M2]
    · rw [if_neg c7, if_neg c7, M2]
  rw [if_neg c5, if_neg c5]
  by_cases c6 : c = 240
  · rw [if_pos c6, if_pos c6, if_neg (by omega), M3]
  rw [if_neg c6, if_neg c6]
  by_cases c7 : c = 244
  · rw [if_pos c7, if_pos c7, M3]
  · rw [if_neg c7, if_neg c7, M3]
theorem rq_bt (s : ByteArray) (i : Int) : Go.Proofs.YtiabffkfabmlpaaW.PrintWords.bt s i = Go.AL.bt s i := rfl
theorem rq_I (l : List Int) (i : Int) : Go.Proofs.YtiabffkfabmlpaaW.PrintWords.rd l i = Go.AL.rd l i := rfl
theorem rq_T110 (l : List S110) (i : Int) : rd_T110 l i = Go.AL.rd l i := rfl
theorem rq_L2 (l : List (List S110)) (i : Int) : rd_L2 l i = Go.AL.rd l i := rfl
theorem rq_T73 (l : List S73) (i : Int) : rd_T73 l i = Go.AL.rd l i := rfl
theorem rq_L5 (l : List (List S73)) (i : Int) : rd_L5 l i = Go.AL.rd l i := rfl
theorem rq_T98 (l : List S98) (i : Int) : rd_T98 l i = Go.AL.rd l i := rfl
theorem rq_T75 (l : List S75) (i : Int) : rd_T75 l i = Go.AL.rd l i := rfl
theorem rq_T43 (l : List S43) (i : Int) : rd_T43 l i = Go.AL.rd l i := rfl
theorem rq_L10 (l : List (List S75)) (i : Int) : rd_L10 l i = Go.AL.rd l i := rfl
theorem rq_T28 (l : List S28) (i : Int) : rd_T28 l i = Go.AL.rd l i := rfl
theorem rq_L12 (l : List (List S28)) (i : Int) : rd_L12 l i = Go.AL.rd l i := rfl
theorem rq_T24 (l : List S24) (i : Int) : rd_T24 l i = Go.AL.rd l i := rfl
theorem rq_L14 (l : List (List Int)) (i : Int) : rd_L14 l i = Go.AL.rd l i := rfl
theorem rq_T44 (l : List S44) (i : Int) : rd_T44 l i = Go.AL.rd l i := rfl
theorem rq_L16 (l : List (List S24)) (i : Int) : rd_L16 l i = Go.AL.rd l i := rfl
theorem rq_T49 (l : List S49) (i : Int) : rd_T49 l i = Go.AL.rd l i := rfl
end Go.AL.X
