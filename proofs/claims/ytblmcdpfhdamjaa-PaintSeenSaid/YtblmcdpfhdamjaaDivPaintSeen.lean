import Derived.Test.YtblmcdpfhdamjaaStyPaintSeen
import Derived.Lib.Mul64
import Derived.Laws.BitsAllLaws
/-! Our own text: what the program's products and quotients of two words are. -/
namespace Go.Proofs.Ytblmcdpfhdamjaa.PPaintSeen
set_option linter.unusedVariables false
open Go.RowKit Go.Proofs.YtblmcdpfhdamjaaW.PrintWords

theorem u64_is (x : Int) : IntKind.u64.wrap x = x % 18446744073709551616 := by
  unfold IntKind.wrap
  simp [IntKind.signed, IntKind.bits]
theorem wn {a : Nat} (h : a < 18446744073709551616) : IntKind.u64.wrap (a : Int) = (a : Int) := by rw [u64_is]; omega
theorem dn (a : Nat) : (a : Int) / 4294967296 = ((a / 4294967296 : Nat) : Int) := rfl
theorem pn (a b : Nat) : (a : Int) * (b : Int) = ((a * b : Nat) : Int) := rfl
theorem an (a b : Nat) : (a : Int) + (b : Int) = ((a + b : Nat) : Int) := rfl
theorem mk32 {a : Nat} (h : a < 18446744073709551616) : Go.bits .and .u64 (a : Int) 4294967295 = ((a % 4294967296 : Nat) : Int) := by
  have h1 := u64_and_nat a 4294967295 h (by decide)
  have h2 : a &&& 4294967295 = a % 4294967296 := Nat.and_two_pow_sub_one_eq_mod a 32
  rw [h2] at h1
  exact h1
theorem mul64_f {x y : Nat} (hx : x < 18446744073709551616) (hy : y < 18446744073709551616) : bits_Mul64.f (x : Int) (y : Int) = some (((x * y / 18446744073709551616 : Nat) : Int), ((x * y % 18446744073709551616 : Nat) : Int)) := by
  obtain ⟨h1, h2, h3, h4⟩ := Go.Lib.mul64_hi x y hx hy
  have e0 : IntKind.u64.wrap ((x * y : Nat) : Int) = ((x * y % 18446744073709551616 : Nat) : Int) := by rw [u64_is]; rfl
  have ha := Go.Lib.half_mul_le (a := x / 4294967296) (b := y / 4294967296) (by omega) (by omega)
  have hb := Go.Lib.half_mul_le (a := x / 4294967296) (b := y % 4294967296) (by omega) (by omega)
  have hc := Go.Lib.half_mul_le (a := x % 4294967296) (b := y / 4294967296) (by omega) (by omega)
  unfold bits_Mul64.f
  rw [mk32 hx, mk32 hy, dn, dn]
  simp only [pn]
  rw [e0]
  generalize x * y / 18446744073709551616 = hi at *
  generalize x * y % 18446744073709551616 = lo at *
  generalize (x / 4294967296) * (y / 4294967296) = a at *
  generalize (x / 4294967296) * (y % 4294967296) = b at *
  generalize (x % 4294967296) * (y / 4294967296) = c at *
  generalize (x % 4294967296) * (y % 4294967296) = d at *
  rw [wn (a := a) (by omega), wn (a := b) (by omega), wn (a := c) (by omega), wn (a := d) h1, dn d, an b, wn h2, dn, mk32 h2, an _ c, wn h3, dn, an a, wn (a := a + (b + d / 4294967296) / 4294967296) (by omega), an, wn (by omega), h4]
/-! ### one digit of a quotient -/
structure Dg (Y u d q r : Nat) : Prop where
  hs : q * (Y / 4294967296) + r = u
  hr : r < 4294967296
  hq : q ≤ 4294967297
  hlo : (u * 4294967296 + d) / Y ≤ q
def badq (Y d q r : Nat) : Prop := 4294967296 ≤ q ∨ 4294967296 * r + d < q * (Y % 4294967296)
theorem qy (Y q : Nat) : q * Y = q * (Y / 4294967296) * 4294967296 + q * (Y % 4294967296) := by
  have h : Y = Y / 4294967296 * 4294967296 + Y % 4294967296 := by omega
  calc q * Y = q * (Y / 4294967296 * 4294967296 + Y % 4294967296) := by rw [← h]
    _ = _ := by rw [Nat.mul_add, Nat.mul_assoc]
theorem dg_top {Y u d : Nat} (hu : u < Y) (hd : d < 4294967296) : (u * 4294967296 + d) / Y < 4294967296 := by
  rw [Nat.div_lt_iff_lt_mul (by omega)]
  omega
theorem dg_start {Y u d : Nat} (hY : 9223372036854775808 ≤ Y) (hY2 : Y < 18446744073709551616) (hu : u < Y) (hd : d < 4294967296) : Dg Y u d (u / (Y / 4294967296)) (u - u / (Y / 4294967296) * (Y / 4294967296)) := by
  have hn : 2147483648 ≤ Y / 4294967296 := by omega
  have hn2 : Y / 4294967296 < 4294967296 := by omega
  have h0 : Y % 4294967296 < 4294967296 := by omega
  have hYe : Y = Y / 4294967296 * 4294967296 + Y % 4294967296 := by omega
  generalize hg : Y / 4294967296 = n at *
  have hm := Nat.div_mul_le_self u n
  have hmod : u - u / n * n = u % n := by
    have := Nat.div_add_mod u n
    rw [Nat.mul_comm] at this
    omega
  have hlt := Nat.mod_lt u (show n > 0 by omega)
  refine ⟨by rw [hg]; omega, by omega, ?_, ?_⟩
  · have : u / n < 4294967298 := by
      rw [Nat.div_lt_iff_lt_mul (by omega)]
      omega
    omega
  · rw [Nat.le_div_iff_mul_le (by omega)]
    have h1 := Nat.div_mul_le_self (u * 4294967296 + d) Y
    generalize (u * 4294967296 + d) / Y = Q at *
    have h2 := qy Y Q
    rw [hg] at h2
    generalize Q * n = A at *
    omega
theorem dg_good {Y u d q r : Nat} (hY : 9223372036854775808 ≤ Y) (h : Dg Y u d q r) (hb : ¬ badq Y d q r) : q = (u * 4294967296 + d) / Y := by
  refine Nat.le_antisymm ?_ h.hlo
  rw [Nat.le_div_iff_mul_le (by omega), qy]
  have h1 := h.hs
  have h2 : q * (Y % 4294967296) ≤ 4294967296 * r + d := Nat.not_lt.1 (fun x => hb (.inr x))
  generalize q * (Y / 4294967296) = A at *
  generalize q * (Y % 4294967296) = B at *
  omega
theorem dg_bad {Y u d q r : Nat} (hY : 9223372036854775808 ≤ Y) (hu : u < Y) (hd : d < 4294967296) (h : Dg Y u d q r) (hb : badq Y d q r) : 1 ≤ q ∧ (u * 4294967296 + d) / Y ≤ q - 1 := by
  have key : (u * 4294967296 + d) / Y < q := by
    unfold badq at hb
    rcases hb with h1 | h1
    · exact Nat.lt_of_lt_of_le (dg_top hu hd) h1
    · have h2 := h.hs
      have h3 := qy Y q
      rw [Nat.div_lt_iff_lt_mul (by omega), h3]
      clear h3
      revert h1 h2
      generalize q * (Y / 4294967296) = A
      generalize q * (Y % 4294967296) = B
      intro h1 h2
      omega
  generalize (u * 4294967296 + d) / Y = Q at *
  omega
theorem dg_next {Y u d q r : Nat} (hY : 9223372036854775808 ≤ Y) (hY2 : Y < 18446744073709551616) (hu : u < Y) (hd : d < 4294967296) (h : Dg Y u d q r) (hb : badq Y d q r) :
    (r + Y / 4294967296 < 4294967296 → Dg Y u d (q - 1) (r + Y / 4294967296)) ∧ (4294967296 ≤ r + Y / 4294967296 → q - 1 = (u * 4294967296 + d) / Y) := by
  obtain ⟨h1, h2⟩ := dg_bad hY hu hd h hb
  have hs := h.hs
  have hq := h.hq
  have e : q * (Y / 4294967296) = (q - 1) * (Y / 4294967296) + Y / 4294967296 := by
    have : q = (q - 1) + 1 := by omega
    calc q * (Y / 4294967296) = (q - 1 + 1) * (Y / 4294967296) := by rw [← this]
      _ = _ := by rw [Nat.add_mul, Nat.one_mul]
  refine ⟨fun g => ⟨by omega, g, by omega, h2⟩, fun g => Nat.le_antisymm ?_ h2⟩
  rw [Nat.le_div_iff_mul_le (by omega), qy]
  have h3 : (q - 1) * (Y % 4294967296) ≤ 4294967296 * 4294967295 := Nat.mul_le_mul (by omega) (by omega)
  generalize (q - 1) * (Y / 4294967296) = A at *
  generalize (q - 1) * (Y % 4294967296) = B at *
  omega
/-- What the two tests of a digit's round say. -/
theorem test_ {Y d q r : Nat} (hr : r < 4294967296) (hd : d < 4294967296) (hq : q < 4294967296) :
    decide (IntKind.u64.wrap ((q : Int) * ((Y % 4294967296 : Nat) : Int)) > IntKind.u64.wrap (IntKind.u64.wrap (4294967296 * (r : Int)) + (d : Int))) = decide (4294967296 * r + d < q * (Y % 4294967296)) := by
  have h1 : q * (Y % 4294967296) ≤ 4294967295 * 4294967295 := Nat.mul_le_mul (by omega) (by omega)
  have e : (4294967296 : Int) * (r : Int) = ((4294967296 * r : Nat) : Int) := rfl
  rw [pn, wn (by omega), e, wn (by omega), an, wn (by omega)]
  rw [decide_eq_decide]
  exact Int.ofNat_lt
theorem sub1 {q : Nat} (h1 : 1 ≤ q) (h2 : q < 18446744073709551616) : IntKind.u64.wrap ((q : Int) - 1) = ((q - 1 : Nat) : Int) := by rw [u64_is]; omega
theorem first_step {Y u d q r : Nat} {s un0 : Int} {R : Int × Int} (hY : 9223372036854775808 ≤ Y) (hY2 : Y < 18446744073709551616) (hu : u < Y) (hd : d < 4294967296) (h : Dg Y u d q r)
    (hc : Ev (fun k => bits_Div64.j2 k (Y : Int) s ((Y / 4294967296 : Nat) : Int) ((Y % 4294967296 : Nat) : Int) (u : Int) (d : Int) un0 (((u * 4294967296 + d) / Y : Nat) : Int)) R)
    (next : Dg Y u d (q - 1) (r + Y / 4294967296) → Ev (fun k => bits_Div64.l0 k (Y : Int) s ((Y / 4294967296 : Nat) : Int) ((Y % 4294967296 : Nat) : Int) (u : Int) (d : Int) un0 ((q - 1 : Nat) : Int) ((r + Y / 4294967296 : Nat) : Int)) R) :
    Ev (fun k => bits_Div64.l0 k (Y : Int) s ((Y / 4294967296 : Nat) : Int) ((Y % 4294967296 : Nat) : Int) (u : Int) (d : Int) un0 (q : Int) (r : Int)) R := by
  have hr := h.hr
  have hqb := h.hq
  have hw : IntKind.u64.wrap ((r : Int) + ((Y / 4294967296 : Nat) : Int)) = ((r + Y / 4294967296 : Nat) : Int) := by rw [an, wn (by omega)]
  have good : ¬ badq Y d q r → Ev (fun k => bits_Div64.j1 k (Y : Int) s ((Y / 4294967296 : Nat) : Int) ((Y % 4294967296 : Nat) : Int) (u : Int) (d : Int) un0 (q : Int) (r : Int) false) R := fun g => by
    have e := dg_good hY h g
    refine Ev.step (fun k => by rw [bits_Div64.j1, if_neg (by decide)]) ?_
    rw [e]; exact hc
  have bad : badq Y d q r → Ev (fun k => bits_Div64.j1 k (Y : Int) s ((Y / 4294967296 : Nat) : Int) ((Y % 4294967296 : Nat) : Int) (u : Int) (d : Int) un0 (q : Int) (r : Int) true) R := fun g => by
    obtain ⟨b1, b2⟩ := dg_bad hY hu hd h g
    obtain ⟨c1, c2⟩ := dg_next hY hY2 hu hd h g
    have hs := sub1 b1 (by omega)
    by_cases c : 4294967296 ≤ r + Y / 4294967296
    · refine Ev.step (fun k => by rw [bits_Div64.j1, if_pos rfl, hw, if_pos (by omega), hs]) ?_
      rw [c2 c]; exact hc
    · refine Ev.step (fun k => by rw [bits_Div64.j1, if_pos rfl, hw, if_neg (by omega), hs]) ?_
      exact next (c1 (by omega))
  by_cases c1 : 4294967296 ≤ q
  · exact Ev.step (fun k => by rw [bits_Div64.l0, if_pos (by omega)]) (bad (.inl c1))
  · by_cases c2 : 4294967296 * r + d < q * (Y % 4294967296)
    · refine Ev.step (fun k => ?_) (bad (.inr c2))
      rw [bits_Div64.l0, if_neg (by omega), test_ hr hd (by omega), decide_eq_true c2]
    · refine Ev.step (fun k => ?_) (good (fun x => x.elim c1 c2))
      rw [bits_Div64.l0, if_neg (by omega), test_ hr hd (by omega), decide_eq_false c2]
theorem dfirst_ev {Y u d : Nat} {s un0 : Int} {R : Int × Int} (hY : 9223372036854775808 ≤ Y) (hY2 : Y < 18446744073709551616) (hu : u < Y) (hd : d < 4294967296)
    (hc : Ev (fun k => bits_Div64.j2 k (Y : Int) s ((Y / 4294967296 : Nat) : Int) ((Y % 4294967296 : Nat) : Int) (u : Int) (d : Int) un0 (((u * 4294967296 + d) / Y : Nat) : Int)) R) :
    Ev (fun k => bits_Div64.l0 k (Y : Int) s ((Y / 4294967296 : Nat) : Int) ((Y % 4294967296 : Nat) : Int) (u : Int) (d : Int) un0 ((u / (Y / 4294967296) : Nat) : Int) ((u - u / (Y / 4294967296) * (Y / 4294967296) : Nat) : Int)) R := by
  have hn : 2147483648 ≤ Y / 4294967296 := by omega
  refine first_step hY hY2 hu hd (dg_start hY hY2 hu hd) hc (fun h1 => first_step hY hY2 hu hd h1 hc (fun h2 => ?_))
  have := h2.hr
  generalize u - u / (Y / 4294967296) * (Y / 4294967296) = r0 at *
  omega
/-- What is left behind a digit. -/
theorem rest_ {Y u d : Nat} (hY : 9223372036854775808 ≤ Y) (hY2 : Y < 18446744073709551616) (hu : u < Y) (hd : d < 4294967296) :
    IntKind.u64.wrap (IntKind.u64.wrap (IntKind.u64.wrap ((u : Int) * 4294967296) + (d : Int)) - IntKind.u64.wrap ((((u * 4294967296 + d) / Y : Nat) : Int) * (Y : Int))) = (((u * 4294967296 + d) % Y : Nat) : Int) := by
  have h1 := Nat.div_add_mod (u * 4294967296 + d) Y
  have h2 := Nat.mod_lt (u * 4294967296 + d) (show Y > 0 by omega)
  have e : (u : Int) * 4294967296 = ((u * 4294967296 : Nat) : Int) := rfl
  rw [Nat.mul_comm] at h1
  rw [pn, e]
  simp only [u64_is]
  generalize (u * 4294967296 + d) / Y * Y = P at *
  generalize (u * 4294967296 + d) % Y = R at *
  generalize u * 4294967296 = U at *
  omega
theorem last_step {Y u d q r : Nat} {s : Nat} {q1 : Nat} {R : Int × Int} (hs : s ≤ 63) (hY : 9223372036854775808 ≤ Y) (hY2 : Y < 18446744073709551616) (hu : u < Y) (hd : d < 4294967296) (hq1 : q1 < 4294967296)
    (hR : R = (((q1 * 4294967296 + (u * 4294967296 + d) / Y : Nat) : Int), (((u * 4294967296 + d) % Y / 2 ^ s : Nat) : Int))) (h : Dg Y u d q r)
    (next : Dg Y u d (q - 1) (r + Y / 4294967296) → Ev (fun k => bits_Div64.l1 k (Y : Int) (s : Int) ((Y / 4294967296 : Nat) : Int) ((Y % 4294967296 : Nat) : Int) (d : Int) (q1 : Int) ((r + Y / 4294967296 : Nat) : Int) (u : Int) ((q - 1 : Nat) : Int)) R) :
    Ev (fun k => bits_Div64.l1 k (Y : Int) (s : Int) ((Y / 4294967296 : Nat) : Int) ((Y % 4294967296 : Nat) : Int) (d : Int) (q1 : Int) (r : Int) (u : Int) (q : Int)) R := by
  have hr := h.hr
  have hqb := h.hq
  have htop := dg_top hu hd
  have hw : IntKind.u64.wrap ((r : Int) + ((Y / 4294967296 : Nat) : Int)) = ((r + Y / 4294967296 : Nat) : Int) := by rw [an, wn (by omega)]
  have out : ((IntKind.u64.wrap (IntKind.u64.wrap ((q1 : Int) * 4294967296) + (((u * 4294967296 + d) / Y : Nat) : Int))), shr .u64 (IntKind.u64.wrap (IntKind.u64.wrap (IntKind.u64.wrap ((u : Int) * 4294967296) + (d : Int)) - IntKind.u64.wrap ((((u * 4294967296 + d) / Y : Nat) : Int) * (Y : Int)))) (s : Int)) = R := by
    rw [rest_ hY hY2 hu hd, hR]
    have e : (q1 : Int) * 4294967296 = ((q1 * 4294967296 : Nat) : Int) := rfl
    have e2 : min s 64 = s := by omega
    rw [e, wn (by omega), an, wn (by omega)]
    refine Prod.ext rfl ?_
    show shr .u64 _ (s : Int) = _
    unfold shr
    rw [Int.toNat_natCast, show IntKind.u64.bits = 64 from rfl, e2, show (2 : Int) ^ s = ((2 ^ s : Nat) : Int) from (Int.natCast_pow 2 s).symm, Int.fdiv_eq_ediv_of_nonneg _ (Int.natCast_nonneg _)]
    rfl
  have good : ¬ badq Y d q r → Ev (fun k => bits_Div64.j4 k (Y : Int) (s : Int) ((Y / 4294967296 : Nat) : Int) ((Y % 4294967296 : Nat) : Int) (d : Int) (q1 : Int) (r : Int) (u : Int) (q : Int) false) R := fun g => by
    have e := dg_good hY h g
    refine Ev.step (f := fun _ => some R) (fun k => ?_) (Ev.now R)
    rw [bits_Div64.j4, if_neg (by decide), if_pos (Int.natCast_nonneg s), e, out]
  have bad : badq Y d q r → Ev (fun k => bits_Div64.j4 k (Y : Int) (s : Int) ((Y / 4294967296 : Nat) : Int) ((Y % 4294967296 : Nat) : Int) (d : Int) (q1 : Int) (r : Int) (u : Int) (q : Int) true) R := fun g => by
    obtain ⟨b1, b2⟩ := dg_bad hY hu hd h g
    obtain ⟨c1, c2⟩ := dg_next hY hY2 hu hd h g
    have hs1 := sub1 b1 (by omega)
    by_cases c : 4294967296 ≤ r + Y / 4294967296
    · refine Ev.step (f := fun _ => some R) (fun k => ?_) (Ev.now R)
      rw [bits_Div64.j4, if_pos rfl, hw, if_pos (by omega), if_pos (Int.natCast_nonneg s), hs1, c2 c, out]
    · refine Ev.step (fun k => by rw [bits_Div64.j4, if_pos rfl, hw, if_neg (by omega), hs1]) ?_
      exact next (c1 (by omega))
  by_cases c1 : 4294967296 ≤ q
  · exact Ev.step (fun k => by rw [bits_Div64.l1, if_pos (by omega)]) (bad (.inl c1))
  · by_cases c2 : 4294967296 * r + d < q * (Y % 4294967296)
    · refine Ev.step (fun k => ?_) (bad (.inr c2))
      rw [bits_Div64.l1, if_neg (by omega), test_ hr hd (by omega), decide_eq_true c2]
    · refine Ev.step (fun k => ?_) (good (fun x => x.elim c1 c2))
      rw [bits_Div64.l1, if_neg (by omega), test_ hr hd (by omega), decide_eq_false c2]
theorem dlast_ev {Y u d : Nat} {s : Nat} {q1 : Nat} {R : Int × Int} (hs : s ≤ 63) (hY : 9223372036854775808 ≤ Y) (hY2 : Y < 18446744073709551616) (hu : u < Y) (hd : d < 4294967296) (hq1 : q1 < 4294967296)
    (hR : R = (((q1 * 4294967296 + (u * 4294967296 + d) / Y : Nat) : Int), (((u * 4294967296 + d) % Y / 2 ^ s : Nat) : Int))) :
    Ev (fun k => bits_Div64.l1 k (Y : Int) (s : Int) ((Y / 4294967296 : Nat) : Int) ((Y % 4294967296 : Nat) : Int) (d : Int) (q1 : Int) ((u - u / (Y / 4294967296) * (Y / 4294967296) : Nat) : Int) (u : Int) ((u / (Y / 4294967296) : Nat) : Int)) R := by
  have hn : 2147483648 ≤ Y / 4294967296 := by omega
  refine last_step hs hY hY2 hu hd hq1 hR (dg_start hY hY2 hu hd) (fun h1 => last_step hs hY hY2 hu hd hq1 hR h1 (fun h2 => ?_))
  have := h2.hr
  generalize u - u / (Y / 4294967296) * (Y / 4294967296) = r0 at *
  omega
end Go.Proofs.Ytblmcdpfhdamjaa.PPaintSeen
