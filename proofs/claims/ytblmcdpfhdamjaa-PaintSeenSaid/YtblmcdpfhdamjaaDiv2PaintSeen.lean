import Derived.Test.YtblmcdpfhdamjaaDivPaintSeen
/-! Our own text: a quotient of two words by one, and the program's parts of a number. -/
namespace Go.Proofs.Ytblmcdpfhdamjaa.PPaintSeen
set_option linter.unusedVariables false
open Go.RowKit Go.Proofs.YtblmcdpfhdamjaaW.PrintWords

def ltab : ByteArray := ⟨#[0, 1, 2, 2, 3, 3, 3, 3, 4, 4, 4, 4, 4, 4, 4, 4, 5, 5, 5, 5, 5, 5, 5, 5, 5, 5, 5, 5, 5, 5, 5, 5, 6, 6, 6, 6, 6, 6, 6, 6, 6, 6, 6, 6, 6, 6, 6, 6, 6, 6, 6, 6, 6, 6, 6, 6, 6, 6, 6, 6, 6, 6, 6, 6, 7, 7, 7, 7, 7, 7, 7, 7, 7, 7, 7, 7, 7, 7, 7, 7, 7, 7, 7, 7, 7, 7, 7, 7, 7, 7, 7, 7, 7, 7, 7, 7, 7, 7, 7, 7, 7, 7, 7, 7, 7, 7, 7, 7, 7, 7, 7, 7, 7, 7, 7, 7, 7, 7, 7, 7, 7, 7, 7, 7, 7, 7, 7, 7, 8, 8, 8, 8, 8, 8, 8, 8, 8, 8, 8, 8, 8, 8, 8, 8, 8, 8, 8, 8, 8, 8, 8, 8, 8, 8, 8, 8, 8, 8, 8, 8, 8, 8, 8, 8, 8, 8, 8, 8, 8, 8, 8, 8, 8, 8, 8, 8, 8, 8, 8, 8, 8, 8, 8, 8, 8, 8, 8, 8, 8, 8, 8, 8, 8, 8, 8, 8, 8, 8, 8, 8, 8, 8, 8, 8, 8, 8, 8, 8, 8, 8, 8, 8, 8, 8, 8, 8, 8, 8, 8, 8, 8, 8, 8, 8, 8, 8, 8, 8, 8, 8, 8, 8, 8, 8, 8, 8, 8, 8, 8, 8, 8, 8, 8, 8, 8, 8, 8, 8, 8, 8, 8, 8, 8, 8, 8, 8]⟩
theorem ltab_ok : ∀ b : Fin 256, 0 < b.val → 1 ≤ bt ltab b.val ∧ bt ltab b.val ≤ 8 ∧ 2 ^ ((bt ltab b.val).toNat - 1) ≤ b.val ∧ b.val < 2 ^ (bt ltab b.val).toNat := by decide +kernel
theorem tab_n {b : Nat} (h0 : 0 < b) (h1 : b < 256) : ∃ t : Nat, 1 ≤ t ∧ t ≤ 8 ∧ bt ltab (b : Int) = (t : Int) ∧ 2 ^ (t - 1) ≤ b ∧ b < 2 ^ t := by
  have h := ltab_ok ⟨b, h1⟩ h0
  simp only at h
  refine ⟨(bt ltab (b : Int)).toNat, by omega, by omega, by omega, h.2.2.1, h.2.2.2⟩
theorem shp {x m t : Nat} (ht : 1 ≤ t) (h1 : 2 ^ (t - 1) ≤ x / 2 ^ m) (h2 : x / 2 ^ m < 2 ^ t) : 2 ^ (t + m - 1) ≤ x ∧ x < 2 ^ (t + m) := by
  have e1 : 2 ^ (t + m - 1) = 2 ^ (t - 1) * 2 ^ m := by rw [← Nat.pow_add]; congr 1; omega
  have e2 : 2 ^ (t + m) = 2 ^ t * 2 ^ m := Nat.pow_add _ _ _
  have hp : 0 < 2 ^ m := Nat.pow_pos (by decide)
  rw [e1, e2]
  exact ⟨(Nat.le_div_iff_mul_le hp).1 h1, (Nat.div_lt_iff_lt_mul hp).1 h2⟩
set_option maxRecDepth 100000 in
theorem len_j0 {x c : Nat} (h0 : 0 < x) (h1 : x < 4294967296) (hc : c ≤ 32) : ∃ n : Nat, 1 ≤ n ∧ n ≤ 32 ∧ 2 ^ (n - 1) ≤ x ∧ x < 2 ^ n ∧ Ev (fun k => bits_Len64.j0 k (x : Int) (c : Int)) (((c + n : Nat) : Int)) := by
  have w1 : wrap64 ((c : Int) + 16) = (c : Int) + 16 := v64 (by omega) (by omega)
  have w2 : wrap64 ((c : Int) + 8) = (c : Int) + 8 := v64 (by omega) (by omega)
  have w3 : wrap64 ((c : Int) + 16 + 8) = (c : Int) + 24 := by rw [v64 (by omega) (by omega)]; omega
  have d1 : (x : Int) / 65536 = ((x / 65536 : Nat) : Int) := rfl
  have d2 : ((x / 65536 : Nat) : Int) / 256 = ((x / 65536 / 256 : Nat) : Int) := rfl
  have d3 : (x : Int) / 256 = ((x / 256 : Nat) : Int) := rfl
  have m1 : ((x / 65536 / 256 : Nat) : Int) % 256 = ((x / 65536 / 256 : Nat) : Int) := by omega
  have m2 : x / 65536 < 256 → ((x / 65536 : Nat) : Int) % 256 = ((x / 65536 : Nat) : Int) := fun _ => by omega
  have m3 : x / 256 < 256 → ((x / 256 : Nat) : Int) % 256 = ((x / 256 : Nat) : Int) := fun _ => by omega
  have m4 : x < 256 → (x : Int) % 256 = (x : Int) := fun _ => by omega
  by_cases c1 : 65536 ≤ x
  · by_cases c2 : 256 ≤ x / 65536
    · obtain ⟨t, t1, t2, t3, t4, t5⟩ := tab_n (b := x / 65536 / 256) (by omega) (by omega)
      have e : x / 65536 / 256 = x / 2 ^ 24 := by rw [Nat.div_div_eq_div_mul]
      obtain ⟨s1, s2⟩ := shp (m := 24) t1 (by rw [← e]; exact t4) (by rw [← e]; exact t5)
      refine ⟨t + 24, by omega, by omega, s1, s2, ?_⟩
      refine Ev.step (f := fun _ => some ((c + (t + 24) : Nat) : Int)) (fun k => ?_) (Ev.now _)
      rw [bits_Len64.j0, if_pos (by omega), d1, if_pos (by omega), d2, m1, if_pos (by omega), if_pos (by omega), w1, w3]
      show some (wrap64 (_ + wrap64 (bt ltab _))) = _
      rw [t3, v64 (x := (t : Int)) (by omega) (by omega), v64 (by omega) (by omega)]
      congr 1; omega
    · obtain ⟨t, t1, t2, t3, t4, t5⟩ := tab_n (b := x / 65536) (by omega) (by omega)
      obtain ⟨s1, s2⟩ := shp (x := x) (m := 16) t1 t4 t5
      refine ⟨t + 16, by omega, by omega, s1, s2, ?_⟩
      refine Ev.step (f := fun _ => some ((c + (t + 16) : Nat) : Int)) (fun k => ?_) (Ev.now _)
      rw [bits_Len64.j0, if_pos (by omega), d1, if_neg (by omega), m2 (by omega), if_pos (by omega), if_pos (by omega), w1]
      show some (wrap64 (_ + wrap64 (bt ltab _))) = _
      rw [t3, v64 (x := (t : Int)) (by omega) (by omega), v64 (by omega) (by omega)]
      congr 1; omega
  · by_cases c2 : 256 ≤ x
    · obtain ⟨t, t1, t2, t3, t4, t5⟩ := tab_n (b := x / 256) (by omega) (by omega)
      obtain ⟨s1, s2⟩ := shp (x := x) (m := 8) t1 t4 t5
      refine ⟨t + 8, by omega, by omega, s1, s2, ?_⟩
      refine Ev.step (f := fun _ => some ((c + (t + 8) : Nat) : Int)) (fun k => ?_) (Ev.now _)
      rw [bits_Len64.j0, if_neg (by omega), if_pos (by omega), d3, m3 (by omega), if_pos (by omega), if_pos (by omega), w2]
      show some (wrap64 (_ + wrap64 (bt ltab _))) = _
      rw [t3, v64 (x := (t : Int)) (by omega) (by omega), v64 (by omega) (by omega)]
      congr 1; omega
    · obtain ⟨t, t1, t2, t3, t4, t5⟩ := tab_n (b := x) h0 (by omega)
      refine ⟨t, by omega, by omega, t4, t5, ?_⟩
      refine Ev.step (f := fun _ => some ((c + t : Nat) : Int)) (fun k => ?_) (Ev.now _)
      rw [bits_Len64.j0, if_neg (by omega), if_neg (by omega), m4 (by omega), if_pos (by omega), if_pos (by omega)]
      show some (wrap64 (_ + wrap64 (bt ltab _))) = _
      rw [t3, v64 (x := (t : Int)) (by omega) (by omega), v64 (by omega) (by omega)]
      congr 1
theorem lz_ev {y : Nat} (h0 : 0 < y) (h1 : y < 18446744073709551616) : ∃ s : Nat, s ≤ 63 ∧ 9223372036854775808 ≤ y * 2 ^ s ∧ y * 2 ^ s < 18446744073709551616 ∧ Ev (fun k => bits_LeadingZeros64.f k (y : Int)) (s : Int) := by
  have key : ∃ n : Nat, 1 ≤ n ∧ n ≤ 64 ∧ 2 ^ (n - 1) ≤ y ∧ y < 2 ^ n ∧ Ev (fun k => bits_Len64.f k (y : Int)) (n : Int) := by
    by_cases c : 4294967296 ≤ y
    · obtain ⟨n, n1, n2, n3, n4, n5⟩ := len_j0 (x := y / 4294967296) (c := 32) (by omega) (by omega) (Nat.le_refl _)
      obtain ⟨s1, s2⟩ := shp (x := y) (m := 32) n1 n3 n4
      refine ⟨n + 32, by omega, by omega, s1, s2, ?_⟩
      rw [Nat.add_comm n 32]
      refine Ev.congr (fun k => ?_) n5
      unfold bits_Len64.f
      rw [if_pos (by omega)]
      rfl
    · obtain ⟨n, n1, n2, n3, n4, n5⟩ := len_j0 (x := y) (c := 0) h0 (by omega) (by omega)
      refine ⟨n, n1, by omega, n3, n4, ?_⟩
      rw [Nat.zero_add] at n5
      refine Ev.congr (fun k => ?_) n5
      unfold bits_Len64.f
      rw [if_neg (by omega)]
      rfl
  obtain ⟨n, n1, n2, n3, n4, n5⟩ := key
  have hp : 0 < 2 ^ (64 - n) := Nat.pow_pos (by decide)
  have e1 : 2 ^ (n - 1) * 2 ^ (64 - n) = 9223372036854775808 := by
    rw [← Nat.pow_add, show n - 1 + (64 - n) = 63 by omega]
  have e2 : 2 ^ n * 2 ^ (64 - n) = 18446744073709551616 := by
    rw [← Nat.pow_add, show n + (64 - n) = 64 by omega]
  refine ⟨64 - n, by omega, ?_, ?_, ?_⟩
  · rw [← e1]; exact Nat.mul_le_mul_right _ n3
  · rw [← e2]; exact Nat.mul_lt_mul_of_pos_right n4 hp
  · unfold bits_LeadingZeros64.f
    refine Ev.bind n5 ?_
    refine Ev.congr (fun k => ?_) (Ev.now _)
    rw [v64 (by omega) (by omega)]
    congr 1; omega
theorem shl_n {a s : Nat} (hs : s ≤ 64) : shl .u64 (a : Int) (s : Int) = ((a * 2 ^ s % 18446744073709551616 : Nat) : Int) := by
  unfold shl
  rw [Int.toNat_natCast, show IntKind.u64.bits = 64 from rfl, Nat.min_eq_left hs, u64_is]
  have : (a : Int) * 2 ^ s = ((a * 2 ^ s : Nat) : Int) := by rw [Int.natCast_mul, Int.natCast_pow]; rfl
  rw [this]; rfl
theorem shr_n {a s : Nat} (hs : s ≤ 64) : shr .u64 (a : Int) (s : Int) = ((a / 2 ^ s : Nat) : Int) := by
  unfold shr
  rw [Int.toNat_natCast, show IntKind.u64.bits = 64 from rfl, Nat.min_eq_left hs]
  have : ((a / 2 ^ s : Nat) : Int) = (a : Int) / ((2 ^ s : Nat) : Int) := rfl
  rw [this, show (2 : Int) ^ s = ((2 ^ s : Nat) : Int) from (Int.natCast_pow 2 s).symm, Int.fdiv_eq_ediv_of_nonneg _ (Int.natCast_nonneg _)]
theorem or_n {a b s : Nat} (h : b < 2 ^ s) (h1 : a * 2 ^ s < 18446744073709551616) (h2 : b < 18446744073709551616) : Go.bits .or .u64 ((a * 2 ^ s : Nat) : Int) (b : Int) = ((a * 2 ^ s + b : Nat) : Int) := by
  rw [u64_or_nat _ _ h1 h2]
  have := Nat.shiftLeft_add_eq_or_of_lt h a
  rw [Nat.shiftLeft_eq] at this
  rw [this]
theorem comb0 {u v1 v0 Y Q R v : Nat} (h1 : Y * Q + R = u * 4294967296 + v1) (h2 : 4294967296 * v1 + v0 = v) : u * 18446744073709551616 + v = (R * 4294967296 + v0) + Y * (Q * 4294967296) := by
  rw [← Nat.mul_assoc]
  generalize Y * Q = A at *
  omega
theorem comb_ {u v Y : Nat} (hY : 0 < Y) : (u * 18446744073709551616 + v) / Y = (u * 4294967296 + v / 4294967296) / Y * 4294967296 + ((u * 4294967296 + v / 4294967296) % Y * 4294967296 + v % 4294967296) / Y ∧ (u * 18446744073709551616 + v) % Y = ((u * 4294967296 + v / 4294967296) % Y * 4294967296 + v % 4294967296) % Y := by
  have e := comb0 (Nat.div_add_mod (u * 4294967296 + v / 4294967296) Y) (Nat.div_add_mod v 4294967296)
  rw [e]
  refine ⟨?_, Nat.add_mul_mod_self_left _ _ _⟩
  rw [Nat.add_mul_div_left _ _ hY, Nat.add_comm]
theorem div64_ev {hi lo y : Nat} (h : hi < y) (hy : y < 18446744073709551616) (hlo : lo < 18446744073709551616) :
    Ev (fun k => bits_Div64.f k (hi : Int) (lo : Int) (y : Int)) ((((hi * 18446744073709551616 + lo) / y : Nat) : Int), (((hi * 18446744073709551616 + lo) % y : Nat) : Int)) := by
  unfold bits_Div64.f
  by_cases c0 : hi = 0
  · subst c0
    have hq : lo / y ≤ lo := Nat.div_le_self _ _
    refine Ev.congr (fun k => ?_) (Ev.now _)
    rw [if_neg (by omega), if_neg (by omega), if_pos (show ((0 : Nat) : Int) = 0 from rfl), Nat.zero_mul, Nat.zero_add]
    have e1 : Int.tdiv (lo : Int) (y : Int) = ((lo / y : Nat) : Int) := by rw [Int.tdiv_eq_ediv_of_nonneg (by omega)]; rfl
    have e2 : Int.tmod (lo : Int) (y : Int) = ((lo % y : Nat) : Int) := by rw [Int.tmod_eq_emod_of_nonneg (by omega)]; rfl
    rw [e1, e2, wn (by omega)]
  obtain ⟨s, hs, hY1, hY2, hl⟩ := lz_ev (y := y) (by omega) hy
  refine Ev.congr (fun k => by rw [if_neg (by omega), if_neg (by omega), if_neg (by omega)]) (Ev.bind hl ?_)
  have es : IntKind.u64.wrap (s : Int) = (s : Int) := wn (by omega)
  have es2 : IntKind.u64.wrap (64 - (s : Int)) = ((64 - s : Nat) : Int) := by rw [u64_is]; omega
  have hsy : shl .u64 (y : Int) (s : Int) = ((y * 2 ^ s : Nat) : Int) := by rw [shl_n (by omega), Nat.mod_eq_of_lt hY2]
  have hp : 0 < 2 ^ s := Nat.pow_pos (by decide)
  have hhy : hi * 2 ^ s < y * 2 ^ s := Nat.mul_lt_mul_of_pos_right h hp
  have hsh : shl .u64 (hi : Int) (s : Int) = ((hi * 2 ^ s : Nat) : Int) := by rw [shl_n (by omega), Nat.mod_eq_of_lt (by omega)]
  have hsl : shl .u64 (lo : Int) (s : Int) = ((lo * 2 ^ s % 18446744073709551616 : Nat) : Int) := shl_n (by omega)
  have hrl : shr .u64 (lo : Int) ((64 - s : Nat) : Int) = ((lo / 2 ^ (64 - s) : Nat) : Int) := shr_n (by omega)
  have e64 : 2 ^ (64 - s) * 2 ^ s = 18446744073709551616 := by rw [← Nat.pow_add, show 64 - s + s = 64 by omega]
  have hq : lo / 2 ^ (64 - s) = lo * 2 ^ s / 18446744073709551616 := by
    rw [← e64, Nat.mul_div_mul_right _ _ hp]
  have hb : lo / 2 ^ (64 - s) < 2 ^ s := by
    rw [Nat.div_lt_iff_lt_mul (Nat.pow_pos (by decide)), Nat.mul_comm, e64]; exact hlo
  have hor := or_n (a := hi) (b := lo / 2 ^ (64 - s)) (s := s) hb (by omega) (by have := Nat.div_le_self lo (2 ^ (64 - s)); omega)
  have hsum : (hi * 18446744073709551616 + lo) * 2 ^ s = (hi * 2 ^ s + lo / 2 ^ (64 - s)) * 18446744073709551616 + lo * 2 ^ s % 18446744073709551616 := by
    rw [hq, Nat.add_mul, Nat.add_mul, Nat.mul_right_comm]
    have := Nat.div_add_mod (lo * 2 ^ s) 18446744073709551616
    omega
  have hu : hi * 2 ^ s + lo / 2 ^ (64 - s) < y * 2 ^ s := by
    have h1 : (hi * 18446744073709551616 + lo) * 2 ^ s < y * 18446744073709551616 * 2 ^ s := Nat.mul_lt_mul_of_pos_right (by omega) hp
    rw [hsum, Nat.mul_right_comm] at h1
    omega
  have hN : (hi * 18446744073709551616 + lo) / y = (hi * 18446744073709551616 + lo) * 2 ^ s / (y * 2 ^ s) := (Nat.mul_div_mul_right _ _ hp).symm
  have hM : (hi * 18446744073709551616 + lo) % y = (hi * 18446744073709551616 + lo) * 2 ^ s % (y * 2 ^ s) / 2 ^ s := by
    rw [Nat.mul_mod_mul_right, Nat.mul_div_cancel _ hp]
  rw [hN, hM, hsum]
  have hl64 : lo * 2 ^ s % 18446744073709551616 < 18446744073709551616 := Nat.mod_lt _ (by decide)
  refine Ev.congr (fun k => by rw [es, es2, hsy, hsh, hsl, hrl, hor, if_pos (Int.natCast_nonneg s), if_pos (Int.natCast_nonneg _), dn, dn, mk32 hY2, mk32 hl64]) ?_
  generalize hi * 2 ^ s + lo / 2 ^ (64 - s) = u at *
  generalize lo * 2 ^ s % 18446744073709551616 = v at *
  generalize hYe : y * 2 ^ s = Y at *
  clear hor hrl hsl hsh hsy hq hb hsum hN hM hhy e64
  have hn : 2147483648 ≤ Y / 4294967296 := by omega
  have hn2 : Y / 4294967296 < 4294967296 := by omega
  have td : ∀ a : Nat, a < 18446744073709551616 → IntKind.u64.wrap (Int.tdiv (a : Int) ((Y / 4294967296 : Nat) : Int)) = ((a / (Y / 4294967296) : Nat) : Int) := fun a ha => by
    have e1 : Int.tdiv (a : Int) ((Y / 4294967296 : Nat) : Int) = ((a / (Y / 4294967296) : Nat) : Int) := by rw [Int.tdiv_eq_ediv_of_nonneg (by omega)]; rfl
    have := Nat.div_le_self a (Y / 4294967296)
    rw [e1, wn (by omega)]
  have rd_ : ∀ a : Nat, a < 18446744073709551616 → IntKind.u64.wrap ((a : Int) - IntKind.u64.wrap (((a / (Y / 4294967296) : Nat) : Int) * ((Y / 4294967296 : Nat) : Int))) = ((a - a / (Y / 4294967296) * (Y / 4294967296) : Nat) : Int) := fun a ha => by
    have := Nat.div_mul_le_self a (Y / 4294967296)
    rw [pn, wn (by omega)]
    generalize a / (Y / 4294967296) * (Y / 4294967296) = P at *
    rw [u64_is]; omega
  refine Ev.congr (fun k => by rw [if_neg (by omega), td u (by omega), rd_ u (by omega)]) ?_
  have hd1 : v / 4294967296 < 4294967296 := by omega
  have hd0 : v % 4294967296 < 4294967296 := by omega
  refine dfirst_ev hY1 hY2 hu hd1 ?_
  have hq1 := dg_top (d := v / 4294967296) hu hd1
  have hr1 := Nat.mod_lt (u * 4294967296 + v / 4294967296) (show Y > 0 by omega)
  have hrest := rest_ hY1 hY2 hu hd1
  have hfin := comb_ (u := u) (v := v) (Y := Y) (by omega)
  have hr2 := Nat.lt_trans hr1 hY2
  rw [hfin.1, hfin.2]
  refine Ev.step (fun k => by rw [bits_Div64.j2, if_neg (by omega), hrest, td _ hr2, rd_ _ hr2]) ?_
  exact dlast_ev hs hY1 hY2 hr1 hd0 hq1 rfl
end Go.Proofs.Ytblmcdpfhdamjaa.PPaintSeen
