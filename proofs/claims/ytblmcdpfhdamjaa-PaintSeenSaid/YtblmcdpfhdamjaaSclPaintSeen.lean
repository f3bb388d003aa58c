import Derived.Test.YtblmcdpfhdamjaaDiv2PaintSeen
/-! Our own text: so many parts of a number, as the program reckons them. -/
namespace Go.Proofs.Ytblmcdpfhdamjaa.PPaintSeen
set_option linter.unusedVariables false
open Go.RowKit Go.Proofs.YtblmcdpfhdamjaaW.PrintWords

/-- part times num by den, rounded down, never beyond 2^60. -/
def top_ : Nat := 1152921504606846976
def sclP (P C : Nat) (neg : Bool) : Int := if neg = true then (if P % C = 0 then -((min (P / C) top_ : Nat) : Int) else -((min (P / C + 1) top_ : Nat) : Int)) else ((min (P / C) top_ : Nat) : Int)
def scl_ (part num den : Int) : Int := if den ≤ 0 then 0 else sclP (part.toNat * (cl_ num).natAbs) (cl_ den).toNat (decide (num < 0))
theorem size_f (a : Int) : scaled_size.f a = some (((cl_ a).natAbs : Nat) : Int) := by
  have h := cl_rng a
  unfold scaled_size.f scaled_Clamp.f
  rw [Option.bind_some]
  show (if cl_ a < 0 then some (IntKind.u64.wrap (wrap64 (-(cl_ a)))) else some (IntKind.u64.wrap (cl_ a))) = _
  generalize cl_ a = c at *
  by_cases hc : c < 0
  · rw [if_pos hc, v64 (by omega) (by omega), show -c = ((c.natAbs : Nat) : Int) by omega, wn (by omega)]
  · rw [if_neg hc]
    have : IntKind.u64.wrap c = c := by rw [u64_is]; omega
    rw [this]; congr 1; omega
theorem cl_abs (a : Int) : (cl_ a).natAbs ≤ top_ := by have := cl_rng a; unfold top_; omega
theorem signed_ev (b : Bool) {lo : Nat} (h : lo < 18446744073709551616) : Ev (fun k => scaled_signed.f k b 0 (lo : Int)) (if b = true then -((min lo top_ : Nat) : Int) else ((min lo top_ : Nat) : Int)) := by
  unfold scaled_signed.f top_
  refine Ev.congr (fun k => by rw [if_pos rfl]) ?_
  by_cases c : lo < 1152921504606846976
  · rw [Nat.min_eq_left (by omega)]
    refine Ev.step (fun k => ?_) (Ev.now _)
    rw [scaled_signed.j0, decide_eq_true (by omega), if_pos rfl]
    cases b with
    | true => rw [if_pos rfl, if_pos rfl, v64 (x := (lo : Int)) (by omega) (by omega), v64 (by omega) (by omega)]
    | false => rw [if_neg (by decide), if_neg (by decide), v64 (x := (lo : Int)) (by omega) (by omega)]
  · rw [Nat.min_eq_right (by omega)]
    refine Ev.step (fun k => ?_) (Ev.now _)
    rw [scaled_signed.j0, decide_eq_false (by omega), if_neg (by decide)]
    cases b with
    | true => rw [if_pos rfl, if_pos rfl, v64 (by omega) (by omega)]; rfl
    | false => rw [if_neg (by decide), if_neg (by decide)]; rfl
theorem signed1_ev (b : Bool) : Ev (fun k => scaled_signed.f k b 1 0) (if b = true then -((top_ : Nat) : Int) else ((top_ : Nat) : Int)) := by
  unfold scaled_signed.f top_
  refine Ev.congr (fun k => by rw [if_neg (by decide)]) ?_
  refine Ev.step (fun k => ?_) (Ev.now _)
  rw [scaled_signed.j0, if_neg (by decide)]
  cases b with
  | true => rw [if_pos rfl, if_pos rfl, v64 (by omega) (by omega)]; rfl
  | false => rw [if_neg (by decide), if_neg (by decide)]; rfl
theorem big_q {P C : Nat} (hC : 0 < C) (h : C ≤ P / 18446744073709551616) : top_ ≤ P / C := by
  rw [Nat.le_div_iff_mul_le hC]
  have h1 := Nat.div_add_mod P 18446744073709551616
  have h2 : top_ * C ≤ 18446744073709551616 * C := Nat.mul_le_mul_right _ (by decide)
  have h3 : 18446744073709551616 * C ≤ 18446744073709551616 * (P / 18446744073709551616) := Nat.mul_le_mul_left _ h
  exact Nat.le_trans h2 (Nat.le_trans h3 (Nat.mul_div_le _ _))
theorem sclP_big {P C : Nat} (h : top_ ≤ P / C) (b : Bool) : sclP P C b = if b = true then -((top_ : Nat) : Int) else ((top_ : Nat) : Int) := by
  unfold sclP
  rw [Nat.min_eq_right h, Nat.min_eq_right (Nat.le_succ_of_le h)]
  cases b with
  | true => rw [if_pos rfl, if_pos rfl]; split <;> rfl
  | false => rfl
theorem muldiv_ev {part num den : Int} (h0 : 0 ≤ part) (h1 : part ≤ 1048576) (hd : 0 < den) : Ev (fun k => scaled_MulDiv.f k part num den) (sclP (part.toNat * (cl_ num).natAbs) (cl_ den).toNat (decide (num < 0)), true) := by
  have hc : cl_ part = part := cl_id (by omega) (by omega)
  have hC := cl_rng den
  have hC1 : 1 ≤ cl_ den := by unfold cl_ mx mn; (repeat' split) <;> omega
  have hcc : cl_ (cl_ den) = cl_ den := cl_id (by omega) (by omega)
  have hB := cl_abs num
  have hpa : part.natAbs = part.toNat := by omega
  have hsz : (cl_ den).natAbs = (cl_ den).toNat := by omega
  unfold scaled_MulDiv.f
  have e1 : scaled_Clamp.f den = some (cl_ den) := rfl
  simp only [e1, size_f, Option.bind_some]
  rw [hc, hcc, hpa, hsz]
  have hA : part.toNat ≤ 1048576 := by omega
  generalize part.toNat = A at *
  generalize hBe : (cl_ num).natAbs = B at *
  have hn : ((decide (part < 0) != decide (num < 0)) != decide (cl_ den < 0)) = decide (num < 0) := by
    rw [decide_eq_false (show ¬ part < 0 by omega), decide_eq_false (show ¬ cl_ den < 0 by omega)]
    cases decide (num < 0) <;> rfl
  rw [hn]
  have hCn : (cl_ den).toNat ≤ 1152921504606846976 ∧ 1 ≤ (cl_ den).toNat := by omega
  have hne : ¬ cl_ den = 0 := by omega
  generalize (cl_ den).toNat = C at *
  have hB2 : B ≤ 1152921504606846976 := hB
  have hP : A * B ≤ 1048576 * 1152921504606846976 := Nat.mul_le_mul hA hB2
  rw [mul64_f (show A < 18446744073709551616 by omega) (show B < 18446744073709551616 by omega)]
  generalize hPe : A * B = P at *
  generalize hnb : decide (num < 0) = nb at *
  have hlo : P % 18446744073709551616 < 18446744073709551616 := Nat.mod_lt _ (by decide)
  have hhi : P / 18446744073709551616 < 18446744073709551616 := by omega
  simp only [Option.bind_some]
  refine Ev.congr (fun k => by rw [if_neg hne]) ?_
  by_cases c : C ≤ P / 18446744073709551616
  · have hbig := big_q hCn.2 c
    rw [sclP_big hbig]
    have hor : decide (Go.bits .or .u64 ((P / 18446744073709551616 : Nat) : Int) ((P % 18446744073709551616 : Nat) : Int) > 0) = true := by
      rw [u64_or_nat _ _ hhi hlo]
      have : P / 18446744073709551616 ≤ P / 18446744073709551616 ||| P % 18446744073709551616 := Nat.left_le_or
      exact decide_eq_true (by omega)
    refine Ev.congr (fun k => if_pos (Int.ofNat_le.2 c)) ?_
    rw [hor]
    cases nb with
    | true => exact Ev.congr (fun k => by rw [if_pos rfl]) (Ev.bind (signed1_ev true) (Ev.now _))
    | false => exact Ev.congr (fun k => by rw [if_neg (by decide)]) (Ev.bind (signed1_ev false) (Ev.now _))
  · have hdv := div64_ev (hi := P / 18446744073709551616) (lo := P % 18446744073709551616) (y := C) (by omega) (by omega) hlo
    have hPd : P / 18446744073709551616 * 18446744073709551616 + P % 18446744073709551616 = P := Nat.div_add_mod' P 18446744073709551616
    rw [hPd] at hdv
    have hq : P / C < 18446744073709551616 := by
      rw [Nat.div_lt_iff_lt_mul hCn.2]
      have h5 : P / 18446744073709551616 + 1 ≤ C := by omega
      have h6 : (P / 18446744073709551616 + 1) * 18446744073709551616 ≤ C * 18446744073709551616 := Nat.mul_le_mul_right _ h5
      rw [Nat.mul_comm 18446744073709551616 C]
      omega
    refine Ev.congr (fun k => if_neg (show ¬ ((P / 18446744073709551616 : Nat) : Int) ≥ (C : Int) from fun x => c (Int.ofNat_le.1 x))) (Ev.bind hdv ?_)
    unfold sclP
    cases nb with
    | false => exact Ev.congr (fun k => by rw [if_neg (by decide)]) (Ev.bind (signed_ev false hq) (Ev.now _))
    | true =>
      refine Ev.congr (fun k => by rw [if_pos rfl]) ?_
      rw [if_pos rfl]
      generalize P / C = q at *
      generalize P % C = r at *
      by_cases hr : r = 0
      · subst hr
        rw [if_pos rfl]
        refine Ev.congr (fun k => if_neg (show ¬ ((0 : Nat) : Int) > 0 by decide)) ?_
        by_cases hz : q = 0
        · subst hz
          have := signed_ev false (lo := 0) (by decide)
          exact Ev.bind this (Ev.now _)
        · have hg : decide ((q : Int) > 0) = true := decide_eq_true (by omega)
          rw [hg]
          exact Ev.bind (signed_ev true hq) (Ev.now _)
      · rw [if_neg hr]
        refine Ev.congr (fun k => if_pos (show (r : Int) > 0 by omega)) ?_
        by_cases hm : 1152921504606846976 ≤ q
        · rw [Nat.min_eq_right (show top_ ≤ q + 1 by unfold top_; omega)]
          exact Ev.congr (fun k => if_pos (show (q : Int) ≥ 1152921504606846976 by omega)) (Ev.now _)
        · have hw : IntKind.u64.wrap ((q : Int) + 1) = ((q + 1 : Nat) : Int) := by rw [u64_is]; omega
          have hg : decide (((q + 1 : Nat) : Int) > 0) = true := decide_eq_true (by omega)
          refine Ev.congr (fun k => if_neg (show ¬ (q : Int) ≥ 1152921504606846976 by omega)) ?_
          rw [hw, hg]
          exact Ev.bind (signed_ev true (lo := q + 1) (by omega)) (Ev.now _)
theorem scale_ev {part num den : Int} (h0 : 0 ≤ part) (h1 : part ≤ 1048576) : Ev (fun k => scaled_Scale.f k part num den) (scl_ part num den) := by
  unfold scaled_Scale.f scl_
  by_cases c : den ≤ 0
  · rw [if_pos c]
    exact Ev.congr (fun k => by rw [if_pos c]) (Ev.now _)
  · rw [if_neg c]
    exact Ev.congr (fun k => by rw [if_neg c]) (Ev.bind (muldiv_ev h0 h1 (by omega)) (Ev.now _))
end Go.Proofs.Ytblmcdpfhdamjaa.PPaintSeen
