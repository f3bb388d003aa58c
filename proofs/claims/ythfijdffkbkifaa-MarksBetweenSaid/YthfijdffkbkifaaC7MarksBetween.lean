/- What each function does: it answers as its model tells, and changes nothing (in 8 texts, numbered 8). -/
import Derived.Test.YthfijdffkbkifaaC2MarksBetween
import Derived.Test.YthfijdffkbkifaaC3MarksBetween
import Derived.Test.YthfijdffkbkifaaC4MarksBetween
import Derived.Test.YthfijdffkbkifaaC6MarksBetween
import Derived.Test.YthfijdffkbkifaaTMarksBetween
namespace Go.AL.X
open Go.Proofs Go.Proofs.Ythfijdffkbkifaa.PMarksBetween
set_option linter.unusedVariables false
set_option linter.unusedSimpArgs false
set_option maxRecDepth 100000
set_option maxHeartbeats 16000000
theorem regletlaw16_MarksBetween.does {k : Nat} {a0 : Int} {l1 : List (S34)} {a2_0 : Int} {a2_1 : Int} {r : (Bool)} (h : regletlaw16_MarksBetween.f k a0 l1 a2_0 a2_1 = some r) : Does Try.prog false 7 [.int .i64 a0, .sl (l1.map Enc.enc), .agg [.int .i64 a2_0, .int .i64 a2_1]] O0 (fun x G_ => x = .bool r ∧ G_ = O0) := by
  unfold regletlaw16_MarksBetween.f at h
  try simp only [rdc46, rdc46', rq_T46, rq_T51, rq_T34, rq_T56, rq_I, rq_bt, wrap64, bl, tl_eq, tl_lit, tl_nil, Bool.false_eq_true, if_false, if_true] at h
  refine does_walk 3 (F := cfgL [(14, 16), (15, 14)]) tb_ok mixed Try.func7 rfl (fun T hT => ?_)
  repeat' first
    | (show E3 _ _ _ _ _ _ _ _; first
      | refine oQ vL ?_
      | refine oQ vLv ?_
      | refine oQ vLo ?_
      | refine oQ vIa ?_
      | refine oQ vE ?_
      | refine oQ vEv ?_
      | refine oQ vEo ?_
      | refine oQ vpt ?_
      | refine oQ vpf ?_
      | refine oLe vLe ?_
      | refine oLd ?_
      | (refine mB h (fun t ht h => ?_); refine oP (regletlaw16_awake.does ht) (fun r_ G_ hp => ?_) (fun r_ G_ hp => ?_) <;> (obtain ⟨rfl, rfl⟩ := hp; first | exact ⟨rfl, rfl⟩ | skip))
      | (refine mB h (fun t ht h => ?_); obtain ⟨_ | ⟨b0, b1, b2⟩, ts⟩ := t <;> refine oP (regletlaw16_played.does ht) (fun r_ G_ hp => ?_) (fun r_ G_ hp => ?_) <;> first | (obtain ⟨rfl, rfl⟩ := hp; first | exact ⟨rfl, rfl⟩ | (try simp only at h)) | (obtain ⟨id, rfl, rfl⟩ := hp; first | exact ⟨rfl, rfl⟩ | (try simp only at h)))
      | refine mB h (fun t ht h => oL (marks_Set_Between.does ht) ?_)
      | refine oW ?_
      | refine n_reg [0, 1, 2, 5, 6, 7, 8, 9, 10, 11, 12, 14, 17, 25, 37, 57, 73] ?_
      | refine gYq vL ?_
      | refine gYq vLv ?_
      | refine gYq vLo ?_
      | refine gYq vIa ?_
      | refine gYq vE ?_
      | refine gYq vEv ?_
      | refine gYq vEo ?_
      | refine gYq vpt ?_
      | refine gYq vpf ?_
      | refine gLe vLe ?_
      | refine gN ?_
      | refine gNf ?_
      | refine gY ?_
      | refine gT ?_
      | refine mB h (fun t ht h => oC (vC (fun G => regletlaw16_size.does ht G)) ?_)
      | refine mB h (fun t ht h => oC (vC (fun G => regletref16_All.does ht G)) ?_)
      | refine fz 15 ?_
      | refine fz 19 ?_
      | refine fz 20 ?_
      | refine fz 26 ?_
      | refine fz 28 ?_
      | refine fz 30 ?_
      | refine fz 32 ?_
      | refine gif h (fun hc h => ?_) (fun hc h => ?_)
      | refine gfi h (fun hc h => ?_) (fun hc h => ?_)
      | with_reducible refine mI h (fun hc h => ?_)
      | with_reducible refine mE h (fun hc h => ?_)
      | with_reducible refine mS h (fun h => ?_)
      | refine oSe (_ : Int) ?_
      | refine oWs ?_
      | refine oWl ?_
      | refine gYs ?_
      | refine gifs h (fun hc h => ?_) (fun hc h => ?_)
      | refine gfis h (fun hc h => ?_) (fun hc h => ?_)
      | (fail_if_success (refine g_lit ?_)); refine g_dt ?_
      | (fail_if_success (refine g_lit ?_)); refine g_df ?_)
    | (show E1 _ _ _ _ _ _ _; first
      | refine c_opn 7 ?_
      | refine c_seq ?_
      | refine c_reg ?_
      | refine c_drwf ?_
      | refine c_drw ?_
      | refine c_blk ?_
      | refine c_exit ?_
      | refine c_ret ?_
      | refine c_skip ?_
      | refine c_tt ?_
      | refine c_ff ?_
      | refine c_if h (fun hc h => ?_) (fun hc h => ?_)
      | refine c_fi h (fun hc h => ?_) (fun hc h => ?_)
      | with_reducible refine mI h (fun hc h => ?_)
      | with_reducible refine mE h (fun hc h => ?_)
      | with_reducible refine mS h (fun h => ?_)
      | refine c_ifs h (fun hc h => ?_) (fun hc h => ?_)
      | refine c_fis h (fun hc h => ?_) (fun hc h => ?_)
      | (refine c_del ?_; refine lp9 (fun x5_0 x5_1 x7_0 x7_1 x7_2 x9 x10 x11 x12 => [(9, .own 1 (x9.map Enc.enc)), (10, .sl (x10.map Enc.enc)), (11, .int .i64 x11), (12, .int .i64 x12), (5, .lptr 5 0), (7, .lptr 7 0)]) (fun x5_0 x5_1 x7_0 x7_1 x7_2 x9 x10 x11 x12 => [(5, [.int .i64 x5_0, .int .i64 x5_1]), (7, [.int .i64 x7_0, .int .i64 x7_1, .own 3 (x7_2.map Enc.enc)])]) (fun k_ x5_0 x5_1 x7_0 x7_1 x7_2 x9 x10 x11 x12 => k_ ≤ k ∧ regletlaw16_MarksBetween.l0 k_ x5_0 x5_1 x7_0 x7_1 x7_2 x9 x10 x11 x12 = some r) ⟨Nat.le_refl _, h⟩ ?_; intro k x5_0 x5_1 x7_0 x7_1 x7_2 x9 x10 x11 x12 h; obtain ⟨hk, h⟩ := h; rcases k with _ | k; (simp only [regletlaw16_MarksBetween.l0] at h; cases h); simp only [regletlaw16_MarksBetween.l0, rdc46, rdc46', rq_T46, rq_T51, rq_T34, rq_T56, rq_I, rq_bt, wrap64, bl, tl_eq, tl_lit, tl_nil, Bool.false_eq_true, if_false, if_true] at h)
      | (refine lp9 (fun x5_0 x5_1 x7_0 x7_1 x7_2 x9 x10 x11 x12 => [(9, .own 1 (x9.map Enc.enc)), (10, .sl (x10.map Enc.enc)), (11, .int .i64 x11), (12, .int .i64 x12), (5, .lptr 5 0), (7, .lptr 7 0)]) (fun x5_0 x5_1 x7_0 x7_1 x7_2 x9 x10 x11 x12 => [(5, [.int .i64 x5_0, .int .i64 x5_1]), (7, [.int .i64 x7_0, .int .i64 x7_1, .own 3 (x7_2.map Enc.enc)])]) (fun k_ x5_0 x5_1 x7_0 x7_1 x7_2 x9 x10 x11 x12 => k_ ≤ k ∧ regletlaw16_MarksBetween.l0 k_ x5_0 x5_1 x7_0 x7_1 x7_2 x9 x10 x11 x12 = some r) ⟨Nat.le_refl _, h⟩ ?_; intro k x5_0 x5_1 x7_0 x7_1 x7_2 x9 x10 x11 x12 h; obtain ⟨hk, h⟩ := h; rcases k with _ | k; (simp only [regletlaw16_MarksBetween.l0] at h; cases h); simp only [regletlaw16_MarksBetween.l0, rdc46, rdc46', rq_T46, rq_T51, rq_T34, rq_T56, rq_I, rq_bt, wrap64, bl, tl_eq, tl_lit, tl_nil, Bool.false_eq_true, if_false, if_true] at h)
      | refine c_dt ?_
      | refine c_df ?_)
    | (show E2 _ _ _ _ _ _ _; first
      | refine n_seq ?_
      | (refine n_end hT ?_; cases h; first | exact ⟨rfl, rfl⟩ | exact ⟨congrArg AV.bool (by rw [Bool.eq_iff_iff]; simp), rfl⟩)
      | refine ag9 rfl ⟨by omega, h⟩)
    | (show E4 _ _ _ _ _ _ _; first
      | refine dQ vLe ?_
      | refine dQ vL ?_
      | refine dQ vLv ?_
      | refine dQ vLo ?_
      | refine dQ vIa ?_
      | refine dQ vE ?_
      | refine dQ vEv ?_
      | refine dQ vEo ?_
      | refine dQ vpt ?_
      | refine dQ vpf ?_
      | refine dW ?_
      | refine dE ?_
      | refine dYq vL ?_
      | refine dYq vLv ?_
      | refine dYq vLo ?_
      | refine dYq vIa ?_
      | refine dYq vE ?_
      | refine dYq vEv ?_
      | refine dYq vEo ?_
      | refine dYq vpt ?_
      | refine dYq vpf ?_
      | refine dYq vLe ?_
      | refine dN ?_
      | refine dNf ?_
      | refine dY ?_
      | refine dT ?_
      | refine dif_ h (fun hc h => ?_) (fun hc h => ?_)
      | refine dfi h (fun hc h => ?_) (fun hc h => ?_)
      | with_reducible refine mI h (fun hc h => ?_)
      | with_reducible refine mE h (fun hc h => ?_)
      | with_reducible refine mS h (fun h => ?_)
      | refine dif_s h (fun hc h => ?_) (fun hc h => ?_)
      | refine dfis h (fun hc h => ?_) (fun hc h => ?_))
    | (show E5 _ _ _ _ _ _ _; first
      | refine tSe (_ : Int) ?_
      | refine tQ vL ?_
      | refine tQ vLv ?_
      | refine tQ vLo ?_
      | refine tQ vIa ?_
      | refine tQ vE ?_
      | refine tQ vEv ?_
      | refine tQ vEo ?_
      | refine tQ vpt ?_
      | refine tQ vpf ?_
      | refine tYq vL ?_
      | refine tYq vLv ?_
      | refine tYq vLo ?_
      | refine tYq vIa ?_
      | refine tYq vE ?_
      | refine tYq vEv ?_
      | refine tYq vEo ?_
      | refine tYq vpt ?_
      | refine tYq vpf ?_
      | refine tN ?_
      | refine tNf ?_
      | refine tY ?_
      | refine tT ?_
      | refine tW ?_
      | refine n_drw [0, 1, 2, 5, 6, 7, 8, 9, 10, 11, 12, 14, 17, 25, 37, 57, 73] ?_
      | refine tif h (fun hc h => ?_) (fun hc h => ?_)
      | refine tfi h (fun hc h => ?_) (fun hc h => ?_)
      | with_reducible refine mI h (fun hc h => ?_)
      | with_reducible refine mE h (fun hc h => ?_)
      | with_reducible refine mS h (fun h => ?_))
    | with_reducible refine mI h (fun hc h => ?_)
    | with_reducible refine mE h (fun hc h => ?_)
    | with_reducible refine mS h (fun h => ?_)
    | refine mT h (fun h => ?_)
    | refine mF h (fun h => ?_)
    | (cases h; done)
end Go.AL.X
