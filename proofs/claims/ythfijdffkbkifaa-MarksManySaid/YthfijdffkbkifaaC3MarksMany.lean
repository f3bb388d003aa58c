/- What each function does: it answers as its model tells, and changes nothing (in 4 texts, numbered 4). -/
import Derived.Test.YthfijdffkbkifaaC0MarksMany
import Derived.Test.YthfijdffkbkifaaC1MarksMany
import Derived.Test.YthfijdffkbkifaaC2MarksMany
import Derived.Test.YthfijdffkbkifaaTMarksMany
namespace Go.AL.X
open Go.Proofs Go.Proofs.Ythfijdffkbkifaa.PMarksMany
set_option linter.unusedVariables false
set_option linter.unusedSimpArgs false
set_option maxRecDepth 100000
set_option maxHeartbeats 16000000
theorem regletlaw16_MarksMany.does {k : Nat} {a0 : Int} {a1 : Int} {r : (Bool)} (h : regletlaw16_MarksMany.f k a0 a1 = some r) : Does Try.prog false 3 [.int .i64 a0, .int .i64 a1] O0 (fun x G_ => x = .bool r ∧ G_ = O0) := by
  unfold regletlaw16_MarksMany.f at h
  try simp only [rdc46, rdc46', rq_T46, rq_T51, rq_T34, wrap64, bl, tl_eq, tl_lit, tl_nil, Bool.false_eq_true, if_false, if_true] at h
  refine does_walk 2 (F := cfgL []) tb_ok mixed Try.func3 rfl (fun T hT => ?_)
  repeat' first
    | (show E3 _ _ _ _ _ _ _ _; first
      | refine oQ vmin ?_
      | refine oQ vpt ?_
      | refine oQ vpf ?_
      | (refine mB h (fun t ht h => ?_); refine oP (regletlaw16_awake.does ht) (fun r_ G_ hp => ?_) (fun r_ G_ hp => ?_) <;> (obtain ⟨rfl, rfl⟩ := hp; first | exact ⟨rfl, rfl⟩ | skip))
      | (refine mB h (fun t ht h => ?_); obtain ⟨_ | ⟨b0, b1, b2⟩, ts⟩ := t <;> refine oP (marks_New.does ht) (fun r_ G_ hp => ?_) (fun r_ G_ hp => ?_) <;> first | (obtain ⟨rfl, rfl⟩ := hp; first | exact ⟨rfl, rfl⟩ | (try simp only at h)) | (obtain ⟨id, rfl, rfl⟩ := hp; first | exact ⟨rfl, rfl⟩ | (try simp only at h)))
      | refine mB h (fun t ht h => oL (marks_Set_Put.does ht) ?_)
      | refine mB h (fun t ht h => oL (marks_Set_Count.does ht) ?_)
      | refine mB h (fun t ht h => gL (marks_Set_Count.does ht) ?_)
      | refine mB h (fun t ht h => oL (marks_Set_Drop.does ht) ?_)
      | refine mB h (fun t ht h => gL (marks_Set_Drop.does ht) ?_)
      | refine oW ?_
      | refine n_reg [0, 1, 4, 5, 6, 7, 8, 9, 10, 11, 13, 19, 29, 32, 68, 74, 78] ?_
      | refine gYq vmin ?_
      | refine gYq vpt ?_
      | refine gYq vpf ?_
      | refine gN ?_
      | refine gNf ?_
      | refine gY ?_
      | refine gT ?_
      | refine gif h (fun hc h => ?_) (fun hc h => ?_)
      | refine gfi h (fun hc h => ?_) (fun hc h => ?_)
      | with_reducible refine mI h (fun hc h => ?_)
      | with_reducible refine mE h (fun hc h => ?_)
      | with_reducible refine mS h (fun h => ?_)
      | refine oWs ?_
      | refine gYs ?_
      | refine gifs h (fun hc h => ?_) (fun hc h => ?_)
      | refine gfis h (fun hc h => ?_) (fun hc h => ?_)
      | (fail_if_success (refine g_lit ?_)); refine g_dt ?_
      | (fail_if_success (refine g_lit ?_)); refine g_df ?_)
    | (show E1 _ _ _ _ _ _ _; first
      | refine c_opn 5 ?_
      | refine c_seq ?_
      | refine c_reg ?_
      | refine c_blk ?_
      | refine c_exit ?_
      | refine c_ret ?_
      | refine c_skip ?_
      | refine c_tt ?_
      | refine c_ff ?_
      | refine c_if h (fun hc h => ?_) (fun hc h => ?_)
      | refine c_fi h (fun hc h => ?_) (fun hc h => ?_)
      | with_reducible refine mI h (fun hc h => ?_)
      | with_reducible refine mE h (fun hc h => ?_)
      | with_reducible refine mS h (fun h => ?_)
      | refine c_ifs h (fun hc h => ?_) (fun hc h => ?_)
      | refine c_fis h (fun hc h => ?_) (fun hc h => ?_)
      | (refine c_del ?_; refine lp6 (fun x0 x1 x7 x5_0 x5_1 x5_2 => [(0, .int .i64 x0), (1, .int .i64 x1), (7, .int .i64 x7), (5, .lptr 5 0)]) (fun x0 x1 x7 x5_0 x5_1 x5_2 => [(5, [.int .i64 x5_0, .int .i64 x5_1, .own 3 (x5_2.map Enc.enc)])]) (fun k_ x0 x1 x7 x5_0 x5_1 x5_2 => k_ ≤ k ∧ regletlaw16_MarksMany.l0 k_ x0 x1 x7 x5_0 x5_1 x5_2 = some r) ⟨Nat.le_refl _, h⟩ ?_; intro k x0 x1 x7 x5_0 x5_1 x5_2 h; obtain ⟨hk, h⟩ := h; rcases k with _ | k; (simp only [regletlaw16_MarksMany.l0] at h; cases h); simp only [regletlaw16_MarksMany.l0, rdc46, rdc46', rq_T46, rq_T51, rq_T34, wrap64, bl, tl_eq, tl_lit, tl_nil, Bool.false_eq_true, if_false, if_true] at h)
      | (refine lp6 (fun x0 x1 x7 x5_0 x5_1 x5_2 => [(0, .int .i64 x0), (1, .int .i64 x1), (7, .int .i64 x7), (5, .lptr 5 0)]) (fun x0 x1 x7 x5_0 x5_1 x5_2 => [(5, [.int .i64 x5_0, .int .i64 x5_1, .own 3 (x5_2.map Enc.enc)])]) (fun k_ x0 x1 x7 x5_0 x5_1 x5_2 => k_ ≤ k ∧ regletlaw16_MarksMany.l0 k_ x0 x1 x7 x5_0 x5_1 x5_2 = some r) ⟨Nat.le_refl _, h⟩ ?_; intro k x0 x1 x7 x5_0 x5_1 x5_2 h; obtain ⟨hk, h⟩ := h; rcases k with _ | k; (simp only [regletlaw16_MarksMany.l0] at h; cases h); simp only [regletlaw16_MarksMany.l0, rdc46, rdc46', rq_T46, rq_T51, rq_T34, wrap64, bl, tl_eq, tl_lit, tl_nil, Bool.false_eq_true, if_false, if_true] at h)
      | refine c_dt ?_
      | refine c_df ?_)
    | (show E2 _ _ _ _ _ _ _; first
      | refine n_seq ?_
      | (refine n_end hT ?_; cases h; first | exact ⟨rfl, rfl⟩ | exact ⟨congrArg AV.bool (by rw [Bool.eq_iff_iff]; simp), rfl⟩)
      | refine ag6 rfl ⟨by omega, h⟩)
    | with_reducible refine mI h (fun hc h => ?_)
    | with_reducible refine mE h (fun hc h => ?_)
    | with_reducible refine mS h (fun h => ?_)
    | refine mT h (fun h => ?_)
    | refine mF h (fun h => ?_)
    | (cases h; done)
end Go.AL.X
