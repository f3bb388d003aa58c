/- What each function does: it answers as its model tells, and changes nothing (in 5 texts, numbered 5). -/
import Derived.Test.YthfijdffkbkifaaC0MarksBack
import Derived.Test.YthfijdffkbkifaaC1MarksBack
import Derived.Test.YthfijdffkbkifaaC2MarksBack
import Derived.Test.YthfijdffkbkifaaC3MarksBack
import Derived.Test.YthfijdffkbkifaaTMarksBack
namespace Go.AL.X
open Go.Proofs Go.Proofs.Ythfijdffkbkifaa.PMarksBack
set_option linter.unusedVariables false
set_option linter.unusedSimpArgs false
set_option maxRecDepth 100000
set_option maxHeartbeats 16000000
theorem regletlaw16_awake.does {k : Nat} {r : (Bool)} (h : regletlaw16_awake.f k = some r) : Does Try.prog false 8 [] O0 (fun x G_ => x = .bool r ∧ G_ = O0) := by
  unfold regletlaw16_awake.f at h
  try simp only [rdc46, rdc46', rq_T46, rq_T51, rq_T34, rq_bt, wrap64, bl, tl_eq, tl_lit, tl_nil, Bool.false_eq_true, if_false, if_true] at h
  refine does_walk 0 (F := cfgL []) tb_ok mixed Try.func8 rfl (fun T hT => ?_)
  repeat' first
    | (show E3 _ _ _ _ _ _ _ _; first
      | refine oQ vpt ?_
      | refine oQ vpf ?_
      | refine oBS ?_
      | refine oB ?_
      | (refine mB h (fun t ht h => ?_); obtain ⟨_ | ⟨b0, b1, b2⟩, ts⟩ := t <;> refine oP (regletlaw16_played.does ht) (fun r_ G_ hp => ?_) (fun r_ G_ hp => ?_) <;> first | (obtain ⟨rfl, rfl⟩ := hp; first | exact ⟨rfl, rfl⟩ | (try simp only at h)) | (obtain ⟨id, rfl, rfl⟩ := hp; first | exact ⟨rfl, rfl⟩ | (try simp only at h)))
      | refine mB h (fun t ht h => oL (marks_Set_Get.does ht) ?_)
      | refine mB h (fun t ht h => gL (marks_Set_Size.does ht) ?_)
      | refine oW ?_
      | refine n_reg [0, 1, 3, 4, 5, 6, 16] ?_
      | refine gYq vpt ?_
      | refine gYq vpf ?_
      | refine gN ?_
      | refine gNf ?_
      | refine gY ?_
      | refine gT ?_
      | refine gif h (fun hc h => ?_) (fun hc h => ?_)
      | refine gfi h (fun hc h => ?_) (fun hc h => ?_)
      | with_reducible refine mI h (fun hc h => ?_)
      | with_reducible refine mE h (fun hc h => ?_)
      | with_reducible refine mS h (fun h => ?_)
      | refine oWs ?_
      | refine oWl ?_
      | refine gYs ?_
      | refine gifs h (fun hc h => ?_) (fun hc h => ?_)
      | refine gfis h (fun hc h => ?_) (fun hc h => ?_)
      | (fail_if_success (refine g_lit ?_)); refine g_dt ?_
      | (fail_if_success (refine g_lit ?_)); refine g_df ?_)
    | (show E1 _ _ _ _ _ _ _; first
      | refine c_opn 1 ?_
      | refine c_seq ?_
      | refine c_reg ?_
      | refine c_ret ?_
      | refine c_skip ?_
      | refine c_tt ?_
      | refine c_ff ?_
      | refine c_if h (fun hc h => ?_) (fun hc h => ?_)
      | refine c_fi h (fun hc h => ?_) (fun hc h => ?_)
      | with_reducible refine mI h (fun hc h => ?_)
      | with_reducible refine mE h (fun hc h => ?_)
      | with_reducible refine mS h (fun h => ?_)
      | refine c_ifs h (fun hc h => ?_) (fun hc h => ?_)
      | refine c_fis h (fun hc h => ?_) (fun hc h => ?_)
      | refine c_dt ?_
      | refine c_df ?_)
    | (show E2 _ _ _ _ _ _ _; first
      | refine n_seq ?_
      | (refine n_end hT ?_; cases h; first | exact ⟨rfl, rfl⟩ | exact ⟨congrArg AV.bool (by rw [Bool.eq_iff_iff]; simp), rfl⟩))
    | with_reducible refine mI h (fun hc h => ?_)
    | with_reducible refine mE h (fun hc h => ?_)
    | with_reducible refine mS h (fun h => ?_)
    | refine mT h (fun h => ?_)
    | refine mF h (fun h => ?_)
    | (cases h; done)
theorem regletlaw16_MarksBack.does {k : Nat} {a0 : Int} {l1 : List (S34)} {a2_0 : Int} {a2_1 : Int} {a2_2 : Int} {a2_3 : Bool} {r : (Bool)} (h : regletlaw16_MarksBack.f k a0 l1 a2_0 a2_1 a2_2 a2_3 = some r) : Does Try.prog false 5 [.int .i64 a0, .sl (l1.map Enc.enc), .agg [.int .i64 a2_0, .int .i64 a2_1, .int .i64 a2_2, .bool a2_3]] O0 (fun x G_ => x = .bool r ∧ G_ = O0) := by
  unfold regletlaw16_MarksBack.f at h
  try simp only [rdc46, rdc46', rq_T46, rq_T51, rq_T34, rq_bt, wrap64, bl, tl_eq, tl_lit, tl_nil, Bool.false_eq_true, if_false, if_true] at h
  refine does_walk 3 (F := cfgL [(19, 8)]) tb_ok mixed Try.func5 rfl (fun T hT => ?_)
  repeat' first
    | (show E3 _ _ _ _ _ _ _ _; first
      | refine oQ vL ?_
      | refine oQ vLv ?_
      | refine oQ vE ?_
      | refine oQ vEv ?_
      | refine oQ vEo ?_
      | refine oLe vLe ?_
      | refine oLd ?_
      | (refine mB h (fun t ht h => ?_); refine oP (regletlaw16_awake.does ht) (fun r_ G_ hp => ?_) (fun r_ G_ hp => ?_) <;> (obtain ⟨rfl, rfl⟩ := hp; first | exact ⟨rfl, rfl⟩ | skip))
      | (refine mB h (fun t ht h => ?_); obtain ⟨_ | ⟨b0, b1, b2⟩, ts⟩ := t <;> refine oP (regletlaw16_played.does ht) (fun r_ G_ hp => ?_) (fun r_ G_ hp => ?_) <;> first | (obtain ⟨rfl, rfl⟩ := hp; first | exact ⟨rfl, rfl⟩ | (try simp only at h)) | (obtain ⟨id, rfl, rfl⟩ := hp; first | exact ⟨rfl, rfl⟩ | (try simp only at h)))
      | refine mB h (fun t ht h => oL (marks_Set_All.does ht) ?_)
      | refine mB h (fun t ht h => oL (marks_Set_Insert.does ht) ?_)
      | refine mB h (fun t ht h => oL (marks_Set_Delete.does ht) ?_)
      | refine oW ?_
      | refine n_reg [0, 1, 2, 5, 6, 7, 9, 10, 11, 13, 16, 24, 33, 43, 50, 54, 65] ?_
      | refine mB h (fun t ht h => oC (vC (fun G => regletlaw16_size.does ht G)) ?_)
      | refine fz 14 ?_
      | refine fz 18 ?_
      | refine fz 19 ?_
      | refine fz 25 ?_
      | refine fz 27 ?_
      | refine fz 29 ?_
      | refine fz 31 ?_
      | refine fz 34 ?_
      | refine fz 36 ?_
      | refine fz 41 ?_
      | refine fz 44 ?_
      | with_reducible refine mI h (fun hc h => ?_)
      | with_reducible refine mE h (fun hc h => ?_)
      | with_reducible refine mS h (fun h => ?_)
      | refine oWs ?_
      | refine oWl ?_)
    | (show E1 _ _ _ _ _ _ _; first
      | refine c_opn 7 ?_
      | refine c_seq ?_
      | refine c_reg ?_
      | refine c_drwf ?_
      | refine c_drw ?_
      | refine c_blk ?_
      | refine c_exit ?_
      | refine c_ret ?_
      | refine c_skip ?_
      | refine c_tt ?_
      | refine c_ff ?_
      | refine c_if h (fun hc h => ?_) (fun hc h => ?_)
      | refine c_fi h (fun hc h => ?_) (fun hc h => ?_)
      | with_reducible refine mI h (fun hc h => ?_)
      | with_reducible refine mE h (fun hc h => ?_)
      | with_reducible refine mS h (fun h => ?_)
      | refine c_ifs h (fun hc h => ?_) (fun hc h => ?_)
      | refine c_fis h (fun hc h => ?_) (fun hc h => ?_)
      | (refine c_del ?_; refine lp6 (fun x9 x10 x11 x7_0 x7_1 x7_2 => [(9, .own 3 (x9.map Enc.enc)), (10, .own 3 (x10.map Enc.enc)), (11, .int .i64 x11), (7, .lptr 7 0)]) (fun x9 x10 x11 x7_0 x7_1 x7_2 => [(7, [.int .i64 x7_0, .int .i64 x7_1, .own 3 (x7_2.map Enc.enc)])]) (fun k_ x9 x10 x11 x7_0 x7_1 x7_2 => k_ ≤ k ∧ regletlaw16_MarksBack.l0 k_ x9 x10 x11 x7_0 x7_1 x7_2 = some r) ⟨Nat.le_refl _, h⟩ ?_; intro k x9 x10 x11 x7_0 x7_1 x7_2 h; obtain ⟨hk, h⟩ := h; rcases k with _ | k; (simp only [regletlaw16_MarksBack.l0] at h; cases h); simp only [regletlaw16_MarksBack.l0, rdc46, rdc46', rq_T46, rq_T51, rq_T34, rq_bt, wrap64, bl, tl_eq, tl_lit, tl_nil, Bool.false_eq_true, if_false, if_true] at h)
      | (refine lp6 (fun x9 x10 x11 x7_0 x7_1 x7_2 => [(9, .own 3 (x9.map Enc.enc)), (10, .own 3 (x10.map Enc.enc)), (11, .int .i64 x11), (7, .lptr 7 0)]) (fun x9 x10 x11 x7_0 x7_1 x7_2 => [(7, [.int .i64 x7_0, .int .i64 x7_1, .own 3 (x7_2.map Enc.enc)])]) (fun k_ x9 x10 x11 x7_0 x7_1 x7_2 => k_ ≤ k ∧ regletlaw16_MarksBack.l0 k_ x9 x10 x11 x7_0 x7_1 x7_2 = some r) ⟨Nat.le_refl _, h⟩ ?_; intro k x9 x10 x11 x7_0 x7_1 x7_2 h; obtain ⟨hk, h⟩ := h; rcases k with _ | k; (simp only [regletlaw16_MarksBack.l0] at h; cases h); simp only [regletlaw16_MarksBack.l0, rdc46, rdc46', rq_T46, rq_T51, rq_T34, rq_bt, wrap64, bl, tl_eq, tl_lit, tl_nil, Bool.false_eq_true, if_false, if_true] at h)
      | refine c_neq3 h (fun hc h => ?_) (fun hc h => ?_)
      | refine c_dt ?_
      | refine c_df ?_)
    | (show E2 _ _ _ _ _ _ _; first
      | refine n_seq ?_
      | (refine n_end hT ?_; cases h; first | exact ⟨rfl, rfl⟩ | exact ⟨congrArg AV.bool (by rw [Bool.eq_iff_iff]; simp), rfl⟩)
      | refine ag6 rfl ⟨by omega, h⟩)
    | (show E4 _ _ _ _ _ _ _; first
      | refine dQ vLe ?_
      | refine dQ vL ?_
      | refine dQ vLv ?_
      | refine dQ vE ?_
      | refine dQ vEv ?_
      | refine dQ vEo ?_
      | refine dW ?_
      | refine dE ?_)
    | (show E5 _ _ _ _ _ _ _; first
      | refine tQ vL ?_
      | refine tQ vLv ?_
      | refine tQ vE ?_
      | refine tQ vEv ?_
      | refine tQ vEo ?_
      | refine tW ?_
      | refine n_drw [0, 1, 2, 5, 6, 7, 9, 10, 11, 13, 16, 24, 33, 43, 50, 54, 65] ?_)
    | with_reducible refine mI h (fun hc h => ?_)
    | with_reducible refine mE h (fun hc h => ?_)
    | with_reducible refine mS h (fun h => ?_)
    | refine mT h (fun h => ?_)
    | refine mF h (fun h => ?_)
    | (cases h; done)
end Go.AL.X
