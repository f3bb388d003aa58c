/- What each function does: it answers as its model tells, and changes nothing (in 7 texts, numbered 7). -/
import Derived.Test.YthfijdffkbkifaaC0MarksPlay
import Derived.Test.YthfijdffkbkifaaC2MarksPlay
import Derived.Test.YthfijdffkbkifaaC3MarksPlay
import Derived.Test.YthfijdffkbkifaaC4MarksPlay
import Derived.Test.YthfijdffkbkifaaC5MarksPlay
import Derived.Test.YthfijdffkbkifaaTMarksPlay
namespace Go.AL.X
open Go.Proofs Go.Proofs.Ythfijdffkbkifaa.PMarksPlay
set_option linter.unusedVariables false
set_option linter.unusedSimpArgs false
set_option maxRecDepth 100000
set_option maxHeartbeats 16000000
theorem regletlaw16_awake.does {k : Nat} {r : (Bool)} (h : regletlaw16_awake.f k = some r) : Does Try.prog false 8 [] O0 (fun x G_ => x = .bool r ∧ G_ = O0) := by
  unfold regletlaw16_awake.f at h
  try simp only [rdc46, rdc46', rq_T46, rq_T51, rq_T34, rq_bt, wrap64, bl, tl_eq, tl_lit, tl_nil, Bool.false_eq_true, if_false, if_true] at h
  refine does_walk 0 (F := cfgL []) tb_ok mixed Try.func8 rfl (fun T hT => ?_)
  repeat' first
    | (show E3 _ _ _ _ _ _ _ _; first
      | refine oQ vpt ?_
      | refine oQ vpf ?_
      | refine oBS ?_
      | refine oB ?_
      | (refine mB h (fun t ht h => ?_); obtain ⟨_ | ⟨b0, b1, b2⟩, ts⟩ := t <;> refine oP (regletlaw16_played.does ht) (fun r_ G_ hp => ?_) (fun r_ G_ hp => ?_) <;> first | (obtain ⟨rfl, rfl⟩ := hp; first | exact ⟨rfl, rfl⟩ | (try simp only at h)) | (obtain ⟨id, rfl, rfl⟩ := hp; first | exact ⟨rfl, rfl⟩ | (try simp only at h)))
      | refine mB h (fun t ht h => oL (marks_Set_Get.does ht) ?_)
      | refine mB h (fun t ht h => gL (marks_Set_Size.does ht) ?_)
      | refine oW ?_
      | refine n_reg [0, 1, 3, 4, 5, 6, 16] ?_
      | refine gYq vpt ?_
      | refine gYq vpf ?_
      | refine gN ?_
      | refine gNf ?_
      | refine gY ?_
      | refine gT ?_
      | refine gif h (fun hc h => ?_) (fun hc h => ?_)
      | refine gfi h (fun hc h => ?_) (fun hc h => ?_)
      | with_reducible refine mI h (fun hc h => ?_)
      | with_reducible refine mE h (fun hc h => ?_)
      | with_reducible refine mS h (fun h => ?_)
      | refine oWs ?_
      | refine oWl ?_
      | refine gYs ?_
      | refine gifs h (fun hc h => ?_) (fun hc h => ?_)
      | refine gfis h (fun hc h => ?_) (fun hc h => ?_)
      | (fail_if_success (refine g_lit ?_)); refine g_dt ?_
      | (fail_if_success (refine g_lit ?_)); refine g_df ?_)
    | (show E1 _ _ _ _ _ _ _; first
      | refine c_opn 1 ?_
      | refine c_seq ?_
      | refine c_reg ?_
      | refine c_ret ?_
      | refine c_skip ?_
      | refine c_tt ?_
      | refine c_ff ?_
      | refine c_if h (fun hc h => ?_) (fun hc h => ?_)
      | refine c_fi h (fun hc h => ?_) (fun hc h => ?_)
      | with_reducible refine mI h (fun hc h => ?_)
      | with_reducible refine mE h (fun hc h => ?_)
      | with_reducible refine mS h (fun h => ?_)
      | refine c_ifs h (fun hc h => ?_) (fun hc h => ?_)
      | refine c_fis h (fun hc h => ?_) (fun hc h => ?_)
      | refine c_dt ?_
      | refine c_df ?_)
    | (show E2 _ _ _ _ _ _ _; first
      | refine n_seq ?_
      | (refine n_end hT ?_; cases h; first | exact ⟨rfl, rfl⟩ | exact ⟨congrArg AV.bool (by rw [Bool.eq_iff_iff]; simp), rfl⟩))
    | with_reducible refine mI h (fun hc h => ?_)
    | with_reducible refine mE h (fun hc h => ?_)
    | with_reducible refine mS h (fun h => ?_)
    | refine mT h (fun h => ?_)
    | refine mF h (fun h => ?_)
    | (cases h; done)
theorem regletlaw16_MarksPlay.does {k : Nat} {a0 : Int} {l1 : List (S34)} {a2 : Int} {r : (Bool)} (h : regletlaw16_MarksPlay.f k a0 l1 a2 = some r) : Does Try.prog false 6 [.int .i64 a0, .sl (l1.map Enc.enc), .int .i64 a2] O0 (fun x G_ => x = .bool r ∧ G_ = O0) := by
  unfold regletlaw16_MarksPlay.f at h
  try simp only [rdc46, rdc46', rq_T46, rq_T51, rq_T34, rq_bt, wrap64, bl, tl_eq, tl_lit, tl_nil, Bool.false_eq_true, if_false, if_true] at h
  refine does_walk 3 (F := cfgL [(7, 2064000000), (13, 50000000), (19, 35), (22, 32800000000)]) tb_ok mixed Try.func6 rfl (fun T hT => ?_)
  repeat' first
    | (show E3 _ _ _ _ _ _ _ _; first
      | refine oQ vL ?_
      | refine oQ vLv ?_
      | refine oQ vLo ?_
      | refine oQ vE ?_
      | refine oQ vEv ?_
      | refine oQ vEo ?_
      | refine oQ vpt ?_
      | refine oQ vpf ?_
      | refine oLe vLe ?_
      | refine oLd ?_
      | (refine mB h (fun t ht h => ?_); refine oP (regletlaw16_awake.does ht) (fun r_ G_ hp => ?_) (fun r_ G_ hp => ?_) <;> (obtain ⟨rfl, rfl⟩ := hp; first | exact ⟨rfl, rfl⟩ | skip))
      | (refine mB h (fun t ht h => ?_); obtain ⟨_ | ⟨b0, b1, b2⟩, ts⟩ := t <;> refine oP (marks_New.does ht) (fun r_ G_ hp => ?_) (fun r_ G_ hp => ?_) <;> first | (obtain ⟨rfl, rfl⟩ := hp; first | exact ⟨rfl, rfl⟩ | (try simp only at h)) | (obtain ⟨id, rfl, rfl⟩ := hp; first | exact ⟨rfl, rfl⟩ | (try simp only at h)))
      | (refine mB h (fun t ht h => ?_); obtain ⟨_ | ⟨b0, b1, b2⟩, ts⟩ := t <;> refine oP (regletlaw16_played.does ht) (fun r_ G_ hp => ?_) (fun r_ G_ hp => ?_) <;> first | (obtain ⟨rfl, rfl⟩ := hp; first | exact ⟨rfl, rfl⟩ | (try simp only at h)) | (obtain ⟨id, rfl, rfl⟩ := hp; first | exact ⟨rfl, rfl⟩ | (try simp only at h)))
      | refine mB h (fun t ht h => oL (marks_Set_Get.does ht) ?_)
      | refine oW ?_
      | refine n_reg [0, 1, 2, 6, 7, 8, 9, 10, 11, 12, 13, 14, 15, 16, 17, 19, 22, 56, 92, 101, 105, 144] ?_
      | refine gYq vL ?_
      | refine gYq vLv ?_
      | refine gYq vLo ?_
      | refine gYq vE ?_
      | refine gYq vEv ?_
      | refine gYq vEo ?_
      | refine gYq vpt ?_
      | refine gYq vpf ?_
      | refine gLe vLe ?_
      | refine gN ?_
      | refine gNf ?_
      | refine gY ?_
      | refine gT ?_
      | refine mB h (fun t ht h => oC (vC (fun G => regletlaw16_size.does ht G)) ?_)
      | refine mB h (fun t ht h => oC (vC (fun G => regletref16_Get.does ht G)) ?_)
      | refine fz 20 ?_
      | refine fz 24 ?_
      | refine fz 35 ?_
      | refine fz 36 ?_
      | refine fz 58 ?_
      | refine fz 59 ?_
      | refine fz 64 ?_
      | refine fz 65 ?_
      | refine gif h (fun hc h => ?_) (fun hc h => ?_)
      | refine gfi h (fun hc h => ?_) (fun hc h => ?_)
      | with_reducible refine mI h (fun hc h => ?_)
      | with_reducible refine mE h (fun hc h => ?_)
      | with_reducible refine mS h (fun h => ?_)
      | refine oSf (α := S46) (β := Int) (fun y z => { y with f1 := z }) (fun z => AV.int .i64 z) ?_
      | refine oSfl (α := S46) (β := Int) (fun y z => { y with f1 := z }) (fun z => AV.int .i64 z) ?_
      | refine oWs ?_
      | refine oWl ?_
      | refine gYs ?_
      | refine gifs h (fun hc h => ?_) (fun hc h => ?_)
      | refine gfis h (fun hc h => ?_) (fun hc h => ?_)
      | (fail_if_success (refine g_lit ?_)); refine g_dt ?_
      | (fail_if_success (refine g_lit ?_)); refine g_df ?_)
    | (show E1 _ _ _ _ _ _ _; first
      | (show E1 _ _ _ (.region 13 _ _) _ _ _; refine fzo (.l 10 2) ?_)
      | refine c_opn 7 ?_
      | refine c_opn 9 ?_
      | (show E1 _ _ _ (.region 22 _ _) _ _ _; refine c_mixf [5, 15] [0, 1, 2, 3, 4, 9, 10, 11, 12] ?_)
      | (show E1 _ _ _ (.region 13 _ _) _ _ _; refine c_mixf [1, 4, 5] [0, 2] ?_)
      | (show E1 _ _ _ (.region 7 _ _) _ _ _; refine c_mixf [4, 11] [0, 1, 2, 3, 5, 6] ?_)
      | refine c_seq ?_
      | refine c_reg ?_
      | refine c_drwf ?_
      | refine c_drw ?_
      | refine c_blk ?_
      | refine c_exit ?_
      | refine c_ret ?_
      | refine c_skip ?_
      | refine c_tt ?_
      | refine c_ff ?_
      | refine c_if h (fun hc h => ?_) (fun hc h => ?_)
      | refine c_fi h (fun hc h => ?_) (fun hc h => ?_)
      | with_reducible refine mI h (fun hc h => ?_)
      | with_reducible refine mE h (fun hc h => ?_)
      | with_reducible refine mS h (fun h => ?_)
      | refine c_ifs h (fun hc h => ?_) (fun hc h => ?_)
      | refine c_fis h (fun hc h => ?_) (fun hc h => ?_)
      | (refine c_del ?_; refine lp6 (fun x9_0 x9_1 x9_2 x15 x16 x17 => [(15, .own 3 (x15.map Enc.enc)), (16, .sl (x16.map Enc.enc)), (17, .int .i64 x17), (9, .lptr 9 0)]) (fun x9_0 x9_1 x9_2 x15 x16 x17 => [(9, [.int .i64 x9_0, .int .i64 x9_1, .own 3 (x9_2.map Enc.enc)])]) (fun k_ x9_0 x9_1 x9_2 x15 x16 x17 => k_ ≤ k ∧ regletlaw16_MarksPlay.l0 k_ x9_0 x9_1 x9_2 x15 x16 x17 = some r) ⟨Nat.le_refl _, h⟩ ?_; intro k x9_0 x9_1 x9_2 x15 x16 x17 h; obtain ⟨hk, h⟩ := h; rcases k with _ | k; (simp only [regletlaw16_MarksPlay.l0] at h; cases h); simp only [regletlaw16_MarksPlay.l0, rdc46, rdc46', rq_T46, rq_T51, rq_T34, rq_bt, wrap64, bl, tl_eq, tl_lit, tl_nil, Bool.false_eq_true, if_false, if_true] at h)
      | (refine lp6 (fun x9_0 x9_1 x9_2 x15 x16 x17 => [(15, .own 3 (x15.map Enc.enc)), (16, .sl (x16.map Enc.enc)), (17, .int .i64 x17), (9, .lptr 9 0)]) (fun x9_0 x9_1 x9_2 x15 x16 x17 => [(9, [.int .i64 x9_0, .int .i64 x9_1, .own 3 (x9_2.map Enc.enc)])]) (fun k_ x9_0 x9_1 x9_2 x15 x16 x17 => k_ ≤ k ∧ regletlaw16_MarksPlay.l0 k_ x9_0 x9_1 x9_2 x15 x16 x17 = some r) ⟨Nat.le_refl _, h⟩ ?_; intro k x9_0 x9_1 x9_2 x15 x16 x17 h; obtain ⟨hk, h⟩ := h; rcases k with _ | k; (simp only [regletlaw16_MarksPlay.l0] at h; cases h); simp only [regletlaw16_MarksPlay.l0, rdc46, rdc46', rq_T46, rq_T51, rq_T34, rq_bt, wrap64, bl, tl_eq, tl_lit, tl_nil, Bool.false_eq_true, if_false, if_true] at h)
      | refine c_dt ?_
      | refine c_df ?_)
    | (show E2 _ _ _ _ _ _ _; first
      | refine n_seq ?_
      | (refine n_end hT ?_; cases h; first | exact ⟨rfl, rfl⟩ | exact ⟨congrArg AV.bool (by rw [Bool.eq_iff_iff]; simp), rfl⟩)
      | refine ag6 rfl ⟨by omega, h⟩)
    | (show E4 _ _ _ _ _ _ _; first
      | refine dQ vLe ?_
      | refine mB h (fun t ht h => dQ (vC (fun G => regletref16_All.does ht G)) ?_)
      | refine dQ vL ?_
      | refine dQ vLv ?_
      | refine dQ vLo ?_
      | refine dQ vE ?_
      | refine dQ vEv ?_
      | refine dQ vEo ?_
      | refine dQ vpt ?_
      | refine dQ vpf ?_
      | refine dW ?_
      | refine dE ?_
      | refine dM1 [4, 11] 4 [5, 6] [45, 46] [11] ?_
      | refine dM1 [11] 11 [12, 13, 14] [52, 53, 54] [] ?_
      | refine dM0 ?_
      | refine dM1 [1, 4, 5] 1 [2] [95] [4, 5] ?_
      | refine dM1 [4, 5] 4 [] [] [5] ?_
      | refine dM1 [5] 5 [] [] [] ?_
      | refine dM0 ?_
      | refine dM1 [5, 15] 5 [9, 10, 11, 12] [158, 159, 160, 161] [15] ?_
      | refine dM1 [15] 15 [] [] [] ?_
      | refine dM0 ?_
      | refine dYq vL ?_
      | refine dYq vLv ?_
      | refine dYq vLo ?_
      | refine dYq vE ?_
      | refine dYq vEv ?_
      | refine dYq vEo ?_
      | refine dYq vpt ?_
      | refine dYq vpf ?_
      | refine dYq vLe ?_
      | refine dN ?_
      | refine dNf ?_
      | refine dY ?_
      | refine dT ?_
      | refine dif_ h (fun hc h => ?_) (fun hc h => ?_)
      | refine dfi h (fun hc h => ?_) (fun hc h => ?_)
      | with_reducible refine mI h (fun hc h => ?_)
      | with_reducible refine mE h (fun hc h => ?_)
      | with_reducible refine mS h (fun h => ?_)
      | refine dif_s h (fun hc h => ?_) (fun hc h => ?_)
      | refine dfis h (fun hc h => ?_) (fun hc h => ?_))
    | (show E5 _ _ _ _ _ _ _; first
      | refine mB h (fun t ht h => tLg (marks_Set_Count.does ht) ?_)
      | refine mB h (fun t ht h => tL (marks_Set_All.does ht) ?_)
      | refine mB h (fun t ht h => tLg (marks_Set_All.does ht) ?_)
      | refine mB h (fun t ht h => tLg (marks_Set_Size.does ht) ?_)
      | refine mB h (fun t ht h => tC (vC (fun G => regletref16_All.does ht G)) ?_)
      | refine tSf (α := S46) (β := Int) (fun y z => { y with f1 := z }) (fun z => AV.int .i64 z) ?_
      | refine tQ vL ?_
      | refine tQ vLv ?_
      | refine tQ vLo ?_
      | refine tQ vE ?_
      | refine tQ vEv ?_
      | refine tQ vEo ?_
      | refine tQ vpt ?_
      | refine tQ vpf ?_
      | refine tYq vL ?_
      | refine tYq vLv ?_
      | refine tYq vLo ?_
      | refine tYq vE ?_
      | refine tYq vEv ?_
      | refine tYq vEo ?_
      | refine tYq vpt ?_
      | refine tYq vpf ?_
      | refine tN ?_
      | refine tNf ?_
      | refine tY ?_
      | refine tT ?_
      | refine tW ?_
      | refine n_drw [0, 1, 2, 6, 7, 8, 9, 10, 11, 12, 13, 14, 15, 16, 17, 19, 22, 56, 92, 101, 105, 144] ?_
      | refine n_stgf [4, 11] [0, 1, 2, 3, 5, 6] ?_
      | refine n_stgf [11] [5, 6, 7, 8, 9, 10, 12, 13, 14] ?_
      | refine n_stgf [] [12, 13, 14, 15, 16] ?_
      | refine n_stgf [1, 4, 5] [0, 2] ?_
      | refine n_stgf [4, 5] [2, 3] ?_
      | refine n_stgf [5] [] ?_
      | refine n_stgf [] [] ?_
      | refine n_stgf [5, 15] [0, 1, 2, 3, 4, 9, 10, 11, 12] ?_
      | refine n_stgf [15] [6, 7, 8, 9, 10, 11, 12, 13, 14] ?_
      | refine n_stgf [] [] ?_
      | refine tif h (fun hc h => ?_) (fun hc h => ?_)
      | refine tfi h (fun hc h => ?_) (fun hc h => ?_)
      | with_reducible refine mI h (fun hc h => ?_)
      | with_reducible refine mE h (fun hc h => ?_)
      | with_reducible refine mS h (fun h => ?_))
    | with_reducible refine mI h (fun hc h => ?_)
    | with_reducible refine mE h (fun hc h => ?_)
    | with_reducible refine mS h (fun h => ?_)
    | refine mT h (fun h => ?_)
    | refine mF h (fun h => ?_)
    | (cases h; done)
end Go.AL.X
