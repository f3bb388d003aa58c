/- What each function does: it answers as its model tells, and changes nothing (in 11 texts, numbered 9). -/
import Derived.Test.YtblmcdpfhdamjaaC6PaintEnough
import Derived.Test.YtblmcdpfhdamjaaTPaintEnough
namespace Go.AL.X
open Go.Proofs Go.Proofs.Ytblmcdpfhdamjaa.PPaintEnough
set_option linter.unusedVariables false
set_option linter.unusedSimpArgs false
set_option maxRecDepth 100000
set_option maxHeartbeats 16000000
theorem regletref14_Diff.does {k : Nat} {l0 : List (S66)} {l1 : List (S66)} {a2 : Int} {r : ((List (S113)))} (h : regletref14_Diff.f k l0 l1 a2 = some r) (G : Objs) : Does Try.prog true 31 [.sl (l0.map Enc.enc), .sl (l1.map Enc.enc), .int .i64 a2] G (fun x _ => x = .sl (r.map Enc.enc)) := by
  unfold regletref14_Diff.f at h
  try simp only [rdc124, rdc124', rq_T134, rq_L2, rq_T87, rq_L5, rq_T124, rq_T89, rq_T99, rq_T38, rq_T90, rq_T56, rq_L13, rq_T25, rq_L15, rq_T66, rq_T113, rq_L18, rq_I, rq_bt, wrap64, bl, tl_eq, tl_lit, tl_nil, Bool.false_eq_true, if_false, if_true] at h
  refine does_walk 3 (F := cfg [(5, 8), (6, 11)]) tb_ok mixed Try.func31 rfl (fun T hT => ?_)
  repeat' first
    | (show E3 _ _ _ _ _ _ _ _; first
      | refine oQ vL ?_
      | refine oQ vLv ?_
      | refine oQ vE ?_
      | refine oQ vEv ?_
      | refine oQ vEo ?_
      | refine oQ vS ?_
      | refine oQ vmax ?_
      | refine oQ vpt ?_
      | refine oQ vpf ?_
      | refine oLe vLe ?_
      | refine oBS ?_
      | refine oB ?_
      | refine oLd ?_
      | refine oW ?_
      | refine n_reg [0, 1, 2, 6, 7, 8, 9, 10, 11, 12, 13, 14, 26, 37, 78, 96] ?_
      | refine gYq vL ?_
      | refine gYq vLv ?_
      | refine gYq vE ?_
      | refine gYq vEv ?_
      | refine gYq vEo ?_
      | refine gYq vS ?_
      | refine gYq vmax ?_
      | refine gYq vpt ?_
      | refine gYq vpf ?_
      | refine gLe vLe ?_
      | refine gN ?_
      | refine gNf ?_
      | refine gY ?_
      | refine gT ?_
      | refine oAv (⟨_, _, _, _, _⟩ : S113) ?_
      | refine oA (⟨_, _, _, _, _⟩ : S113) ?_
      | refine oAe (⟨_, _, _, _, _⟩ : S113) ?_
      | refine oAv (⟨_, _, _, _, []⟩ : S113) ?_
      | refine oA (⟨_, _, _, _, []⟩ : S113) ?_
      | refine oAe (⟨_, _, _, _, []⟩ : S113) ?_
      | refine oMv ?_
      | refine oM ?_
      | refine oMe ?_
      | refine mB h (fun t ht h => oC (vC (fun G => regletref14_Ends.does ht G)) ?_)
      | refine fz 49 ?_
      | refine fz 50 ?_
      | refine gif h (fun hc h => ?_) (fun hc h => ?_)
      | refine gfi h (fun hc h => ?_) (fun hc h => ?_)
      | with_reducible refine mI h (fun hc h => ?_)
      | with_reducible refine mE h (fun hc h => ?_)
      | with_reducible refine mS h (fun h => ?_)
      | refine oWs ?_
      | refine gYs ?_
      | refine gifs h (fun hc h => ?_) (fun hc h => ?_)
      | refine gfis h (fun hc h => ?_) (fun hc h => ?_)
      | (fail_if_success (refine g_lit ?_)); refine g_dt ?_
      | (fail_if_success (refine g_lit ?_)); refine g_df ?_)
    | (show E1 _ _ _ _ _ _ _; first
      | refine c_seq ?_
      | refine c_reg ?_
      | refine c_drwf ?_
      | refine c_drw ?_
      | refine c_blk ?_
      | refine c_exit ?_
      | refine c_ret ?_
      | refine c_skip ?_
      | refine c_tt ?_
      | refine c_ff ?_
      | refine c_if h (fun hc h => ?_) (fun hc h => ?_)
      | refine c_fi h (fun hc h => ?_) (fun hc h => ?_)
      | with_reducible refine mI h (fun hc h => ?_)
      | with_reducible refine mE h (fun hc h => ?_)
      | with_reducible refine mS h (fun h => ?_)
      | refine c_ifs h (fun hc h => ?_) (fun hc h => ?_)
      | refine c_fis h (fun hc h => ?_) (fun hc h => ?_)
      | (refine lp4 (fun x0 x1 x7 x8 => [(0, .sl (x0.map Enc.enc)), (1, .sl (x1.map Enc.enc)), (7, .own 5 (x7.map Enc.enc)), (8, .int .i64 x8)]) (fun x0 x1 x7 x8 => []) (fun k_ x0 x1 x7 x8 => k_ ≤ k ∧ regletref14_Diff.l0 k_ x0 x1 x7 x8 = some r) ⟨Nat.le_refl _, h⟩ ?_; intro k x0 x1 x7 x8 h; obtain ⟨hk, h⟩ := h; rcases k with _ | k; (simp only [regletref14_Diff.l0] at h; cases h); simp only [regletref14_Diff.l0, rdc124, rdc124', rq_T134, rq_L2, rq_T87, rq_L5, rq_T124, rq_T89, rq_T99, rq_T38, rq_T90, rq_T56, rq_L13, rq_T25, rq_L15, rq_T66, rq_T113, rq_L18, rq_I, rq_bt, wrap64, bl, tl_eq, tl_lit, tl_nil, Bool.false_eq_true, if_false, if_true] at h)
      | (refine lp4 (fun x0 x1 x7 x13 => [(0, .sl (x0.map Enc.enc)), (1, .sl (x1.map Enc.enc)), (7, .own 5 (x7.map Enc.enc)), (13, .int .i64 x13)]) (fun x0 x1 x7 x13 => []) (fun k_ x0 x1 x7 x13 => k_ ≤ k ∧ regletref14_Diff.l1 k_ x0 x1 x7 x13 = some r) ⟨Nat.le_refl _, h⟩ ?_; intro k x0 x1 x7 x13 h; obtain ⟨hk, h⟩ := h; rcases k with _ | k; (simp only [regletref14_Diff.l1] at h; cases h); simp only [regletref14_Diff.l1, rdc124, rdc124', rq_T134, rq_L2, rq_T87, rq_L5, rq_T124, rq_T89, rq_T99, rq_T38, rq_T90, rq_T56, rq_L13, rq_T25, rq_L15, rq_T66, rq_T113, rq_L18, rq_I, rq_bt, wrap64, bl, tl_eq, tl_lit, tl_nil, Bool.false_eq_true, if_false, if_true] at h)
      | (refine lp3 (fun x0 x7 x14 => [(0, .sl (x0.map Enc.enc)), (7, .own 5 (x7.map Enc.enc)), (14, .int .i64 x14)]) (fun x0 x7 x14 => []) (fun k_ x0 x7 x14 => k_ ≤ k ∧ regletref14_Diff.l2 k_ x0 x7 x14 = some r) ⟨Nat.le_refl _, h⟩ ?_; intro k x0 x7 x14 h; obtain ⟨hk, h⟩ := h; rcases k with _ | k; (simp only [regletref14_Diff.l2] at h; cases h); simp only [regletref14_Diff.l2, rdc124, rdc124', rq_T134, rq_L2, rq_T87, rq_L5, rq_T124, rq_T89, rq_T99, rq_T38, rq_T90, rq_T56, rq_L13, rq_T25, rq_L15, rq_T66, rq_T113, rq_L18, rq_I, rq_bt, wrap64, bl, tl_eq, tl_lit, tl_nil, Bool.false_eq_true, if_false, if_true] at h)
      | refine c_dt ?_
      | refine c_df ?_)
    | (show E2 _ _ _ _ _ _ _; first
      | refine n_seq ?_
      | (refine n_end hT ?_; cases h; first | rfl | exact congrArg AV.bool (by rw [Bool.eq_iff_iff]; simp))
      | refine ag3 rfl ⟨by omega, h⟩
      | refine ag4 rfl ⟨by omega, h⟩)
    | (show E4 _ _ _ _ _ _ _; first
      | refine dQ vLe ?_
      | refine mB h (fun t ht h => dQ (vC (fun G => regletref14_Page.does ht G)) ?_)
      | refine dQ vL ?_
      | refine dQ vLv ?_
      | refine dQ vE ?_
      | refine dQ vEv ?_
      | refine dQ vEo ?_
      | refine dQ vS ?_
      | refine dQ vmax ?_
      | refine dQ vpt ?_
      | refine dQ vpf ?_
      | refine dW ?_
      | refine dE ?_)
    | (show E5 _ _ _ _ _ _ _; first
      | refine mB h (fun t ht h => tC (vC (fun G => regletref14_Page.does ht G)) ?_)
      | refine tQ vL ?_
      | refine tQ vLv ?_
      | refine tQ vE ?_
      | refine tQ vEv ?_
      | refine tQ vEo ?_
      | refine tQ vS ?_
      | refine tQ vmax ?_
      | refine tQ vpt ?_
      | refine tQ vpf ?_
      | refine tW ?_
      | refine n_drw [0, 1, 2, 6, 7, 8, 9, 10, 11, 12, 13, 14, 26, 37, 78, 96] ?_)
    | with_reducible refine mI h (fun hc h => ?_)
    | with_reducible refine mE h (fun hc h => ?_)
    | with_reducible refine mS h (fun h => ?_)
    | (rcases k with _ | k; (simp only [regletref14_Diff.j1] at h; cases h); simp only [regletref14_Diff.j1, rdc124, rdc124', rq_T134, rq_L2, rq_T87, rq_L5, rq_T124, rq_T89, rq_T99, rq_T38, rq_T90, rq_T56, rq_L13, rq_T25, rq_L15, rq_T66, rq_T113, rq_L18, rq_I, rq_bt, wrap64, bl, tl_eq, tl_lit, tl_nil, Bool.false_eq_true, if_false, if_true] at h)
    | refine mT h (fun h => ?_)
    | refine mF h (fun h => ?_)
    | (cases h; done)
end Go.AL.X
