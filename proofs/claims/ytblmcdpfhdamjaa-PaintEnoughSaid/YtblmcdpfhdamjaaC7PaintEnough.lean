/- What each function does: it answers as its model tells, and changes nothing (in 11 texts, numbered 8). -/
import Derived.Test.YtblmcdpfhdamjaaC5PaintEnough
import Derived.Test.YtblmcdpfhdamjaaTPaintEnough
namespace Go.AL.X
open Go.Proofs Go.Proofs.Ytblmcdpfhdamjaa.PPaintEnough
set_option linter.unusedVariables false
set_option linter.unusedSimpArgs false
set_option maxRecDepth 100000
set_option maxHeartbeats 16000000
theorem paint_Damage.does {k : Nat} {l0 : List (S66)} {l1 : List (S113)} {r : ((List (S90)))} (h : paint_Damage.f k l0 l1 = some r) (G : Objs) : Does Try.prog true 30 [.sl (l0.map Enc.enc), .sl (l1.map Enc.enc)] G (fun x _ => x = .sl (r.map Enc.enc)) := by
  unfold paint_Damage.f at h
  try simp only [rdc124, rdc124', rq_T134, rq_L2, rq_T87, rq_L5, rq_T124, rq_T89, rq_T99, rq_T38, rq_T90, rq_T56, rq_L13, rq_T25, rq_L15, rq_T66, rq_T113, rq_L18, rq_I, rq_bt, wrap64, bl, tl_eq, tl_lit, tl_nil, Bool.false_eq_true, if_false, if_true] at h
  refine does_walk 2 (F := cfg [(6, 45), (7, 13)]) tb_ok mixed Try.func30 rfl (fun T hT => ?_)
  repeat' first
    | (show E3 _ _ _ _ _ _ _ _; first
      | refine oQ vL ?_
      | refine oQ vLv ?_
      | refine oQ vE ?_
      | refine oQ vEv ?_
      | refine oQ vEo ?_
      | refine oQ vS ?_
      | refine oQ vmax ?_
      | refine oQ vmin ?_
      | refine oQ vpt ?_
      | refine oQ vpf ?_
      | refine oLe vLe ?_
      | refine oBS ?_
      | refine oB ?_
      | refine oLd ?_
      | refine oW ?_
      | refine n_reg [0, 1, 4, 5, 7, 8, 9, 10, 11, 12, 13, 14, 15, 16, 17, 18, 67, 95, 97, 111] ?_
      | refine gYq vL ?_
      | refine gYq vLv ?_
      | refine gYq vE ?_
      | refine gYq vEv ?_
      | refine gYq vEo ?_
      | refine gYq vS ?_
      | refine gYq vmax ?_
      | refine gYq vmin ?_
      | refine gYq vpt ?_
      | refine gYq vpf ?_
      | refine gLe vLe ?_
      | refine gN ?_
      | refine gNf ?_
      | refine gY ?_
      | refine gT ?_
      | refine oAv (⟨_, _, _⟩ : S90) ?_
      | refine oA (⟨_, _, _⟩ : S90) ?_
      | refine oAe (⟨_, _, _⟩ : S90) ?_
      | refine oAl (⟨_, _, _⟩ : S90) ?_
      | refine oMv ?_
      | refine oM ?_
      | refine oMe ?_
      | refine oMl ?_
      | refine mB h (fun t ht h => oC (vC (fun G => paint_reach.does ht G)) ?_)
      | refine fz 83 ?_
      | refine fz 90 ?_
      | refine gif h (fun hc h => ?_) (fun hc h => ?_)
      | refine gfi h (fun hc h => ?_) (fun hc h => ?_)
      | with_reducible refine mI h (fun hc h => ?_)
      | with_reducible refine mE h (fun hc h => ?_)
      | with_reducible refine mS h (fun h => ?_)
      | refine oWs ?_
      | refine oWl ?_
      | refine gYs ?_
      | refine gifs h (fun hc h => ?_) (fun hc h => ?_)
      | refine gfis h (fun hc h => ?_) (fun hc h => ?_)
      | (fail_if_success (refine g_lit ?_)); refine g_dt ?_
      | (fail_if_success (refine g_lit ?_)); refine g_df ?_)
    | (show E1 _ _ _ _ _ _ _; first
      | refine c_seq ?_
      | refine c_reg ?_
      | refine c_drwf ?_
      | refine c_drw ?_
      | refine c_blk ?_
      | refine c_exit ?_
      | refine c_ret ?_
      | refine c_skip ?_
      | refine c_tt ?_
      | refine c_ff ?_
      | refine c_if h (fun hc h => ?_) (fun hc h => ?_)
      | refine c_fi h (fun hc h => ?_) (fun hc h => ?_)
      | with_reducible refine mI h (fun hc h => ?_)
      | with_reducible refine mE h (fun hc h => ?_)
      | with_reducible refine mS h (fun h => ?_)
      | refine c_ifs h (fun hc h => ?_) (fun hc h => ?_)
      | refine c_fis h (fun hc h => ?_) (fun hc h => ?_)
      | (refine lp5 (fun x0 x5 x15 x16 x17 => [(0, .sl (x0.map Enc.enc)), (5, .own 3 (x5.map Enc.enc)), (15, .sl (x15.map Enc.enc)), (16, .int .i64 x16), (17, .int .i64 x17)]) (fun x0 x5 x15 x16 x17 => []) (fun k_ x0 x5 x15 x16 x17 => k_ ≤ k ∧ paint_Damage.l0 k_ x0 x5 x15 x16 x17 = some r) ⟨Nat.le_refl _, h⟩ ?_; intro k x0 x5 x15 x16 x17 h; obtain ⟨hk, h⟩ := h; rcases k with _ | k; (simp only [paint_Damage.l0] at h; cases h); simp only [paint_Damage.l0, rdc124, rdc124', rq_T134, rq_L2, rq_T87, rq_L5, rq_T124, rq_T89, rq_T99, rq_T38, rq_T90, rq_T56, rq_L13, rq_T25, rq_L15, rq_T66, rq_T113, rq_L18, rq_I, rq_bt, wrap64, bl, tl_eq, tl_lit, tl_nil, Bool.false_eq_true, if_false, if_true] at h)
      | refine c_dt ?_
      | refine c_df ?_)
    | (show E2 _ _ _ _ _ _ _; first
      | refine n_seq ?_
      | (refine n_end hT ?_; cases h; first | rfl | exact congrArg AV.bool (by rw [Bool.eq_iff_iff]; simp))
      | refine ag5 rfl ⟨by omega, h⟩)
    | (show E4 _ _ _ _ _ _ _; first
      | refine dQ vLe ?_
      | refine dQ vL ?_
      | refine dQ vLv ?_
      | refine dQ vE ?_
      | refine dQ vEv ?_
      | refine dQ vEo ?_
      | refine dQ vS ?_
      | refine dQ vmax ?_
      | refine dQ vmin ?_
      | refine dQ vpt ?_
      | refine dQ vpf ?_
      | refine dW ?_
      | refine dE ?_
      | refine dYq vL ?_
      | refine dYq vLv ?_
      | refine dYq vE ?_
      | refine dYq vEv ?_
      | refine dYq vEo ?_
      | refine dYq vS ?_
      | refine dYq vmax ?_
      | refine dYq vmin ?_
      | refine dYq vpt ?_
      | refine dYq vpf ?_
      | refine dYq vLe ?_
      | refine dN ?_
      | refine dNf ?_
      | refine dY ?_
      | refine dT ?_
      | refine dif_ h (fun hc h => ?_) (fun hc h => ?_)
      | refine dfi h (fun hc h => ?_) (fun hc h => ?_)
      | with_reducible refine mI h (fun hc h => ?_)
      | with_reducible refine mE h (fun hc h => ?_)
      | with_reducible refine mS h (fun h => ?_)
      | refine dif_s h (fun hc h => ?_) (fun hc h => ?_)
      | refine dfis h (fun hc h => ?_) (fun hc h => ?_))
    | (show E5 _ _ _ _ _ _ _; first
      | refine tQ vL ?_
      | refine tQ vLv ?_
      | refine tQ vE ?_
      | refine tQ vEv ?_
      | refine tQ vEo ?_
      | refine tQ vS ?_
      | refine tQ vmax ?_
      | refine tQ vmin ?_
      | refine tQ vpt ?_
      | refine tQ vpf ?_
      | refine tYq vL ?_
      | refine tYq vLv ?_
      | refine tYq vE ?_
      | refine tYq vEv ?_
      | refine tYq vEo ?_
      | refine tYq vS ?_
      | refine tYq vmax ?_
      | refine tYq vmin ?_
      | refine tYq vpt ?_
      | refine tYq vpf ?_
      | refine tN ?_
      | refine tNf ?_
      | refine tY ?_
      | refine tT ?_
      | refine tW ?_
      | refine n_drw [0, 1, 4, 5, 7, 8, 9, 10, 11, 12, 13, 14, 15, 16, 17, 18, 67, 95, 97, 111] ?_
      | refine tif h (fun hc h => ?_) (fun hc h => ?_)
      | refine tfi h (fun hc h => ?_) (fun hc h => ?_)
      | with_reducible refine mI h (fun hc h => ?_)
      | with_reducible refine mE h (fun hc h => ?_)
      | with_reducible refine mS h (fun h => ?_))
    | with_reducible refine mI h (fun hc h => ?_)
    | with_reducible refine mE h (fun hc h => ?_)
    | with_reducible refine mS h (fun h => ?_)
    | (rcases k with _ | k; (simp only [paint_Damage.j1] at h; cases h); simp only [paint_Damage.j1, rdc124, rdc124', rq_T134, rq_L2, rq_T87, rq_L5, rq_T124, rq_T89, rq_T99, rq_T38, rq_T90, rq_T56, rq_L13, rq_T25, rq_L15, rq_T66, rq_T113, rq_L18, rq_I, rq_bt, wrap64, bl, tl_eq, tl_lit, tl_nil, Bool.false_eq_true, if_false, if_true] at h)
    | (rcases k with _ | k; (simp only [paint_Damage.j2] at h; cases h); simp only [paint_Damage.j2, rdc124, rdc124', rq_T134, rq_L2, rq_T87, rq_L5, rq_T124, rq_T89, rq_T99, rq_T38, rq_T90, rq_T56, rq_L13, rq_T25, rq_L15, rq_T66, rq_T113, rq_L18, rq_I, rq_bt, wrap64, bl, tl_eq, tl_lit, tl_nil, Bool.false_eq_true, if_false, if_true] at h)
    | refine mT h (fun h => ?_)
    | refine mF h (fun h => ?_)
    | (cases h; done)
end Go.AL.X
