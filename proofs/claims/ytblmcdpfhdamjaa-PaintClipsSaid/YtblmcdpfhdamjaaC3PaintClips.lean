/- What each function does: it answers as its model tells, and changes nothing (in 8 texts, numbered 4). -/
import Derived.Test.YtblmcdpfhdamjaaC0PaintClips
import Derived.Test.YtblmcdpfhdamjaaC1PaintClips
import Derived.Test.YtblmcdpfhdamjaaC2PaintClips
import Derived.Test.YtblmcdpfhdamjaaTPaintClips
namespace Go.AL.X
open Go.Proofs Go.Proofs.Ytblmcdpfhdamjaa.PPaintClips
set_option linter.unusedVariables false
set_option linter.unusedSimpArgs false
set_option maxRecDepth 100000
set_option maxHeartbeats 16000000
theorem scaled_size.does {a0 : Int} {r : (Int)} (h : scaled_size.f a0 = some r) (G : Objs) : Does Try.prog true 118 [.int .i64 a0] G (fun x _ => x = .int .u64 r) := by
  unfold scaled_size.f at h
  try simp only [rdc124, rdc124', rq_T134, rq_L2, rq_T87, rq_L5, rq_T124, rq_T89, rq_T99, rq_T38, rq_T90, rq_T56, rq_I, rq_bt, wrap64, bl, tl_eq, tl_lit, tl_nil, Bool.false_eq_true, if_false, if_true] at h
  refine does_walk 1 (F := cfg []) tb_ok mixed Try.func118 rfl (fun T hT => ?_)
  repeat' first
    | (show E3 _ _ _ _ _ _ _ _; first
      | refine oW ?_
      | refine n_reg [0, 2, 6] ?_
      | refine mB h (fun t ht h => oC (vC (fun G => scaled_Clamp.does ht G)) ?_)
      | with_reducible refine mI h (fun hc h => ?_)
      | with_reducible refine mE h (fun hc h => ?_)
      | with_reducible refine mS h (fun h => ?_)
      | refine oWs ?_)
    | (show E1 _ _ _ _ _ _ _; first
      | refine c_seq ?_
      | refine c_reg ?_
      | refine c_ret ?_
      | refine c_skip ?_
      | refine c_tt ?_
      | refine c_ff ?_
      | refine c_if h (fun hc h => ?_) (fun hc h => ?_)
      | refine c_fi h (fun hc h => ?_) (fun hc h => ?_)
      | with_reducible refine mI h (fun hc h => ?_)
      | with_reducible refine mE h (fun hc h => ?_)
      | with_reducible refine mS h (fun h => ?_)
      | refine c_ifs h (fun hc h => ?_) (fun hc h => ?_)
      | refine c_fis h (fun hc h => ?_) (fun hc h => ?_)
      | refine c_dt ?_
      | refine c_df ?_)
    | (show E2 _ _ _ _ _ _ _; first
      | refine n_seq ?_
      | (refine n_end hT ?_; cases h; first | rfl | exact congrArg AV.bool (by rw [Bool.eq_iff_iff]; simp)))
    | with_reducible refine mI h (fun hc h => ?_)
    | with_reducible refine mE h (fun hc h => ?_)
    | with_reducible refine mS h (fun h => ?_)
    | refine mT h (fun h => ?_)
    | refine mF h (fun h => ?_)
    | (cases h; done)
theorem bits_LeadingZeros64.does {k : Nat} {a0 : Int} {r : (Int)} (h : bits_LeadingZeros64.f k a0 = some r) (G : Objs) : Does Try.prog true 122 [.int .u64 a0] G (fun x _ => x = .int .i64 r) := by
  unfold bits_LeadingZeros64.f at h
  try simp only [rdc124, rdc124', rq_T134, rq_L2, rq_T87, rq_L5, rq_T124, rq_T89, rq_T99, rq_T38, rq_T90, rq_T56, rq_I, rq_bt, wrap64, bl, tl_eq, tl_lit, tl_nil, Bool.false_eq_true, if_false, if_true] at h
  refine does_walk 1 (F := cfg []) tb_ok mixed Try.func122 rfl (fun T hT => ?_)
  repeat' first
    | (show E3 _ _ _ _ _ _ _ _; first
      | refine oW ?_
      | refine n_reg [0, 2] ?_
      | refine mB h (fun t ht h => oC (vC (fun G => bits_Len64.does ht G)) ?_)
      | with_reducible refine mI h (fun hc h => ?_)
      | with_reducible refine mE h (fun hc h => ?_)
      | with_reducible refine mS h (fun h => ?_)
      | refine oWs ?_)
    | (show E1 _ _ _ _ _ _ _; first
      | refine c_seq ?_
      | refine c_reg ?_
      | refine c_ret ?_)
    | (show E2 _ _ _ _ _ _ _; first
      | refine n_seq ?_
      | (refine n_end hT ?_; cases h; first | rfl | exact congrArg AV.bool (by rw [Bool.eq_iff_iff]; simp)))
    | with_reducible refine mI h (fun hc h => ?_)
    | with_reducible refine mE h (fun hc h => ?_)
    | with_reducible refine mS h (fun h => ?_)
    | refine mT h (fun h => ?_)
    | refine mF h (fun h => ?_)
    | (cases h; done)
theorem paint_drawn.does {k : Nat} {a0 : Int} {r : (Bool)} (h : paint_drawn.f k a0 = some r) (G : Objs) : Does Try.prog true 42 [.int .i32 a0] G (fun x _ => x = .bool r) := by
  unfold paint_drawn.f at h
  try simp only [rdc124, rdc124', rq_T134, rq_L2, rq_T87, rq_L5, rq_T124, rq_T89, rq_T99, rq_T38, rq_T90, rq_T56, rq_I, rq_bt, wrap64, bl, tl_eq, tl_lit, tl_nil, Bool.false_eq_true, if_false, if_true] at h
  refine does_walk 1 (F := cfg []) tb_ok mixed Try.func42 rfl (fun T hT => ?_)
  repeat' first
    | (show E3 _ _ _ _ _ _ _ _; first
      | refine oQ vpt ?_
      | refine oQ vpf ?_
      | refine oW ?_
      | refine n_reg [0, 2, 3] ?_
      | refine gYq vpt ?_
      | refine gYq vpf ?_
      | refine gN ?_
      | refine gNf ?_
      | refine gY ?_
      | refine gT ?_
      | refine mB h (fun t ht h => oC (vC (fun G => runes_Kind.does ht G)) ?_)
      | refine gif h (fun hc h => ?_) (fun hc h => ?_)
      | refine gfi h (fun hc h => ?_) (fun hc h => ?_)
      | with_reducible refine mI h (fun hc h => ?_)
      | with_reducible refine mE h (fun hc h => ?_)
      | with_reducible refine mS h (fun h => ?_)
      | refine oWs ?_
      | refine gYs ?_
      | refine gifs h (fun hc h => ?_) (fun hc h => ?_)
      | refine gfis h (fun hc h => ?_) (fun hc h => ?_)
      | (fail_if_success (refine g_lit ?_)); refine g_dt ?_
      | (fail_if_success (refine g_lit ?_)); refine g_df ?_)
    | (show E1 _ _ _ _ _ _ _; first
      | refine c_seq ?_
      | refine c_reg ?_
      | refine c_ret ?_)
    | (show E2 _ _ _ _ _ _ _; first
      | refine n_seq ?_
      | (refine n_end hT ?_; cases h; first | rfl | exact congrArg AV.bool (by rw [Bool.eq_iff_iff]; simp)))
    | with_reducible refine mI h (fun hc h => ?_)
    | with_reducible refine mE h (fun hc h => ?_)
    | with_reducible refine mS h (fun h => ?_)
    | refine mT h (fun h => ?_)
    | refine mF h (fun h => ?_)
    | (cases h; done)
theorem scaled_Neg.does {a0 : Int} {r : (Int)} (h : scaled_Neg.f a0 = some r) (G : Objs) : Does Try.prog true 75 [.int .i64 a0] G (fun x _ => x = .int .i64 r) := by
  unfold scaled_Neg.f at h
  try simp only [rdc124, rdc124', rq_T134, rq_L2, rq_T87, rq_L5, rq_T124, rq_T89, rq_T99, rq_T38, rq_T90, rq_T56, rq_I, rq_bt, wrap64, bl, tl_eq, tl_lit, tl_nil, Bool.false_eq_true, if_false, if_true] at h
  refine does_walk 1 (F := cfg []) tb_ok mixed Try.func75 rfl (fun T hT => ?_)
  repeat' first
    | (show E3 _ _ _ _ _ _ _ _; first
      | refine oW ?_
      | refine n_reg [0, 2] ?_
      | refine mB h (fun t ht h => oC (vC (fun G => scaled_Clamp.does ht G)) ?_)
      | with_reducible refine mI h (fun hc h => ?_)
      | with_reducible refine mE h (fun hc h => ?_)
      | with_reducible refine mS h (fun h => ?_)
      | refine oWs ?_)
    | (show E1 _ _ _ _ _ _ _; first
      | refine c_seq ?_
      | refine c_reg ?_
      | refine c_ret ?_)
    | (show E2 _ _ _ _ _ _ _; first
      | refine n_seq ?_
      | (refine n_end hT ?_; cases h; first | rfl | exact congrArg AV.bool (by rw [Bool.eq_iff_iff]; simp)))
    | with_reducible refine mI h (fun hc h => ?_)
    | with_reducible refine mE h (fun hc h => ?_)
    | with_reducible refine mS h (fun h => ?_)
    | refine mT h (fun h => ?_)
    | refine mF h (fun h => ?_)
    | (cases h; done)
theorem paint_Window_Seen.does {k : Nat} {a0_0 : Int} {a0_1 : Int} {a0_2 : Int} {a1 : Int} {a2 : Int} {r : ((List (S90)))} (h : paint_Window_Seen.f k a0_0 a0_1 a0_2 a1 a2 = some r) (G : Objs) : Does Try.prog true 23 [.agg [.int .i64 a0_0, .int .i64 a0_1, .int .i64 a0_2], .int .i64 a1, .int .i64 a2] G (fun x _ => x = .sl (r.map Enc.enc)) := by
  unfold paint_Window_Seen.f at h
  try simp only [rdc124, rdc124', rq_T134, rq_L2, rq_T87, rq_L5, rq_T124, rq_T89, rq_T99, rq_T38, rq_T90, rq_T56, rq_I, rq_bt, wrap64, bl, tl_eq, tl_lit, tl_nil, Bool.false_eq_true, if_false, if_true] at h
  refine does_walk 3 (F := cfg [(13, 11)]) tb_ok mixed Try.func23 rfl (fun T hT => ?_)
  repeat' first
    | (show E3 _ _ _ _ _ _ _ _; first
      | refine oQ vmax ?_
      | refine oQ vmin ?_
      | refine oBS ?_
      | refine oB ?_
      | refine oLd ?_
      | refine oW ?_
      | refine n_reg [0, 1, 2, 3, 6, 7, 8, 9, 10, 12, 13, 15, 21, 40, 51, 64] ?_
      | refine oAv (⟨_, _, _⟩ : S90) ?_
      | refine oA (⟨_, _, _⟩ : S90) ?_
      | refine oAe (⟨_, _, _⟩ : S90) ?_
      | refine oAl (⟨_, _, _⟩ : S90) ?_
      | refine oMv ?_
      | refine oM ?_
      | refine oMe ?_
      | refine oMl ?_
      | refine mB h (fun t ht h => oC (vC (fun G => paint_Window_Top.does ht G)) ?_)
      | refine mB h (fun t ht h => oC (vC (fun G => paint_Window_Size.does ht G)) ?_)
      | refine fz 19 ?_
      | refine fz 22 ?_
      | refine fz 44 ?_
      | refine fz 45 ?_
      | with_reducible refine mI h (fun hc h => ?_)
      | with_reducible refine mE h (fun hc h => ?_)
      | with_reducible refine mS h (fun h => ?_)
      | refine oWs ?_
      | refine oWl ?_)
    | (show E1 _ _ _ _ _ _ _; first
      | refine c_seq ?_
      | refine c_reg ?_
      | refine c_drwf ?_
      | refine c_drw ?_
      | refine c_blk ?_
      | refine c_exit ?_
      | refine c_ret ?_
      | refine c_skip ?_
      | refine c_tt ?_
      | refine c_ff ?_
      | refine c_if h (fun hc h => ?_) (fun hc h => ?_)
      | refine c_fi h (fun hc h => ?_) (fun hc h => ?_)
      | with_reducible refine mI h (fun hc h => ?_)
      | with_reducible refine mE h (fun hc h => ?_)
      | with_reducible refine mS h (fun h => ?_)
      | refine c_ifs h (fun hc h => ?_) (fun hc h => ?_)
      | refine c_fis h (fun hc h => ?_) (fun hc h => ?_)
      | (refine lp7 (fun x1 x7 x8 x9 x285000 x285001 x285002 => [(1, .int .i64 x1), (7, .own 3 (x7.map Enc.enc)), (8, .int .i64 x8), (9, .int .i64 x9), (3, .lptr 3 0)]) (fun x1 x7 x8 x9 x285000 x285001 x285002 => [(3, [.int .i64 x285000, .int .i64 x285001, .int .i64 x285002])]) (fun k_ x1 x7 x8 x9 x285000 x285001 x285002 => k_ ≤ k ∧ paint_Window_Seen.l0 k_ x1 x7 x8 x9 x285000 x285001 x285002 = some r) ⟨Nat.le_refl _, h⟩ ?_; intro k x1 x7 x8 x9 x285000 x285001 x285002 h; obtain ⟨hk, h⟩ := h; rcases k with _ | k; (simp only [paint_Window_Seen.l0] at h; cases h); simp only [paint_Window_Seen.l0, rdc124, rdc124', rq_T134, rq_L2, rq_T87, rq_L5, rq_T124, rq_T89, rq_T99, rq_T38, rq_T90, rq_T56, rq_I, rq_bt, wrap64, bl, tl_eq, tl_lit, tl_nil, Bool.false_eq_true, if_false, if_true] at h)
      | refine c_dt ?_
      | refine c_df ?_)
    | (show E2 _ _ _ _ _ _ _; first
      | refine n_seq ?_
      | (refine n_end hT ?_; cases h; first | rfl | exact congrArg AV.bool (by rw [Bool.eq_iff_iff]; simp))
      | refine ag7 rfl ⟨by omega, h⟩)
    | (show E4 _ _ _ _ _ _ _; first
      | refine dQ vmax ?_
      | refine dQ vmin ?_
      | refine dW ?_
      | refine dE ?_)
    | (show E5 _ _ _ _ _ _ _; first
      | refine tQ vmax ?_
      | refine tQ vmin ?_
      | refine tW ?_
      | refine n_drw [0, 1, 2, 3, 6, 7, 8, 9, 10, 12, 13, 15, 21, 40, 51, 64] ?_)
    | with_reducible refine mI h (fun hc h => ?_)
    | with_reducible refine mE h (fun hc h => ?_)
    | with_reducible refine mS h (fun h => ?_)
    | refine mT h (fun h => ?_)
    | refine mF h (fun h => ?_)
    | (cases h; done)
theorem paint_Window_At.does {k : Nat} {a0_0 : Int} {a0_1 : Int} {a0_2 : Int} {a1 : Int} {r : (Int × Int × Bool)} (h : paint_Window_At.f k a0_0 a0_1 a0_2 a1 = some r) (G : Objs) : Does Try.prog true 25 [.agg [.int .i64 a0_0, .int .i64 a0_1, .int .i64 a0_2], .int .i64 a1] G (fun x _ => x = .tup [.int .i64 r.1, .int .i64 r.2.1, .bool r.2.2]) := by
  unfold paint_Window_At.f at h
  try simp only [rdc124, rdc124', rq_T134, rq_L2, rq_T87, rq_L5, rq_T124, rq_T89, rq_T99, rq_T38, rq_T90, rq_T56, rq_I, rq_bt, wrap64, bl, tl_eq, tl_lit, tl_nil, Bool.false_eq_true, if_false, if_true] at h
  refine does_walk 2 (F := cfg [(3, 15)]) tb_ok mixed Try.func25 rfl (fun T hT => ?_)
  repeat' first
    | (show E3 _ _ _ _ _ _ _ _; first
      | refine oQ vpt ?_
      | refine oQ vpf ?_
      | refine oLd ?_
      | refine oW ?_
      | refine n_reg [0, 1, 2, 4, 5, 6, 7, 8, 16, 34] ?_
      | refine gYq vpt ?_
      | refine gYq vpf ?_
      | refine gLd ?_
      | refine gN ?_
      | refine gNf ?_
      | refine gY ?_
      | refine gT ?_
      | refine mB h (fun t ht h => gC (vC (fun G => paint_Window_Size.does ht G)) ?_)
      | refine gif h (fun hc h => ?_) (fun hc h => ?_)
      | refine gfi h (fun hc h => ?_) (fun hc h => ?_)
      | with_reducible refine mI h (fun hc h => ?_)
      | with_reducible refine mE h (fun hc h => ?_)
      | with_reducible refine mS h (fun h => ?_)
      | refine oWs ?_
      | refine oWl ?_
      | refine gYs ?_
      | refine gifs h (fun hc h => ?_) (fun hc h => ?_)
      | refine gfis h (fun hc h => ?_) (fun hc h => ?_)
      | (fail_if_success (refine g_lit ?_)); refine g_dt ?_
      | (fail_if_success (refine g_lit ?_)); refine g_df ?_)
    | (show E1 _ _ _ _ _ _ _; first
      | refine c_seq ?_
      | refine c_reg ?_
      | refine c_drwf ?_
      | refine c_drw ?_
      | refine c_ret ?_
      | refine c_skip ?_
      | refine c_tt ?_
      | refine c_ff ?_
      | refine c_if h (fun hc h => ?_) (fun hc h => ?_)
      | refine c_fi h (fun hc h => ?_) (fun hc h => ?_)
      | with_reducible refine mI h (fun hc h => ?_)
      | with_reducible refine mE h (fun hc h => ?_)
      | with_reducible refine mS h (fun h => ?_)
      | refine c_ifs h (fun hc h => ?_) (fun hc h => ?_)
      | refine c_fis h (fun hc h => ?_) (fun hc h => ?_)
      | refine c_dt ?_
      | refine c_df ?_)
    | (show E2 _ _ _ _ _ _ _; first
      | refine n_seq ?_
      | (refine n_ends hT ?_; cases h; first | rfl | exact congrArg AV.bool (by rw [Bool.eq_iff_iff]; simp)))
    | (show E4 _ _ _ _ _ _ _; first
      | refine dQ vpt ?_
      | refine dQ vpf ?_
      | refine dW ?_
      | refine dE ?_)
    | (show E5 _ _ _ _ _ _ _; first
      | refine tQ vpt ?_
      | refine tQ vpf ?_
      | refine tW ?_
      | refine n_drw [0, 1, 2, 4, 5, 6, 7, 8, 16, 34] ?_)
    | with_reducible refine mI h (fun hc h => ?_)
    | with_reducible refine mE h (fun hc h => ?_)
    | with_reducible refine mS h (fun h => ?_)
    | (rcases k with _ | k; (simp only [paint_Window_At.j0] at h; cases h); simp only [paint_Window_At.j0, rdc124, rdc124', rq_T134, rq_L2, rq_T87, rq_L5, rq_T124, rq_T89, rq_T99, rq_T38, rq_T90, rq_T56, rq_I, rq_bt, wrap64, bl, tl_eq, tl_lit, tl_nil, Bool.false_eq_true, if_false, if_true] at h)
    | refine mT h (fun h => ?_)
    | refine mF h (fun h => ?_)
    | (cases h; done)
theorem slices_IndexFunc.does {k : Nat} {l0 : List (S90)} {r : (Int)} (h : slices_IndexFunc.f k l0 = some r) (G : Objs) : Does Try.prog true 84 [.sl (l0.map Enc.enc), .fn 66 []] G (fun x _ => x = .int .i64 r) := by
  unfold slices_IndexFunc.f at h
  try simp only [rdc124, rdc124', rq_T134, rq_L2, rq_T87, rq_L5, rq_T124, rq_T89, rq_T99, rq_T38, rq_T90, rq_T56, rq_I, rq_bt, wrap64, bl, tl_eq, tl_lit, tl_nil, Bool.false_eq_true, if_false, if_true] at h
  refine does_walk 2 (F := cfg []) tb_ok mixed Try.func84 rfl (fun T hT => ?_)
  repeat' first
    | (show E3 _ _ _ _ _ _ _ _; first
      | refine oQ vL ?_
      | refine oQ vE ?_
      | refine oLd ?_
      | refine mB h (fun t ht h => oCf (fun G => paint_Join_1.does ht G) ?_)
      | refine oW ?_
      | refine n_reg [0, 1, 4, 5, 7, 8, 9, 16] ?_
      | with_reducible refine mI h (fun hc h => ?_)
      | with_reducible refine mE h (fun hc h => ?_)
      | with_reducible refine mS h (fun h => ?_)
      | refine oWs ?_)
    | (show E1 _ _ _ _ _ _ _; first
      | refine c_seq ?_
      | refine c_reg ?_
      | refine c_blk ?_
      | refine c_exit ?_
      | refine c_ret ?_
      | refine c_skip ?_
      | refine c_tt ?_
      | refine c_ff ?_
      | refine c_if h (fun hc h => ?_) (fun hc h => ?_)
      | refine c_fi h (fun hc h => ?_) (fun hc h => ?_)
      | with_reducible refine mI h (fun hc h => ?_)
      | with_reducible refine mE h (fun hc h => ?_)
      | with_reducible refine mS h (fun h => ?_)
      | refine c_ifs h (fun hc h => ?_) (fun hc h => ?_)
      | refine c_fis h (fun hc h => ?_) (fun hc h => ?_)
      | (refine lp3 (fun x0 x7 x8 => [(0, .sl (x0.map Enc.enc)), (7, .int .i64 x7), (8, .int .i64 x8), (1, .fn 66 [])]) (fun x0 x7 x8 => []) (fun k_ x0 x7 x8 => k_ ≤ k ∧ slices_IndexFunc.l0 k_ x0 x7 x8 = some r) ⟨Nat.le_refl _, h⟩ ?_; intro k x0 x7 x8 h; obtain ⟨hk, h⟩ := h; rcases k with _ | k; (simp only [slices_IndexFunc.l0] at h; cases h); simp only [slices_IndexFunc.l0, rdc124, rdc124', rq_T134, rq_L2, rq_T87, rq_L5, rq_T124, rq_T89, rq_T99, rq_T38, rq_T90, rq_T56, rq_I, rq_bt, wrap64, bl, tl_eq, tl_lit, tl_nil, Bool.false_eq_true, if_false, if_true] at h)
      | refine c_dt ?_
      | refine c_df ?_)
    | (show E2 _ _ _ _ _ _ _; first
      | refine n_seq ?_
      | (refine n_end hT ?_; cases h; first | rfl | exact congrArg AV.bool (by rw [Bool.eq_iff_iff]; simp))
      | refine ag3 rfl ⟨by omega, h⟩)
    | with_reducible refine mI h (fun hc h => ?_)
    | with_reducible refine mE h (fun hc h => ?_)
    | with_reducible refine mS h (fun h => ?_)
    | refine mT h (fun h => ?_)
    | refine mF h (fun h => ?_)
    | (cases h; done)
theorem regletref04_Check.does {k : Nat} {l0 : List (S87)} {r : (Int × Int)} (h : regletref04_Check.f k l0 = some r) (G : Objs) : Does Try.prog true 38 [.sl (l0.map Enc.enc)] G (fun x _ => x = .tup [.int .i64 r.1, .int .i64 r.2]) := by
  unfold regletref04_Check.f at h
  try simp only [rdc124, rdc124', rq_T134, rq_L2, rq_T87, rq_L5, rq_T124, rq_T89, rq_T99, rq_T38, rq_T90, rq_T56, rq_I, rq_bt, wrap64, bl, tl_eq, tl_lit, tl_nil, Bool.false_eq_true, if_false, if_true] at h
  refine does_walk 1 (F := cfg []) tb_ok mixed Try.func38 rfl (fun T hT => ?_)
  repeat' first
    | (show E3 _ _ _ _ _ _ _ _; first
      | refine oQ vL ?_
      | refine oQ vE ?_
      | refine oQ vpt ?_
      | refine oQ vpf ?_
      | refine oLd ?_
      | refine oW ?_
      | refine n_reg [0, 2, 3, 4, 5, 13, 17, 26] ?_
      | refine gYq vL ?_
      | refine gYq vE ?_
      | refine gYq vpt ?_
      | refine gYq vpf ?_
      | refine gN ?_
      | refine gNf ?_
      | refine gY ?_
      | refine gT ?_
      | refine mB h (fun t ht h => oC (vC (fun G => regletref04_Style.does ht G)) ?_)
      | refine gif h (fun hc h => ?_) (fun hc h => ?_)
      | refine gfi h (fun hc h => ?_) (fun hc h => ?_)
      | with_reducible refine mI h (fun hc h => ?_)
      | with_reducible refine mE h (fun hc h => ?_)
      | with_reducible refine mS h (fun h => ?_)
      | refine oWs ?_
      | refine gYs ?_
      | refine gifs h (fun hc h => ?_) (fun hc h => ?_)
      | refine gfis h (fun hc h => ?_) (fun hc h => ?_)
      | (fail_if_success (refine g_lit ?_)); refine g_dt ?_
      | (fail_if_success (refine g_lit ?_)); refine g_df ?_)
    | (show E1 _ _ _ _ _ _ _; first
      | refine c_seq ?_
      | refine c_reg ?_
      | refine c_blk ?_
      | refine c_exit ?_
      | refine c_ret ?_
      | refine c_skip ?_
      | refine c_tt ?_
      | refine c_ff ?_
      | refine c_if h (fun hc h => ?_) (fun hc h => ?_)
      | refine c_fi h (fun hc h => ?_) (fun hc h => ?_)
      | with_reducible refine mI h (fun hc h => ?_)
      | with_reducible refine mE h (fun hc h => ?_)
      | with_reducible refine mS h (fun h => ?_)
      | refine c_ifs h (fun hc h => ?_) (fun hc h => ?_)
      | refine c_fis h (fun hc h => ?_) (fun hc h => ?_)
      | (refine lp2 (fun x0 x4 => [(0, .sl (x0.map Enc.enc)), (4, .int .i64 x4)]) (fun x0 x4 => []) (fun k_ x0 x4 => k_ ≤ k ∧ regletref04_Check.l0 k_ x0 x4 = some r) ⟨Nat.le_refl _, h⟩ ?_; intro k x0 x4 h; obtain ⟨hk, h⟩ := h; rcases k with _ | k; (simp only [regletref04_Check.l0] at h; cases h); simp only [regletref04_Check.l0, rdc124, rdc124', rq_T134, rq_L2, rq_T87, rq_L5, rq_T124, rq_T89, rq_T99, rq_T38, rq_T90, rq_T56, rq_I, rq_bt, wrap64, bl, tl_eq, tl_lit, tl_nil, Bool.false_eq_true, if_false, if_true] at h)
      | refine c_dt ?_
      | refine c_df ?_)
    | (show E2 _ _ _ _ _ _ _; first
      | refine n_seq ?_
      | (refine n_ends hT ?_; cases h; first | rfl | exact congrArg AV.bool (by rw [Bool.eq_iff_iff]; simp))
      | refine ag2 rfl ⟨by omega, h⟩)
    | with_reducible refine mI h (fun hc h => ?_)
    | with_reducible refine mE h (fun hc h => ?_)
    | with_reducible refine mS h (fun h => ?_)
    | (rcases k with _ | k; (simp only [regletref04_Check.j0] at h; cases h); simp only [regletref04_Check.j0, rdc124, rdc124', rq_T134, rq_L2, rq_T87, rq_L5, rq_T124, rq_T89, rq_T99, rq_T38, rq_T90, rq_T56, rq_I, rq_bt, wrap64, bl, tl_eq, tl_lit, tl_nil, Bool.false_eq_true, if_false, if_true] at h)
    | refine mT h (fun h => ?_)
    | refine mF h (fun h => ?_)
    | (cases h; done)
end Go.AL.X
