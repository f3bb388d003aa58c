/- What each function does: it answers as its model tells, and changes nothing (in 8 texts, numbered 6). -/
import Derived.Test.YtblmcdpfhdamjaaC0PaintClips
import Derived.Test.YtblmcdpfhdamjaaC1PaintClips
import Derived.Test.YtblmcdpfhdamjaaC2PaintClips
import Derived.Test.YtblmcdpfhdamjaaC3PaintClips
import Derived.Test.YtblmcdpfhdamjaaC4PaintClips
import Derived.Test.YtblmcdpfhdamjaaTPaintClips
namespace Go.AL.X
open Go.Proofs Go.Proofs.Ytblmcdpfhdamjaa.PPaintClips
set_option linter.unusedVariables false
set_option linter.unusedSimpArgs false
set_option maxRecDepth 100000
set_option maxHeartbeats 16000000
theorem regletlaw21_table.does {k : Nat} {l0 : List (S87)} {r : ((List (S124)))} (h : regletlaw21_table.f k l0 = some r) (G : Objs) : Does Try.prog true 11 [.sl (l0.map Enc.enc)] G (fun x _ => x = pv r) := by
  unfold regletlaw21_table.f at h
  try simp only [rdc124, rdc124', rq_T134, rq_L2, rq_T87, rq_L5, rq_T124, rq_T89, rq_T99, rq_T38, rq_T90, rq_T56, rq_I, rq_bt, wrap64, bl, tl_eq, tl_lit, tl_nil, Bool.false_eq_true, if_false, if_true] at h
  refine does_walk 1 (F := cfg []) tb_ok mixed Try.func11 rfl (fun T hT => ?_)
  repeat' first
    | (show E3 _ _ _ _ _ _ _ _; first
      | refine oW ?_
      | refine n_reg [0, 2, 3, 5, 14] ?_
      | refine mB h (fun t ht h => oC (vC (fun G => regletref04_Check.does ht G)) ?_)
      | (refine mB h (fun t ht h => ?_); rcases t with ⟨(_ | ⟨p0, ps0⟩), t1, t2⟩ <;> refine oC (vC (fun G => metrics_New.does ht G)) ?_ <;> try simp only [lenC, lenN, if_true, if_false] at h)
      | with_reducible refine mI h (fun hc h => ?_)
      | with_reducible refine mE h (fun hc h => ?_)
      | with_reducible refine mS h (fun h => ?_)
      | refine oWs ?_)
    | (show E1 _ _ _ _ _ _ _; first
      | refine c_seq ?_
      | refine c_reg ?_
      | refine c_ret ?_
      | refine c_skip ?_
      | refine c_tt ?_
      | refine c_ff ?_
      | refine c_if h (fun hc h => ?_) (fun hc h => ?_)
      | refine c_fi h (fun hc h => ?_) (fun hc h => ?_)
      | with_reducible refine mI h (fun hc h => ?_)
      | with_reducible refine mE h (fun hc h => ?_)
      | with_reducible refine mS h (fun h => ?_)
      | refine c_ifs h (fun hc h => ?_) (fun hc h => ?_)
      | refine c_fis h (fun hc h => ?_) (fun hc h => ?_)
      | refine c_dt ?_
      | refine c_df ?_)
    | (show E2 _ _ _ _ _ _ _; first
      | refine n_seq ?_
      | (refine n_end hT ?_; cases h; first | rfl | exact congrArg AV.bool (by rw [Bool.eq_iff_iff]; simp)))
    | with_reducible refine mI h (fun hc h => ?_)
    | with_reducible refine mE h (fun hc h => ?_)
    | with_reducible refine mS h (fun h => ?_)
    | refine mT h (fun h => ?_)
    | refine mF h (fun h => ?_)
    | (cases h; done)
theorem scaled_MulDiv.does {k : Nat} {a0 : Int} {a1 : Int} {a2 : Int} {r : (Int × Bool)} (h : scaled_MulDiv.f k a0 a1 a2 = some r) (G : Objs) : Does Try.prog true 109 [.int .i64 a0, .int .i64 a1, .int .i64 a2] G (fun x _ => x = .tup [.int .i64 r.1, .bool r.2]) := by
  unfold scaled_MulDiv.f at h
  try simp only [rdc124, rdc124', rq_T134, rq_L2, rq_T87, rq_L5, rq_T124, rq_T89, rq_T99, rq_T38, rq_T90, rq_T56, rq_I, rq_bt, wrap64, bl, tl_eq, tl_lit, tl_nil, Bool.false_eq_true, if_false, if_true] at h
  refine does_walk 3 (F := cfg []) tb_ok mixed Try.func109 rfl (fun T hT => ?_)
  repeat' first
    | (show E3 _ _ _ _ _ _ _ _; first
      | refine oQ vpt ?_
      | refine oQ vpf ?_
      | refine oW ?_
      | refine n_reg [0, 1, 2, 6, 7, 8, 9, 10, 11, 12, 13, 17, 38, 58, 60] ?_
      | refine gYq vpt ?_
      | refine gYq vpf ?_
      | refine gN ?_
      | refine gNf ?_
      | refine gY ?_
      | refine gT ?_
      | refine mB h (fun t ht h => oC (vC (fun G => scaled_Clamp.does ht G)) ?_)
      | refine mB h (fun t ht h => oC (vC (fun G => bits_Mul64.does ht G)) ?_)
      | refine mB h (fun t ht h => oC (vC (fun G => scaled_size.does ht G)) ?_)
      | refine mB h (fun t ht h => oC (vC (fun G => scaled_signed.does ht G)) ?_)
      | refine mB h (fun t ht h => oC (vC (fun G => bits_Div64.does ht G)) ?_)
      | refine gif h (fun hc h => ?_) (fun hc h => ?_)
      | refine gfi h (fun hc h => ?_) (fun hc h => ?_)
      | with_reducible refine mI h (fun hc h => ?_)
      | with_reducible refine mE h (fun hc h => ?_)
      | with_reducible refine mS h (fun h => ?_)
      | refine oWs ?_
      | refine gYs ?_
      | refine gifs h (fun hc h => ?_) (fun hc h => ?_)
      | refine gfis h (fun hc h => ?_) (fun hc h => ?_)
      | (fail_if_success (refine g_lit ?_)); refine g_dt ?_
      | (fail_if_success (refine g_lit ?_)); refine g_df ?_)
    | (show E1 _ _ _ _ _ _ _; first
      | refine c_seq ?_
      | refine c_reg ?_
      | refine c_ret ?_
      | refine c_skip ?_
      | refine c_tt ?_
      | refine c_ff ?_
      | refine c_if h (fun hc h => ?_) (fun hc h => ?_)
      | refine c_fi h (fun hc h => ?_) (fun hc h => ?_)
      | with_reducible refine mI h (fun hc h => ?_)
      | with_reducible refine mE h (fun hc h => ?_)
      | with_reducible refine mS h (fun h => ?_)
      | refine c_ifs h (fun hc h => ?_) (fun hc h => ?_)
      | refine c_fis h (fun hc h => ?_) (fun hc h => ?_)
      | refine c_dt ?_
      | refine c_df ?_)
    | (show E2 _ _ _ _ _ _ _; first
      | refine n_seq ?_
      | (refine n_ends hT ?_; cases h; first | rfl | exact congrArg AV.bool (by rw [Bool.eq_iff_iff]; simp)))
    | with_reducible refine mI h (fun hc h => ?_)
    | with_reducible refine mE h (fun hc h => ?_)
    | with_reducible refine mS h (fun h => ?_)
    | refine mT h (fun h => ?_)
    | refine mF h (fun h => ?_)
    | (cases h; done)
theorem paint_Join.does {k : Nat} {l0 : List (S90)} {r : ((List (S90)))} (h : paint_Join.f k l0 = some r) (G : Objs) : Does Try.prog true 34 [.sl (l0.map Enc.enc)] G (fun x _ => x = .sl (r.map Enc.enc)) := by
  unfold paint_Join.f at h
  try simp only [rdc124, rdc124', rq_T134, rq_L2, rq_T87, rq_L5, rq_T124, rq_T89, rq_T99, rq_T38, rq_T90, rq_T56, rq_I, rq_bt, wrap64, bl, tl_eq, tl_lit, tl_nil, Bool.false_eq_true, if_false, if_true] at h
  refine does_walk 1 (F := cfg [(8, 20), (9, 10)]) tb_ok mixed Try.func34 rfl (fun T hT => ?_)
  repeat' first
    | (show E3 _ _ _ _ _ _ _ _; first
      | refine oQ vL ?_
      | refine oQ vLv ?_
      | refine oQ vE ?_
      | refine oQ vEv ?_
      | refine oQ vEo ?_
      | refine oQ vmax ?_
      | refine oQ vpt ?_
      | refine oQ vpf ?_
      | refine oLe vLe ?_
      | refine oBS ?_
      | refine oLd ?_
      | refine mB h (fun t ht h => oCT (fun G => slices_DeleteFunc.does ht G) ?_)
      | refine mB h (fun t ht h => oCO (fun G => slices_Clone.does ht G) ?_)
      | refine mI h (fun hc h => oSo (bandSort_ok hc) ?_)
      | refine oSo (bandSort_ok (by assumption)) ?_
      | refine oW ?_
      | refine n_reg [0, 2, 3, 4, 6, 7, 13, 14, 15, 16, 43] ?_
      | refine gYq vL ?_
      | refine gYq vLv ?_
      | refine gYq vE ?_
      | refine gYq vEv ?_
      | refine gYq vEo ?_
      | refine gYq vmax ?_
      | refine gYq vpt ?_
      | refine gYq vpf ?_
      | refine gLe vLe ?_
      | refine gN ?_
      | refine gNf ?_
      | refine gY ?_
      | refine gT ?_
      | refine oAv (⟨_, _, _⟩ : S90) ?_
      | refine oA (⟨_, _, _⟩ : S90) ?_
      | refine oAe (⟨_, _, _⟩ : S90) ?_
      | refine oAl (⟨_, _, _⟩ : S90) ?_
      | refine oMv ?_
      | refine oM ?_
      | refine oMe ?_
      | refine oMl ?_
      | refine fz 8 ?_
      | refine fz 9 ?_
      | refine fz 11 ?_
      | refine gif h (fun hc h => ?_) (fun hc h => ?_)
      | refine gfi h (fun hc h => ?_) (fun hc h => ?_)
      | with_reducible refine mI h (fun hc h => ?_)
      | with_reducible refine mE h (fun hc h => ?_)
      | with_reducible refine mS h (fun h => ?_)
      | refine oSf (α := S90) (β := Int) (fun y z => { y with f2 := z }) (fun z => AV.int .i64 z) ?_
      | refine oWs ?_
      | refine oWl ?_
      | refine gYs ?_
      | refine gifs h (fun hc h => ?_) (fun hc h => ?_)
      | refine gfis h (fun hc h => ?_) (fun hc h => ?_)
      | (fail_if_success (refine g_lit ?_)); refine g_dt ?_
      | (fail_if_success (refine g_lit ?_)); refine g_df ?_)
    | (show E1 _ _ _ _ _ _ _; first
      | refine c_seq ?_
      | refine c_reg ?_
      | refine c_drwf ?_
      | refine c_drw ?_
      | refine c_blk ?_
      | refine c_exit ?_
      | refine c_ret ?_
      | refine c_skip ?_
      | refine c_tt ?_
      | refine c_ff ?_
      | refine c_if h (fun hc h => ?_) (fun hc h => ?_)
      | refine c_fi h (fun hc h => ?_) (fun hc h => ?_)
      | with_reducible refine mI h (fun hc h => ?_)
      | with_reducible refine mE h (fun hc h => ?_)
      | with_reducible refine mS h (fun h => ?_)
      | refine c_ifs h (fun hc h => ?_) (fun hc h => ?_)
      | refine c_fis h (fun hc h => ?_) (fun hc h => ?_)
      | (refine lp4 (fun x3 x4 x14 x15 => [(3, .own 3 (x3.map Enc.enc)), (4, .own 3 (x4.map Enc.enc)), (14, .int .i64 x14), (15, .int .i64 x15), (13, .view (.t 3))]) (fun x3 x4 x14 x15 => []) (fun k_ x3 x4 x14 x15 => k_ ≤ k ∧ paint_Join.l0 k_ x3 x4 x14 x15 = some r) ⟨Nat.le_refl _, h⟩ ?_; intro k x3 x4 x14 x15 h; obtain ⟨hk, h⟩ := h; rcases k with _ | k; (simp only [paint_Join.l0] at h; cases h); simp only [paint_Join.l0, rdc124, rdc124', rq_T134, rq_L2, rq_T87, rq_L5, rq_T124, rq_T89, rq_T99, rq_T38, rq_T90, rq_T56, rq_I, rq_bt, wrap64, bl, tl_eq, tl_lit, tl_nil, Bool.false_eq_true, if_false, if_true] at h)
      | refine c_dt ?_
      | refine c_df ?_)
    | (show E2 _ _ _ _ _ _ _; first
      | refine n_seq ?_
      | (refine n_end hT ?_; cases h; first | rfl | exact congrArg AV.bool (by rw [Bool.eq_iff_iff]; simp))
      | refine ag4 rfl ⟨by omega, h⟩)
    | (show E4 _ _ _ _ _ _ _; first
      | refine dQ vLe ?_
      | refine dQ vL ?_
      | refine dQ vLv ?_
      | refine dQ vE ?_
      | refine dQ vEv ?_
      | refine dQ vEo ?_
      | refine dQ vmax ?_
      | refine dQ vpt ?_
      | refine dQ vpf ?_
      | refine dW ?_
      | refine dE ?_
      | refine dYq vL ?_
      | refine dYq vLv ?_
      | refine dYq vE ?_
      | refine dYq vEv ?_
      | refine dYq vEo ?_
      | refine dYq vmax ?_
      | refine dYq vpt ?_
      | refine dYq vpf ?_
      | refine dYq vLe ?_
      | refine dN ?_
      | refine dNf ?_
      | refine dY ?_
      | refine dT ?_
      | refine dif_ h (fun hc h => ?_) (fun hc h => ?_)
      | refine dfi h (fun hc h => ?_) (fun hc h => ?_)
      | with_reducible refine mI h (fun hc h => ?_)
      | with_reducible refine mE h (fun hc h => ?_)
      | with_reducible refine mS h (fun h => ?_)
      | refine dif_s h (fun hc h => ?_) (fun hc h => ?_)
      | refine dfis h (fun hc h => ?_) (fun hc h => ?_))
    | (show E5 _ _ _ _ _ _ _; first
      | refine tSf (α := S90) (β := Int) (fun y z => { y with f2 := z }) (fun z => AV.int .i64 z) ?_
      | refine tQ vL ?_
      | refine tQ vLv ?_
      | refine tQ vE ?_
      | refine tQ vEv ?_
      | refine tQ vEo ?_
      | refine tQ vmax ?_
      | refine tQ vpt ?_
      | refine tQ vpf ?_
      | refine tYq vL ?_
      | refine tYq vLv ?_
      | refine tYq vE ?_
      | refine tYq vEv ?_
      | refine tYq vEo ?_
      | refine tYq vmax ?_
      | refine tYq vpt ?_
      | refine tYq vpf ?_
      | refine tN ?_
      | refine tNf ?_
      | refine tY ?_
      | refine tT ?_
      | refine tW ?_
      | refine n_drw [0, 2, 3, 4, 6, 7, 13, 14, 15, 16, 43] ?_
      | refine tif h (fun hc h => ?_) (fun hc h => ?_)
      | refine tfi h (fun hc h => ?_) (fun hc h => ?_)
      | with_reducible refine mI h (fun hc h => ?_)
      | with_reducible refine mE h (fun hc h => ?_)
      | with_reducible refine mS h (fun h => ?_))
    | with_reducible refine mI h (fun hc h => ?_)
    | with_reducible refine mE h (fun hc h => ?_)
    | with_reducible refine mS h (fun h => ?_)
    | refine mT h (fun h => ?_)
    | refine mF h (fun h => ?_)
    | (cases h; done)
theorem scaled_Scale.does {k : Nat} {a0 : Int} {a1 : Int} {a2 : Int} {r : (Int)} (h : scaled_Scale.f k a0 a1 a2 = some r) (G : Objs) : Does Try.prog true 92 [.int .i64 a0, .int .i64 a1, .int .i64 a2] G (fun x _ => x = .int .i64 r) := by
  unfold scaled_Scale.f at h
  try simp only [rdc124, rdc124', rq_T134, rq_L2, rq_T87, rq_L5, rq_T124, rq_T89, rq_T99, rq_T38, rq_T90, rq_T56, rq_I, rq_bt, wrap64, bl, tl_eq, tl_lit, tl_nil, Bool.false_eq_true, if_false, if_true] at h
  refine does_walk 3 (F := cfg []) tb_ok mixed Try.func92 rfl (fun T hT => ?_)
  repeat' first
    | (show E3 _ _ _ _ _ _ _ _; first
      | refine oW ?_
      | refine n_reg [0, 1, 2, 6, 7, 10] ?_
      | refine mB h (fun t ht h => oC (vC (fun G => scaled_MulDiv.does ht G)) ?_)
      | with_reducible refine mI h (fun hc h => ?_)
      | with_reducible refine mE h (fun hc h => ?_)
      | with_reducible refine mS h (fun h => ?_)
      | refine oWs ?_)
    | (show E1 _ _ _ _ _ _ _; first
      | refine c_seq ?_
      | refine c_reg ?_
      | refine c_ret ?_
      | refine c_skip ?_
      | refine c_tt ?_
      | refine c_ff ?_
      | refine c_if h (fun hc h => ?_) (fun hc h => ?_)
      | refine c_fi h (fun hc h => ?_) (fun hc h => ?_)
      | with_reducible refine mI h (fun hc h => ?_)
      | with_reducible refine mE h (fun hc h => ?_)
      | with_reducible refine mS h (fun h => ?_)
      | refine c_ifs h (fun hc h => ?_) (fun hc h => ?_)
      | refine c_fis h (fun hc h => ?_) (fun hc h => ?_)
      | refine c_dt ?_
      | refine c_df ?_)
    | (show E2 _ _ _ _ _ _ _; first
      | refine n_seq ?_
      | (refine n_end hT ?_; cases h; first | rfl | exact congrArg AV.bool (by rw [Bool.eq_iff_iff]; simp)))
    | with_reducible refine mI h (fun hc h => ?_)
    | with_reducible refine mE h (fun hc h => ?_)
    | with_reducible refine mS h (fun h => ?_)
    | refine mT h (fun h => ?_)
    | refine mF h (fun h => ?_)
    | (cases h; done)
theorem paint_Clip.does {k : Nat} {l0 : List (S90)} {l1 : List (S90)} {r : ((List (S90)))} (h : paint_Clip.f k l0 l1 = some r) (G : Objs) : Does Try.prog true 37 [.sl (l0.map Enc.enc), .sl (l1.map Enc.enc)] G (fun x _ => x = .sl (r.map Enc.enc)) := by
  unfold paint_Clip.f at h
  try simp only [rdc124, rdc124', rq_T134, rq_L2, rq_T87, rq_L5, rq_T124, rq_T89, rq_T99, rq_T38, rq_T90, rq_T56, rq_I, rq_bt, wrap64, bl, tl_eq, tl_lit, tl_nil, Bool.false_eq_true, if_false, if_true] at h
  refine does_walk 2 (F := cfg []) tb_ok mixed Try.func37 rfl (fun T hT => ?_)
  repeat' first
    | (show E3 _ _ _ _ _ _ _ _; first
      | refine oQ vL ?_
      | refine oQ vLv ?_
      | refine oQ vE ?_
      | refine oQ vEv ?_
      | refine oQ vEo ?_
      | refine oQ vmax ?_
      | refine oQ vmin ?_
      | refine oLe vLe ?_
      | refine oBS ?_
      | refine oB ?_
      | refine oLd ?_
      | refine oW ?_
      | refine n_reg [0, 1, 4, 5, 7, 9, 10, 12, 13, 14, 15, 19, 20, 21, 22, 29, 47] ?_
      | refine oAv (⟨_, _, _⟩ : S90) ?_
      | refine oA (⟨_, _, _⟩ : S90) ?_
      | refine oAe (⟨_, _, _⟩ : S90) ?_
      | refine oAl (⟨_, _, _⟩ : S90) ?_
      | refine oMv ?_
      | refine oM ?_
      | refine oMe ?_
      | refine oMl ?_
      | refine mB h (fun t ht h => oC (vC (fun G => paint_Join.does ht G)) ?_)
      | refine fz 11 ?_
      | refine fz 18 ?_
      | with_reducible refine mI h (fun hc h => ?_)
      | with_reducible refine mE h (fun hc h => ?_)
      | with_reducible refine mS h (fun h => ?_)
      | refine oWs ?_
      | refine oWl ?_)
    | (show E1 _ _ _ _ _ _ _; first
      | refine c_seq ?_
      | refine c_reg ?_
      | refine c_blk ?_
      | refine c_exit ?_
      | refine c_ret ?_
      | refine c_skip ?_
      | refine c_tt ?_
      | refine c_ff ?_
      | refine c_if h (fun hc h => ?_) (fun hc h => ?_)
      | refine c_fi h (fun hc h => ?_) (fun hc h => ?_)
      | with_reducible refine mI h (fun hc h => ?_)
      | with_reducible refine mE h (fun hc h => ?_)
      | with_reducible refine mS h (fun h => ?_)
      | refine c_ifs h (fun hc h => ?_) (fun hc h => ?_)
      | refine c_fis h (fun hc h => ?_) (fun hc h => ?_)
      | (refine lp5 (fun x1 x5 x12 x13 x14 => [(1, .sl (x1.map Enc.enc)), (5, .own 3 (x5.map Enc.enc)), (12, .sl (x12.map Enc.enc)), (13, .int .i64 x13), (14, .int .i64 x14)]) (fun x1 x5 x12 x13 x14 => []) (fun k_ x1 x5 x12 x13 x14 => k_ ≤ k ∧ paint_Clip.l0 k_ x1 x5 x12 x13 x14 = some r) ⟨Nat.le_refl _, h⟩ ?_; intro k x1 x5 x12 x13 x14 h; obtain ⟨hk, h⟩ := h; rcases k with _ | k; (simp only [paint_Clip.l0] at h; cases h); simp only [paint_Clip.l0, rdc124, rdc124', rq_T134, rq_L2, rq_T87, rq_L5, rq_T124, rq_T89, rq_T99, rq_T38, rq_T90, rq_T56, rq_I, rq_bt, wrap64, bl, tl_eq, tl_lit, tl_nil, Bool.false_eq_true, if_false, if_true] at h)
      | (refine lp11 (fun x1 x5 x12 x13 x14 x19 x20 x21 x7000 x7001 x7002 => [(1, .sl (x1.map Enc.enc)), (5, .own 3 (x5.map Enc.enc)), (12, .sl (x12.map Enc.enc)), (13, .int .i64 x13), (14, .int .i64 x14), (19, .sl (x19.map Enc.enc)), (20, .int .i64 x20), (21, .int .i64 x21), (7, .lptr 7 0)]) (fun x1 x5 x12 x13 x14 x19 x20 x21 x7000 x7001 x7002 => [(7, [.int .i64 x7000, .int .i64 x7001, .int .i64 x7002])]) (fun k_ x1 x5 x12 x13 x14 x19 x20 x21 x7000 x7001 x7002 => k_ ≤ k ∧ paint_Clip.l1 k_ x1 x5 x12 x13 x14 x19 x20 x21 x7000 x7001 x7002 = some r) ⟨Nat.le_refl _, h⟩ ?_; intro k x1 x5 x12 x13 x14 x19 x20 x21 x7000 x7001 x7002 h; obtain ⟨hk, h⟩ := h; rcases k with _ | k; (simp only [paint_Clip.l1] at h; cases h); simp only [paint_Clip.l1, rdc124, rdc124', rq_T134, rq_L2, rq_T87, rq_L5, rq_T124, rq_T89, rq_T99, rq_T38, rq_T90, rq_T56, rq_I, rq_bt, wrap64, bl, tl_eq, tl_lit, tl_nil, Bool.false_eq_true, if_false, if_true] at h)
      | refine c_dt ?_
      | refine c_df ?_)
    | (show E2 _ _ _ _ _ _ _; first
      | refine n_seq ?_
      | (refine n_end hT ?_; cases h; first | rfl | exact congrArg AV.bool (by rw [Bool.eq_iff_iff]; simp))
      | refine ag5 rfl ⟨by omega, h⟩
      | refine ag11 rfl ⟨by omega, h⟩)
    | (show E4 _ _ _ _ _ _ _; first
      | refine dQ vLe ?_)
    | with_reducible refine mI h (fun hc h => ?_)
    | with_reducible refine mE h (fun hc h => ?_)
    | with_reducible refine mS h (fun h => ?_)
    | refine mT h (fun h => ?_)
    | refine mF h (fun h => ?_)
    | (cases h; done)
theorem locate_space.does {k : Nat} {l0 : S124} {l0s : List S124} {a1_0 : ByteArray} {l1_1 : List (S89)} {a1_2 : Int} {a1_3 : Int} {a1_4 : Int} {a1_5 : Bool} {a1_6 : Int} {a1_7 : Bool} {a1_8 : Bool} {a2 : Int} {r : (Int)} (h : locate_space.f k (l0 :: l0s) a1_0 l1_1 a1_2 a1_3 a1_4 a1_5 a1_6 a1_7 a1_8 a2 = some r) (G : Objs) : Does Try.prog true 74 [.ptrF (Enc.enc l0), .agg [.str a1_0, .sl (l1_1.map Enc.enc), .int .i64 a1_2, .int .i64 a1_3, .int .i64 a1_4, .bool a1_5, .int .i64 a1_6, .bool a1_7, .bool a1_8], .int .i64 a2] G (fun x _ => x = .int .i64 r) := by
  unfold locate_space.f at h
  try simp only [rdc124, rdc124', rq_T134, rq_L2, rq_T87, rq_L5, rq_T124, rq_T89, rq_T99, rq_T38, rq_T90, rq_T56, rq_I, rq_bt, wrap64, bl, tl_eq, tl_lit, tl_nil, Bool.false_eq_true, if_false, if_true] at h
  refine does_walk 3 (F := cfg []) tb_ok mixed Try.func74 rfl (fun T hT => ?_)
  repeat' first
    | (show E3 _ _ _ _ _ _ _ _; first
      | refine oW ?_
      | refine n_reg [0, 1, 2, 4, 6, 7, 8, 9, 17, 29] ?_
      | refine mB h (fun t ht h => oC (vC (fun G => metrics_Table_Space.does ht G)) ?_)
      | refine mB h (fun t ht h => oC (vC (fun G => scaled_Scale.does ht G)) ?_)
      | with_reducible refine mI h (fun hc h => ?_)
      | with_reducible refine mE h (fun hc h => ?_)
      | with_reducible refine mS h (fun h => ?_)
      | refine oWs ?_
      | refine oWl ?_)
    | (show E1 _ _ _ _ _ _ _; first
      | refine c_seq ?_
      | refine c_reg ?_
      | refine c_blk ?_
      | refine c_ret ?_
      | refine c_skip ?_
      | refine c_tt ?_
      | refine c_ff ?_
      | refine c_if h (fun hc h => ?_) (fun hc h => ?_)
      | refine c_fi h (fun hc h => ?_) (fun hc h => ?_)
      | with_reducible refine mI h (fun hc h => ?_)
      | with_reducible refine mE h (fun hc h => ?_)
      | with_reducible refine mS h (fun h => ?_)
      | refine c_ifs h (fun hc h => ?_) (fun hc h => ?_)
      | refine c_fis h (fun hc h => ?_) (fun hc h => ?_)
      | refine c_dt ?_
      | refine c_df ?_)
    | (show E2 _ _ _ _ _ _ _; first
      | refine n_seq ?_
      | (refine n_end hT ?_; cases h; first | rfl | exact congrArg AV.bool (by rw [Bool.eq_iff_iff]; simp)))
    | with_reducible refine mI h (fun hc h => ?_)
    | with_reducible refine mE h (fun hc h => ?_)
    | with_reducible refine mS h (fun h => ?_)
    | refine mT h (fun h => ?_)
    | refine mF h (fun h => ?_)
    | (cases h; done)
theorem locate_Stops.does {k : Nat} {l0 : S124} {l0s : List S124} {a1_0 : ByteArray} {l1_1 : List (S89)} {a1_2 : Int} {a1_3 : Int} {a1_4 : Int} {a1_5 : Bool} {a1_6 : Int} {a1_7 : Bool} {a1_8 : Bool} {r : ((List (S99)))} (h : locate_Stops.f k (l0 :: l0s) a1_0 l1_1 a1_2 a1_3 a1_4 a1_5 a1_6 a1_7 a1_8 = some r) (G : Objs) : Does Try.prog true 41 [.ptrF (Enc.enc l0), .agg [.str a1_0, .sl (l1_1.map Enc.enc), .int .i64 a1_2, .int .i64 a1_3, .int .i64 a1_4, .bool a1_5, .int .i64 a1_6, .bool a1_7, .bool a1_8]] G (fun x _ => x = .sl (r.map Enc.enc)) := by
  unfold locate_Stops.f at h
  try simp only [rdc124, rdc124', rq_T134, rq_L2, rq_T87, rq_L5, rq_T124, rq_T89, rq_T99, rq_T38, rq_T90, rq_T56, rq_I, rq_bt, wrap64, bl, tl_eq, tl_lit, tl_nil, Bool.false_eq_true, if_false, if_true] at h
  refine does_walk 2 (F := cfg []) tb_ok mixed Try.func41 rfl (fun T hT => ?_)
  repeat' first
    | (show E3 _ _ _ _ _ _ _ _; first
      | refine oBS ?_
      | refine oB ?_
      | refine oLd ?_
      | refine oW ?_
      | refine n_reg [0, 1, 3, 4, 5, 6, 7, 8, 9, 10, 16, 17, 18, 31, 41] ?_
      | refine oAv (⟨_, _⟩ : S99) ?_
      | refine oA (⟨_, _⟩ : S99) ?_
      | refine oAe (⟨_, _⟩ : S99) ?_
      | refine oAl (⟨_, _⟩ : S99) ?_
      | refine oMv ?_
      | refine oM ?_
      | refine oMe ?_
      | refine oMl ?_
      | refine mB h (fun t ht h => oC (vC (fun G => runes_Kind.does ht G)) ?_)
      | refine mB h (fun t ht h => oC (vC (fun G => scaled_Add.does ht G)) ?_)
      | refine mB h (fun t ht h => oC (vC (fun G => locate_shown.does ht G)) ?_)
      | refine mB h (fun t ht h => oC (vC (fun G => locate_styleAt.does ht G)) ?_)
      | refine mB h (fun t ht h => oC (vC (fun G => metrics_Table_Width.does ht G)) ?_)
      | refine mB h (fun t ht h => oC (vC (fun G => locate_space.does ht G)) ?_)
      | refine fz 12 ?_
      | refine fz 28 ?_
      | refine fz 29 ?_
      | refine fz 32 ?_
      | refine fz 36 ?_
      | refine fz 37 ?_
      | refine fz 38 ?_
      | refine fz 35 ?_
      | refine fz 39 ?_
      | refine fz 46 ?_
      | refine fz 47 ?_
      | refine fz 48 ?_
      | refine fz 45 ?_
      | refine fz 49 ?_
      | refine oNx h (fun hc h => ?_) (fun hc h => ?_)
      | with_reducible refine mI h (fun hc h => ?_)
      | with_reducible refine mE h (fun hc h => ?_)
      | with_reducible refine mS h (fun h => ?_)
      | refine oWs ?_
      | refine oWl ?_)
    | (show E1 _ _ _ _ _ _ _; first
      | refine c_seq ?_
      | refine c_reg ?_
      | refine c_blk ?_
      | refine c_exit ?_
      | refine c_ret ?_
      | refine c_skip ?_
      | refine c_tt ?_
      | refine c_ff ?_
      | refine c_if h (fun hc h => ?_) (fun hc h => ?_)
      | refine c_fi h (fun hc h => ?_) (fun hc h => ?_)
      | with_reducible refine mI h (fun hc h => ?_)
      | with_reducible refine mE h (fun hc h => ?_)
      | with_reducible refine mS h (fun h => ?_)
      | refine c_ifs h (fun hc h => ?_) (fun hc h => ?_)
      | refine c_fis h (fun hc h => ?_) (fun hc h => ?_)
      | (refine lp16 (fun x0 x0s x5 x6 x7 x220000 x220001 x220002 x220003 x220004 x220005 x220006 x220007 x220008 x222000 x222001 => [(0, .ptrF (Enc.enc x0)), (5, .own 2 (x5.map Enc.enc)), (6, .int .i64 x6), (7, .int .i64 x7), (3, .lptr 3 0), (16, .iter x222000 x222001.toNat)]) (fun x0 x0s x5 x6 x7 x220000 x220001 x220002 x220003 x220004 x220005 x220006 x220007 x220008 x222000 x222001 => [(3, [.str x220000, .sl (x220001.map Enc.enc), .int .i64 x220002, .int .i64 x220003, .int .i64 x220004, .bool x220005, .int .i64 x220006, .bool x220007, .bool x220008])]) (fun k_ x0 x0s x5 x6 x7 x220000 x220001 x220002 x220003 x220004 x220005 x220006 x220007 x220008 x222000 x222001 => k_ ≤ k ∧ locate_Stops.l0 k_ (x0 :: x0s) x5 x6 x7 x220000 x220001 x220002 x220003 x220004 x220005 x220006 x220007 x220008 x222000 x222001 = some r) ⟨Nat.le_refl _, h⟩ ?_; intro k x0 x0s x5 x6 x7 x220000 x220001 x220002 x220003 x220004 x220005 x220006 x220007 x220008 x222000 x222001 h; obtain ⟨hk, h⟩ := h; rcases k with _ | k; (simp only [locate_Stops.l0] at h; cases h); simp only [locate_Stops.l0, rdc124, rdc124', rq_T134, rq_L2, rq_T87, rq_L5, rq_T124, rq_T89, rq_T99, rq_T38, rq_T90, rq_T56, rq_I, rq_bt, wrap64, bl, tl_eq, tl_lit, tl_nil, Bool.false_eq_true, if_false, if_true, itP_] at h)
      | refine c_dt ?_
      | refine c_df ?_)
    | (show E2 _ _ _ _ _ _ _; first
      | refine n_seq ?_
      | (refine n_end hT ?_; cases h; first | rfl | exact congrArg AV.bool (by rw [Bool.eq_iff_iff]; simp))
      | refine ag16 rfl ⟨by omega, h⟩)
    | with_reducible refine mI h (fun hc h => ?_)
    | with_reducible refine mE h (fun hc h => ?_)
    | with_reducible refine mS h (fun h => ?_)
    | refine mT h (fun h => ?_)
    | refine mF h (fun h => ?_)
    | (cases h; done)
end Go.AL.X
