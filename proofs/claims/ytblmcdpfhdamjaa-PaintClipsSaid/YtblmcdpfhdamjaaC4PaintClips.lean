/- What each function does: it answers as its model tells, and changes nothing (in 8 texts, numbered 5). -/
import Derived.Test.YtblmcdpfhdamjaaC0PaintClips
import Derived.Test.YtblmcdpfhdamjaaC2PaintClips
import Derived.Test.YtblmcdpfhdamjaaC3PaintClips
import Derived.Test.YtblmcdpfhdamjaaTPaintClips
namespace Go.AL.X
open Go.Proofs Go.Proofs.Ytblmcdpfhdamjaa.PPaintClips
set_option linter.unusedVariables false
set_option linter.unusedSimpArgs false
set_option maxRecDepth 100000
set_option maxHeartbeats 16000000
theorem metrics_New.does {k : Nat} {l0 : List (S87)} {r : ((List (S124)) × Int × Int)} (h : metrics_New.f k l0 = some r) (G : Objs) : Does Try.prog true 39 [.sl (l0.map Enc.enc)] G (fun x _ => x = .tup [pv r.1, .int .i64 r.2.1, .int .i64 r.2.2]) := by
  unfold metrics_New.f at h
  try simp only [rdc124, rdc124', rq_T134, rq_L2, rq_T87, rq_L5, rq_T124, rq_T89, rq_T99, rq_T38, rq_T90, rq_T56, rq_I, rq_bt, wrap64, bl, tl_eq, tl_lit, tl_nil, Bool.false_eq_true, if_false, if_true] at h
  refine does_walk 1 (F := cfg [(11, 1007)]) tb_ok mixed Try.func39 rfl (fun T hT => ?_)
  repeat' first
    | (show E3 _ _ _ _ _ _ _ _; first
      | refine oQ vL ?_
      | refine oQ vLv ?_
      | refine oQ vE ?_
      | refine oQ vEv ?_
      | refine oQ vEo ?_
      | refine oQ vpt ?_
      | refine oQ vpf ?_
      | refine oLe vLe ?_
      | refine oBS ?_
      | refine oB ?_
      | refine oLd ?_
      | refine oW ?_
      | refine n_reg [0, 2, 3, 4, 5, 6, 7, 8, 16, 19, 20, 21, 22, 29] ?_
      | refine gYq vL ?_
      | refine gYq vLv ?_
      | refine gYq vE ?_
      | refine gYq vEv ?_
      | refine gYq vEo ?_
      | refine gYq vpt ?_
      | refine gYq vpf ?_
      | refine gLe vLe ?_
      | refine gN ?_
      | refine gNf ?_
      | refine gY ?_
      | refine gT ?_
      | refine oAv (⟨_, _, _⟩ : S134) ?_
      | refine oA (⟨_, _, _⟩ : S134) ?_
      | refine oAe (⟨_, _, _⟩ : S134) ?_
      | refine oAl (⟨_, _, _⟩ : S134) ?_
      | refine oAv (⟨_, _, _, _, _, _, _, _⟩ : S87) ?_
      | refine oA (⟨_, _, _, _, _, _, _, _⟩ : S87) ?_
      | refine oAe (⟨_, _, _, _, _, _, _, _⟩ : S87) ?_
      | refine oAl (⟨_, _, _, _, _, _, _, _⟩ : S87) ?_
      | refine oMv ?_
      | refine oM ?_
      | refine oMe ?_
      | refine oMl ?_
      | refine mB h (fun t ht h => oC (vC (fun G => metrics_check.does ht G)) ?_)
      | refine fz 26 ?_
      | refine gif h (fun hc h => ?_) (fun hc h => ?_)
      | refine gfi h (fun hc h => ?_) (fun hc h => ?_)
      | with_reducible refine mI h (fun hc h => ?_)
      | with_reducible refine mE h (fun hc h => ?_)
      | with_reducible refine mS h (fun h => ?_)
      | refine oWs ?_
      | refine oWl ?_
      | refine gYs ?_
      | refine gifs h (fun hc h => ?_) (fun hc h => ?_)
      | refine gfis h (fun hc h => ?_) (fun hc h => ?_)
      | (fail_if_success (refine g_lit ?_)); refine g_dt ?_
      | (fail_if_success (refine g_lit ?_)); refine g_df ?_)
    | (show E1 _ _ _ _ _ _ _; first
      | refine c_seq ?_
      | refine c_reg ?_
      | (show E1 _ _ _ (.region 11 _ _) _ _ _; refine fzo (.l 7 6) ?_)
      | refine c_drwf ?_
      | refine c_drw ?_
      | refine c_blk ?_
      | refine c_exit ?_
      | refine c_ret ?_
      | refine c_skip ?_
      | refine c_tt ?_
      | refine c_ff ?_
      | refine c_if h (fun hc h => ?_) (fun hc h => ?_)
      | refine c_fi h (fun hc h => ?_) (fun hc h => ?_)
      | with_reducible refine mI h (fun hc h => ?_)
      | with_reducible refine mE h (fun hc h => ?_)
      | with_reducible refine mS h (fun h => ?_)
      | refine c_ifs h (fun hc h => ?_) (fun hc h => ?_)
      | refine c_fis h (fun hc h => ?_) (fun hc h => ?_)
      | (refine lp4 (fun x19 x20 x21 x126000 => [(19, .sl (x19.map Enc.enc)), (20, .int .i64 x20), (21, .int .i64 x21), (5, .lptr 18 0)]) (fun x19 x20 x21 x126000 => [(18, [.own 8 (x126000.map Enc.enc)])]) (fun k_ x19 x20 x21 x126000 => k_ ≤ k ∧ metrics_New.l0 k_ x19 x20 x21 x126000 = some r) ⟨Nat.le_refl _, h⟩ ?_; intro k x19 x20 x21 x126000 h; obtain ⟨hk, h⟩ := h; rcases k with _ | k; (simp only [metrics_New.l0] at h; cases h); simp only [metrics_New.l0, rdc124, rdc124', rq_T134, rq_L2, rq_T87, rq_L5, rq_T124, rq_T89, rq_T99, rq_T38, rq_T90, rq_T56, rq_I, rq_bt, wrap64, bl, tl_eq, tl_lit, tl_nil, Bool.false_eq_true, if_false, if_true] at h)
      | refine c_dt ?_
      | refine c_df ?_)
    | (show E2 _ _ _ _ _ _ _; first
      | refine n_seq ?_
      | (refine n_ends hT ?_; cases h; first | rfl | exact congrArg AV.bool (by rw [Bool.eq_iff_iff]; simp))
      | refine ag4 rfl ⟨by omega, h⟩)
    | (show E4 _ _ _ _ _ _ _; first
      | refine dQ vLe ?_
      | refine dQ vL ?_
      | refine dQ vLv ?_
      | refine dQ vE ?_
      | refine dQ vEv ?_
      | refine dQ vEo ?_
      | refine dQ vpt ?_
      | refine dQ vpf ?_
      | refine dQ vBS ?_
      | refine dW ?_
      | refine dE ?_
      | refine dEl ?_ ?_)
    | (show E5 _ _ _ _ _ _ _; first
      | refine tAl (⟨_, _, _⟩ : S134) ?_
      | refine tA (⟨_, _, _⟩ : S134) ?_
      | refine tAe (⟨_, _, _⟩ : S134) ?_
      | refine tAl (⟨_, _, _, _, _, _, _, _⟩ : S87) ?_
      | refine tA (⟨_, _, _, _, _, _, _, _⟩ : S87) ?_
      | refine tAe (⟨_, _, _, _, _, _, _, _⟩ : S87) ?_
      | refine tMl ?_
      | refine tM ?_
      | refine tMe ?_
      | refine tQ vL ?_
      | refine tQ vLv ?_
      | refine tQ vE ?_
      | refine tQ vEv ?_
      | refine tQ vEo ?_
      | refine tQ vpt ?_
      | refine tQ vpf ?_
      | refine tW ?_
      | refine n_drw [0, 2, 3, 4, 5, 6, 7, 8, 16, 19, 20, 21, 22, 29] ?_)
    | with_reducible refine mI h (fun hc h => ?_)
    | with_reducible refine mE h (fun hc h => ?_)
    | with_reducible refine mS h (fun h => ?_)
    | refine mT h (fun h => ?_)
    | refine mF h (fun h => ?_)
    | (cases h; done)
theorem locate_shown.does {k : Nat} {a0 : ByteArray} {r : (Int)} (h : locate_shown.f k a0 = some r) (G : Objs) : Does Try.prog true 71 [.str a0] G (fun x _ => x = .int .i64 r) := by
  unfold locate_shown.f at h
  try simp only [rdc124, rdc124', rq_T134, rq_L2, rq_T87, rq_L5, rq_T124, rq_T89, rq_T99, rq_T38, rq_T90, rq_T56, rq_I, rq_bt, wrap64, bl, tl_eq, tl_lit, tl_nil, Bool.false_eq_true, if_false, if_true] at h
  refine does_walk 1 (F := cfg []) tb_ok mixed Try.func71 rfl (fun T hT => ?_)
  repeat' first
    | (show E3 _ _ _ _ _ _ _ _; first
      | refine oW ?_
      | refine n_reg [0, 2, 3, 4, 5, 7, 9, 10, 11, 15, 16] ?_
      | refine mB h (fun t ht h => oC (vC (fun G => runes_Kind.does ht G)) ?_)
      | refine mB h (fun t ht h => oC (vC (fun G => runes_First.does ht G)) ?_)
      | refine oNx h (fun hc h => ?_) (fun hc h => ?_)
      | with_reducible refine mI h (fun hc h => ?_)
      | with_reducible refine mE h (fun hc h => ?_)
      | with_reducible refine mS h (fun h => ?_)
      | refine oWs ?_)
    | (show E1 _ _ _ _ _ _ _; first
      | refine c_seq ?_
      | refine c_reg ?_
      | refine c_blk ?_
      | refine c_exit ?_
      | refine c_ret ?_
      | refine c_skip ?_
      | refine c_tt ?_
      | refine c_ff ?_
      | refine c_if h (fun hc h => ?_) (fun hc h => ?_)
      | refine c_fi h (fun hc h => ?_) (fun hc h => ?_)
      | with_reducible refine mI h (fun hc h => ?_)
      | with_reducible refine mE h (fun hc h => ?_)
      | with_reducible refine mS h (fun h => ?_)
      | refine c_ifs h (fun hc h => ?_) (fun hc h => ?_)
      | refine c_fis h (fun hc h => ?_) (fun hc h => ?_)
      | (refine lp4 (fun x0 x3 x153000 x153001 => [(0, .str x0), (3, .int .i64 x3), (9, .iter x153000 x153001.toNat)]) (fun x0 x3 x153000 x153001 => []) (fun k_ x0 x3 x153000 x153001 => k_ ≤ k ∧ locate_shown.l0 k_ x0 x3 x153000 x153001 = some r) ⟨Nat.le_refl _, h⟩ ?_; intro k x0 x3 x153000 x153001 h; obtain ⟨hk, h⟩ := h; rcases k with _ | k; (simp only [locate_shown.l0] at h; cases h); simp only [locate_shown.l0, rdc124, rdc124', rq_T134, rq_L2, rq_T87, rq_L5, rq_T124, rq_T89, rq_T99, rq_T38, rq_T90, rq_T56, rq_I, rq_bt, wrap64, bl, tl_eq, tl_lit, tl_nil, Bool.false_eq_true, if_false, if_true, itP_] at h)
      | refine c_dt ?_
      | refine c_df ?_)
    | (show E2 _ _ _ _ _ _ _; first
      | refine n_seq ?_
      | (refine n_end hT ?_; cases h; first | rfl | exact congrArg AV.bool (by rw [Bool.eq_iff_iff]; simp))
      | refine ag4 rfl ⟨by omega, h⟩)
    | with_reducible refine mI h (fun hc h => ?_)
    | with_reducible refine mE h (fun hc h => ?_)
    | with_reducible refine mS h (fun h => ?_)
    | refine mT h (fun h => ?_)
    | refine mF h (fun h => ?_)
    | (cases h; done)
theorem metrics_Table_Width.does {k : Nat} {l0 : S124} {l0s : List S124} {a1 : Int} {a2 : Int} {r : (Int)} (h : metrics_Table_Width.f k (l0 :: l0s) a1 a2 = some r) (G : Objs) : Does Try.prog true 73 [.ptrF (Enc.enc l0), .int .i64 a1, .int .i32 a2] G (fun x _ => x = .int .i64 r) := by
  unfold metrics_Table_Width.f at h
  try simp only [rdc124, rdc124', rq_T134, rq_L2, rq_T87, rq_L5, rq_T124, rq_T89, rq_T99, rq_T38, rq_T90, rq_T56, rq_I, rq_bt, wrap64, bl, tl_eq, tl_lit, tl_nil, Bool.false_eq_true, if_false, if_true] at h
  refine does_walk 3 (F := cfg []) tb_ok mixed Try.func73 rfl (fun T hT => ?_)
  repeat' first
    | (show E3 _ _ _ _ _ _ _ _; first
      | refine oLd ?_
      | refine oW ?_
      | refine n_reg [0, 1, 2, 6, 7, 12, 13, 18] ?_
      | refine mB h (fun t ht h => oC (vC (fun G => runes_Kind.does ht G)) ?_)
      | refine mB h (fun t ht h => oC (vC (fun G => metrics_Table_of.does ht G)) ?_)
      | refine mB h (fun t ht h => oC (vC (fun G => metrics_lookup.does ht G)) ?_)
      | with_reducible refine mI h (fun hc h => ?_)
      | with_reducible refine mE h (fun hc h => ?_)
      | with_reducible refine mS h (fun h => ?_)
      | refine oWs ?_
      | refine oWl ?_)
    | (show E1 _ _ _ _ _ _ _; first
      | refine c_seq ?_
      | refine c_reg ?_
      | refine c_blk ?_
      | refine c_ret ?_
      | refine c_skip ?_
      | refine c_tt ?_
      | refine c_ff ?_
      | refine c_if h (fun hc h => ?_) (fun hc h => ?_)
      | refine c_fi h (fun hc h => ?_) (fun hc h => ?_)
      | with_reducible refine mI h (fun hc h => ?_)
      | with_reducible refine mE h (fun hc h => ?_)
      | with_reducible refine mS h (fun h => ?_)
      | refine c_ifs h (fun hc h => ?_) (fun hc h => ?_)
      | refine c_fis h (fun hc h => ?_) (fun hc h => ?_)
      | refine c_dt ?_
      | refine c_df ?_)
    | (show E2 _ _ _ _ _ _ _; first
      | refine n_seq ?_
      | (refine n_end hT ?_; cases h; first | rfl | exact congrArg AV.bool (by rw [Bool.eq_iff_iff]; simp)))
    | with_reducible refine mI h (fun hc h => ?_)
    | with_reducible refine mE h (fun hc h => ?_)
    | with_reducible refine mS h (fun h => ?_)
    | (rcases k with _ | k; (simp only [metrics_Table_Width.j0] at h; cases h); simp only [metrics_Table_Width.j0, rdc124, rdc124', rq_T134, rq_L2, rq_T87, rq_L5, rq_T124, rq_T89, rq_T99, rq_T38, rq_T90, rq_T56, rq_I, rq_bt, wrap64, bl, tl_eq, tl_lit, tl_nil, Bool.false_eq_true, if_false, if_true] at h)
    | refine mT h (fun h => ?_)
    | refine mF h (fun h => ?_)
    | (cases h; done)
theorem metrics_Table_Space.does {l0 : S124} {l0s : List S124} {a1 : Int} {r : (Int × Int × Int)} (h : metrics_Table_Space.f (l0 :: l0s) a1 = some r) (G : Objs) : Does Try.prog true 91 [.ptrF (Enc.enc l0), .int .i64 a1] G (fun x _ => x = .tup [.int .i64 r.1, .int .i64 r.2.1, .int .i64 r.2.2]) := by
  unfold metrics_Table_Space.f at h
  try simp only [rdc124, rdc124', rq_T134, rq_L2, rq_T87, rq_L5, rq_T124, rq_T89, rq_T99, rq_T38, rq_T90, rq_T56, rq_I, rq_bt, wrap64, bl, tl_eq, tl_lit, tl_nil, Bool.false_eq_true, if_false, if_true] at h
  refine does_walk 2 (F := cfg [(2, 8)]) tb_ok mixed Try.func91 rfl (fun T hT => ?_)
  repeat' first
    | (show E3 _ _ _ _ _ _ _ _; first
      | refine oW ?_
      | refine n_reg [0, 1, 4, 5, 6, 7] ?_
      | refine mB h (fun t ht h => oC (vC (fun G => metrics_Table_of.does ht G)) ?_)
      | with_reducible refine mI h (fun hc h => ?_)
      | with_reducible refine mE h (fun hc h => ?_)
      | with_reducible refine mS h (fun h => ?_)
      | refine oWs ?_
      | refine oWl ?_)
    | (show E1 _ _ _ _ _ _ _; first
      | refine c_seq ?_
      | refine c_reg ?_
      | refine c_drwf ?_
      | refine c_drw ?_
      | refine c_ret ?_)
    | (show E2 _ _ _ _ _ _ _; first
      | refine n_seq ?_
      | (refine n_ends hT ?_; cases h; first | rfl | exact congrArg AV.bool (by rw [Bool.eq_iff_iff]; simp)))
    | (show E4 _ _ _ _ _ _ _; first
      | refine dW ?_
      | refine dE ?_)
    | (show E5 _ _ _ _ _ _ _; first
      | refine tW ?_
      | refine n_drw [0, 1, 4, 5, 6, 7] ?_)
    | with_reducible refine mI h (fun hc h => ?_)
    | with_reducible refine mE h (fun hc h => ?_)
    | with_reducible refine mS h (fun h => ?_)
    | refine mT h (fun h => ?_)
    | refine mF h (fun h => ?_)
    | (cases h; done)
theorem bits_Div64.does {k : Nat} {a0 : Int} {a1 : Int} {a2 : Int} {r : (Int × Int)} (h : bits_Div64.f k a0 a1 a2 = some r) (G : Objs) : Does Try.prog true 120 [.int .u64 a0, .int .u64 a1, .int .u64 a2] G (fun x _ => x = .tup [.int .u64 r.1, .int .u64 r.2]) := by
  unfold bits_Div64.f at h
  try simp only [rdc124, rdc124', rq_T134, rq_L2, rq_T87, rq_L5, rq_T124, rq_T89, rq_T99, rq_T38, rq_T90, rq_T56, rq_I, rq_bt, wrap64, bl, tl_eq, tl_lit, tl_nil, Bool.false_eq_true, if_false, if_true] at h
  refine does_walk 3 (F := cfg [(6, 7)]) tb_ok mixed Try.func120 rfl (fun T hT => ?_)
  repeat' first
    | (show E3 _ _ _ _ _ _ _ _; first
      | refine oQ (vShr 4294967296) ?_
      | refine oQ vpt ?_
      | refine oQ vpf ?_
      | refine oW ?_
      | refine n_reg [0, 1, 2, 6, 7, 8, 9, 10, 11, 12, 13, 14, 15, 16, 17, 18, 20, 24, 27, 78, 85, 113, 120] ?_
      | refine gYq (vShr 4294967296) ?_
      | refine gYq vpt ?_
      | refine gYq vpf ?_
      | refine gN ?_
      | refine gNf ?_
      | refine gY ?_
      | refine gT ?_
      | refine mB h (fun t ht h => oC (vC (fun G => bits_LeadingZeros64.does ht G)) ?_)
      | refine gif h (fun hc h => ?_) (fun hc h => ?_)
      | refine gfi h (fun hc h => ?_) (fun hc h => ?_)
      | with_reducible refine mI h (fun hc h => ?_)
      | with_reducible refine mE h (fun hc h => ?_)
      | with_reducible refine mS h (fun h => ?_)
      | refine oWs ?_
      | refine gYs ?_
      | refine gifs h (fun hc h => ?_) (fun hc h => ?_)
      | refine gfis h (fun hc h => ?_) (fun hc h => ?_)
      | (fail_if_success (refine g_lit ?_)); refine g_dt ?_
      | (fail_if_success (refine g_lit ?_)); refine g_df ?_)
    | (show E1 _ _ _ _ _ _ _; first
      | refine c_seq ?_
      | refine c_reg ?_
      | refine c_drwf ?_
      | refine c_drw ?_
      | refine c_blk ?_
      | refine c_exit ?_
      | refine c_ret ?_
      | refine c_skip ?_
      | refine c_tt ?_
      | refine c_ff ?_
      | refine c_if h (fun hc h => ?_) (fun hc h => ?_)
      | refine c_fi h (fun hc h => ?_) (fun hc h => ?_)
      | with_reducible refine mI h (fun hc h => ?_)
      | with_reducible refine mE h (fun hc h => ?_)
      | with_reducible refine mS h (fun h => ?_)
      | refine c_ifs h (fun hc h => ?_) (fun hc h => ?_)
      | refine c_fis h (fun hc h => ?_) (fun hc h => ?_)
      | (refine lp9 (fun x2 x8 x9 x10 x14 x15 x16 x17 x18 => [(2, .int .u64 x2), (8, .int .u64 x8), (9, .int .u64 x9), (10, .int .u64 x10), (14, .int .u64 x14), (15, .int .u64 x15), (16, .int .u64 x16), (17, .int .u64 x17), (18, .int .u64 x18)]) (fun x2 x8 x9 x10 x14 x15 x16 x17 x18 => []) (fun k_ x2 x8 x9 x10 x14 x15 x16 x17 x18 => k_ ≤ k ∧ bits_Div64.l1 k_ x2 x8 x9 x10 x14 x15 x16 x17 x18 = some r) ⟨Nat.le_refl _, h⟩ ?_; intro k x2 x8 x9 x10 x14 x15 x16 x17 x18 h; obtain ⟨hk, h⟩ := h; rcases k with _ | k; (simp only [bits_Div64.l1] at h; cases h); simp only [bits_Div64.l1, rdc124, rdc124', rq_T134, rq_L2, rq_T87, rq_L5, rq_T124, rq_T89, rq_T99, rq_T38, rq_T90, rq_T56, rq_I, rq_bt, wrap64, bl, tl_eq, tl_lit, tl_nil, Bool.false_eq_true, if_false, if_true] at h)
      | (refine lp9 (fun x2 x8 x9 x10 x11 x13 x14 x15 x16 => [(2, .int .u64 x2), (8, .int .u64 x8), (9, .int .u64 x9), (10, .int .u64 x10), (11, .int .u64 x11), (13, .int .u64 x13), (14, .int .u64 x14), (15, .int .u64 x15), (16, .int .u64 x16)]) (fun x2 x8 x9 x10 x11 x13 x14 x15 x16 => []) (fun k_ x2 x8 x9 x10 x11 x13 x14 x15 x16 => k_ ≤ k ∧ bits_Div64.l0 k_ x2 x8 x9 x10 x11 x13 x14 x15 x16 = some r) ⟨Nat.le_refl _, h⟩ ?_; intro k x2 x8 x9 x10 x11 x13 x14 x15 x16 h; obtain ⟨hk, h⟩ := h; rcases k with _ | k; (simp only [bits_Div64.l0] at h; cases h); simp only [bits_Div64.l0, rdc124, rdc124', rq_T134, rq_L2, rq_T87, rq_L5, rq_T124, rq_T89, rq_T99, rq_T38, rq_T90, rq_T56, rq_I, rq_bt, wrap64, bl, tl_eq, tl_lit, tl_nil, Bool.false_eq_true, if_false, if_true] at h)
      | refine c_dt ?_
      | refine c_df ?_)
    | (show E2 _ _ _ _ _ _ _; first
      | refine n_seq ?_
      | (refine n_ends hT ?_; cases h; first | rfl | exact congrArg AV.bool (by rw [Bool.eq_iff_iff]; simp))
      | refine ag9 rfl ⟨by omega, h⟩)
    | (show E4 _ _ _ _ _ _ _; first
      | refine dQ (vShr 4294967296) ?_
      | refine dQ vpt ?_
      | refine dQ vpf ?_
      | refine dW ?_
      | refine dE ?_)
    | (show E5 _ _ _ _ _ _ _; first
      | refine tQ (vShr 4294967296) ?_
      | refine tQ vpt ?_
      | refine tQ vpf ?_
      | refine tW ?_
      | refine n_drw [0, 1, 2, 6, 7, 8, 9, 10, 11, 12, 13, 14, 15, 16, 17, 18, 20, 24, 27, 78, 85, 113, 120] ?_)
    | with_reducible refine mI h (fun hc h => ?_)
    | with_reducible refine mE h (fun hc h => ?_)
    | with_reducible refine mS h (fun h => ?_)
    | (rcases k with _ | k; (simp only [bits_Div64.j2] at h; cases h); simp only [bits_Div64.j2, rdc124, rdc124', rq_T134, rq_L2, rq_T87, rq_L5, rq_T124, rq_T89, rq_T99, rq_T38, rq_T90, rq_T56, rq_I, rq_bt, wrap64, bl, tl_eq, tl_lit, tl_nil, Bool.false_eq_true, if_false, if_true] at h)
    | (rcases k with _ | k; (simp only [bits_Div64.j4] at h; cases h); simp only [bits_Div64.j4, rdc124, rdc124', rq_T134, rq_L2, rq_T87, rq_L5, rq_T124, rq_T89, rq_T99, rq_T38, rq_T90, rq_T56, rq_I, rq_bt, wrap64, bl, tl_eq, tl_lit, tl_nil, Bool.false_eq_true, if_false, if_true] at h)
    | (rcases k with _ | k; (simp only [bits_Div64.j1] at h; cases h); simp only [bits_Div64.j1, rdc124, rdc124', rq_T134, rq_L2, rq_T87, rq_L5, rq_T124, rq_T89, rq_T99, rq_T38, rq_T90, rq_T56, rq_I, rq_bt, wrap64, bl, tl_eq, tl_lit, tl_nil, Bool.false_eq_true, if_false, if_true] at h)
    | refine mT h (fun h => ?_)
    | refine mF h (fun h => ?_)
    | (cases h; done)
theorem scaled_Sub.does {a0 : Int} {a1 : Int} {r : (Int)} (h : scaled_Sub.f a0 a1 = some r) (G : Objs) : Does Try.prog true 45 [.int .i64 a0, .int .i64 a1] G (fun x _ => x = .int .i64 r) := by
  unfold scaled_Sub.f at h
  try simp only [rdc124, rdc124', rq_T134, rq_L2, rq_T87, rq_L5, rq_T124, rq_T89, rq_T99, rq_T38, rq_T90, rq_T56, rq_I, rq_bt, wrap64, bl, tl_eq, tl_lit, tl_nil, Bool.false_eq_true, if_false, if_true] at h
  refine does_walk 2 (F := cfg []) tb_ok mixed Try.func45 rfl (fun T hT => ?_)
  repeat' first
    | (show E3 _ _ _ _ _ _ _ _; first
      | refine oW ?_
      | refine n_reg [0, 1, 4] ?_
      | refine mB h (fun t ht h => oC (vC (fun G => scaled_Add.does ht G)) ?_)
      | refine mB h (fun t ht h => oC (vC (fun G => scaled_Neg.does ht G)) ?_)
      | with_reducible refine mI h (fun hc h => ?_)
      | with_reducible refine mE h (fun hc h => ?_)
      | with_reducible refine mS h (fun h => ?_)
      | refine oWs ?_)
    | (show E1 _ _ _ _ _ _ _; first
      | refine c_seq ?_
      | refine c_reg ?_
      | refine c_ret ?_)
    | (show E2 _ _ _ _ _ _ _; first
      | refine n_seq ?_
      | (refine n_end hT ?_; cases h; first | rfl | exact congrArg AV.bool (by rw [Bool.eq_iff_iff]; simp)))
    | with_reducible refine mI h (fun hc h => ?_)
    | with_reducible refine mE h (fun hc h => ?_)
    | with_reducible refine mS h (fun h => ?_)
    | refine mT h (fun h => ?_)
    | refine mF h (fun h => ?_)
    | (cases h; done)
theorem metrics_Table_Hyphen.does {l0 : S124} {l0s : List S124} {a1 : Int} {r : (Int)} (h : metrics_Table_Hyphen.f (l0 :: l0s) a1 = some r) (G : Objs) : Does Try.prog true 47 [.ptrF (Enc.enc l0), .int .i64 a1] G (fun x _ => x = .int .i64 r) := by
  unfold metrics_Table_Hyphen.f at h
  try simp only [rdc124, rdc124', rq_T134, rq_L2, rq_T87, rq_L5, rq_T124, rq_T89, rq_T99, rq_T38, rq_T90, rq_T56, rq_I, rq_bt, wrap64, bl, tl_eq, tl_lit, tl_nil, Bool.false_eq_true, if_false, if_true] at h
  refine does_walk 2 (F := cfg []) tb_ok mixed Try.func47 rfl (fun T hT => ?_)
  repeat' first
    | (show E3 _ _ _ _ _ _ _ _; first
      | refine oW ?_
      | refine n_reg [0, 1, 4] ?_
      | refine mB h (fun t ht h => oC (vC (fun G => metrics_Table_of.does ht G)) ?_)
      | with_reducible refine mI h (fun hc h => ?_)
      | with_reducible refine mE h (fun hc h => ?_)
      | with_reducible refine mS h (fun h => ?_)
      | refine oWs ?_)
    | (show E1 _ _ _ _ _ _ _; first
      | refine c_seq ?_
      | refine c_reg ?_
      | refine c_ret ?_)
    | (show E2 _ _ _ _ _ _ _; first
      | refine n_seq ?_
      | (refine n_end hT ?_; cases h; first | rfl | exact congrArg AV.bool (by rw [Bool.eq_iff_iff]; simp)))
    | with_reducible refine mI h (fun hc h => ?_)
    | with_reducible refine mE h (fun hc h => ?_)
    | with_reducible refine mS h (fun h => ?_)
    | refine mT h (fun h => ?_)
    | refine mF h (fun h => ?_)
    | (cases h; done)
theorem slices_DeleteFunc.does {k : Nat} {o0 : List (S90)} {r : ((List (S90)))} (h : slices_DeleteFunc.f k o0 = some r) (G : Objs) : DoesT Try.prog true 64 [.own 3 (o0.map Enc.enc), .fn 66 []] G (fun x _ => x = .own 3 (r.map Enc.enc)) := by
  unfold slices_DeleteFunc.f at h
  try simp only [rdc124, rdc124', rq_T134, rq_L2, rq_T87, rq_L5, rq_T124, rq_T89, rq_T99, rq_T38, rq_T90, rq_T56, rq_I, rq_bt, wrap64, bl, tl_eq, tl_lit, tl_nil, Bool.false_eq_true, if_false, if_true] at h
  refine doesT_walk 2 (F := cfg []) tb_ok mixed Try.func64 rfl (fun T hT => ?_)
  repeat' first
    | (show E3 _ _ _ _ _ _ _ _; first
      | refine oQ vL ?_
      | refine oQ vLv ?_
      | refine oQ vE ?_
      | refine oQ vEv ?_
      | refine oQ vEo ?_
      | refine oQ vSl ?_
      | refine oQ vSlv ?_
      | refine oQ vSh ?_
      | refine oQ vShv ?_
      | refine oLe vLe ?_
      | refine oLd ?_
      | refine oSh ?_
      | refine oVw ?_
      | refine mB h (fun t ht h => oCf (fun G => paint_Join_1.does ht G) ?_)
      | refine oClr z90 ?_
      | refine oW ?_
      | refine n_reg [0, 1, 4, 5, 6, 7, 12, 19, 29] ?_
      | refine mB h (fun t ht h => oC (vC (fun G => slices_IndexFunc.does ht G)) ?_)
      | refine fz 8 ?_
      | refine fz 9 ?_
      | refine fz 27 ?_
      | with_reducible refine mI h (fun hc h => ?_)
      | with_reducible refine mE h (fun hc h => ?_)
      | with_reducible refine mS h (fun h => ?_)
      | refine oSf (α := S90) (β := S90) (fun _ z => z) (fun z => AV.agg (Enc.enc z)) ?_
      | refine oWs ?_
      | refine oWl ?_)
    | (show E1 _ _ _ _ _ _ _; first
      | refine c_seq ?_
      | refine c_reg ?_
      | refine c_blk ?_
      | refine c_exit ?_
      | refine c_ret ?_
      | refine c_skip ?_
      | refine c_tt ?_
      | refine c_ff ?_
      | refine c_if h (fun hc h => ?_) (fun hc h => ?_)
      | refine c_fi h (fun hc h => ?_) (fun hc h => ?_)
      | with_reducible refine mI h (fun hc h => ?_)
      | with_reducible refine mE h (fun hc h => ?_)
      | with_reducible refine mS h (fun h => ?_)
      | refine c_ifs h (fun hc h => ?_) (fun hc h => ?_)
      | refine c_fis h (fun hc h => ?_) (fun hc h => ?_)
      | (refine lp3 (fun x0 x5 x6 => [(0, .own 3 (x0.map Enc.enc)), (5, .int .i64 x5), (6, .int .i64 x6), (1, .fn 66 [])]) (fun x0 x5 x6 => []) (fun k_ x0 x5 x6 => k_ ≤ k ∧ slices_DeleteFunc.l0 k_ x0 x5 x6 = some r) ⟨Nat.le_refl _, h⟩ ?_; intro k x0 x5 x6 h; obtain ⟨hk, h⟩ := h; rcases k with _ | k; (simp only [slices_DeleteFunc.l0] at h; cases h); simp only [slices_DeleteFunc.l0, rdc124, rdc124', rq_T134, rq_L2, rq_T87, rq_L5, rq_T124, rq_T89, rq_T99, rq_T38, rq_T90, rq_T56, rq_I, rq_bt, wrap64, bl, tl_eq, tl_lit, tl_nil, Bool.false_eq_true, if_false, if_true] at h)
      | refine c_dt ?_
      | refine c_df ?_)
    | (show E2 _ _ _ _ _ _ _; first
      | (refine n_endO hT ?_; cases h; first | rfl | exact congrArg (AV.own _) (by simp))
      | refine n_seq ?_
      | (refine n_end hT ?_; cases h; first | rfl | exact congrArg AV.bool (by rw [Bool.eq_iff_iff]; simp))
      | refine ag3 rfl ⟨by omega, h⟩)
    | (show E4 _ _ _ _ _ _ _; first
      | refine dQ vLe ?_)
    | (show E5 _ _ _ _ _ _ _; first
      | refine tSf (α := S90) (β := S90) (fun _ z => z) (fun z => AV.agg (Enc.enc z)) ?_)
    | with_reducible refine mI h (fun hc h => ?_)
    | with_reducible refine mE h (fun hc h => ?_)
    | with_reducible refine mS h (fun h => ?_)
    | refine mT h (fun h => ?_)
    | refine mF h (fun h => ?_)
    | (cases h; done)
end Go.AL.X
