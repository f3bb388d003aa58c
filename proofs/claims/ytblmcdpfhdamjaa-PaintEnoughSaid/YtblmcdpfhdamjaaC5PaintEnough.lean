/- What each function does: it answers as its model tells, and changes nothing (in 11 texts, numbered 6). -/
import Derived.Test.YtblmcdpfhdamjaaC0PaintEnough
import Derived.Test.YtblmcdpfhdamjaaC1PaintEnough
import Derived.Test.YtblmcdpfhdamjaaC2PaintEnough
import Derived.Test.YtblmcdpfhdamjaaC3PaintEnough
import Derived.Test.YtblmcdpfhdamjaaC4PaintEnough
import Derived.Test.YtblmcdpfhdamjaaTPaintEnough
namespace Go.AL.X
open Go.Proofs Go.Proofs.Ytblmcdpfhdamjaa.PPaintEnough
set_option linter.unusedVariables false
set_option linter.unusedSimpArgs false
set_option maxRecDepth 100000
set_option maxHeartbeats 16000000
theorem metrics_Table_Space.does {l0 : S124} {l0s : List S124} {a1 : Int} {r : (Int × Int × Int)} (h : metrics_Table_Space.f (l0 :: l0s) a1 = some r) (G : Objs) : Does Try.prog true 91 [.ptrF (Enc.enc l0), .int .i64 a1] G (fun x _ => x = .tup [.int .i64 r.1, .int .i64 r.2.1, .int .i64 r.2.2]) := by
  unfold metrics_Table_Space.f at h
  try simp only [rdc124, rdc124', rq_T134, rq_L2, rq_T87, rq_L5, rq_T124, rq_T89, rq_T99, rq_T38, rq_T90, rq_T56, rq_L13, rq_T25, rq_L15, rq_T66, rq_T113, rq_L18, rq_I, rq_bt, wrap64, bl, tl_eq, tl_lit, tl_nil, Bool.false_eq_true, if_false, if_true] at h
  refine does_walk 2 (F := cfg [(2, 8)]) tb_ok mixed Try.func91 rfl (fun T hT => ?_)
  repeat' first
    | (show E3 _ _ _ _ _ _ _ _; first
      | refine oW ?_
      | refine n_reg [0, 1, 4, 5, 6, 7] ?_
      | refine mB h (fun t ht h => oC (vC (fun G => metrics_Table_of.does ht G)) ?_)
      | with_reducible refine mI h (fun hc h => ?_)
      | with_reducible refine mE h (fun hc h => ?_)
      | with_reducible refine mS h (fun h => ?_)
      | refine oWs ?_
      | refine oWl ?_)
    | (show E1 _ _ _ _ _ _ _; first
      | refine c_seq ?_
      | refine c_reg ?_
      | refine c_drwf ?_
      | refine c_drw ?_
      | refine c_ret ?_)
    | (show E2 _ _ _ _ _ _ _; first
      | refine n_seq ?_
      | (refine n_ends hT ?_; cases h; first | rfl | exact congrArg AV.bool (by rw [Bool.eq_iff_iff]; simp)))
    | (show E4 _ _ _ _ _ _ _; first
      | refine dW ?_
      | refine dE ?_)
    | (show E5 _ _ _ _ _ _ _; first
      | refine tW ?_
      | refine n_drw [0, 1, 4, 5, 6, 7] ?_)
    | with_reducible refine mI h (fun hc h => ?_)
    | with_reducible refine mE h (fun hc h => ?_)
    | with_reducible refine mS h (fun h => ?_)
    | refine mT h (fun h => ?_)
    | refine mF h (fun h => ?_)
    | (cases h; done)
theorem bits_Div64.does {k : Nat} {a0 : Int} {a1 : Int} {a2 : Int} {r : (Int × Int)} (h : bits_Div64.f k a0 a1 a2 = some r) (G : Objs) : Does Try.prog true 120 [.int .u64 a0, .int .u64 a1, .int .u64 a2] G (fun x _ => x = .tup [.int .u64 r.1, .int .u64 r.2]) := by
  unfold bits_Div64.f at h
  try simp only [rdc124, rdc124', rq_T134, rq_L2, rq_T87, rq_L5, rq_T124, rq_T89, rq_T99, rq_T38, rq_T90, rq_T56, rq_L13, rq_T25, rq_L15, rq_T66, rq_T113, rq_L18, rq_I, rq_bt, wrap64, bl, tl_eq, tl_lit, tl_nil, Bool.false_eq_true, if_false, if_true] at h
  refine does_walk 3 (F := cfg [(6, 7)]) tb_ok mixed Try.func120 rfl (fun T hT => ?_)
  repeat' first
    | (show E3 _ _ _ _ _ _ _ _; first
      | refine oQ (vShr 4294967296) ?_
      | refine oQ vpt ?_
      | refine oQ vpf ?_
      | refine oW ?_
      | refine n_reg [0, 1, 2, 6, 7, 8, 9, 10, 11, 12, 13, 14, 15, 16, 17, 18, 20, 24, 27, 78, 85, 113, 120] ?_
      | refine gYq (vShr 4294967296) ?_
      | refine gYq vpt ?_
      | refine gYq vpf ?_
      | refine gN ?_
      | refine gNf ?_
      | refine gY ?_
      | refine gT ?_
      | refine mB h (fun t ht h => oC (vC (fun G => bits_LeadingZeros64.does ht G)) ?_)
      | refine gif h (fun hc h => ?_) (fun hc h => ?_)
      | refine gfi h (fun hc h => ?_) (fun hc h => ?_)
      | with_reducible refine mI h (fun hc h => ?_)
      | with_reducible refine mE h (fun hc h => ?_)
      | with_reducible refine mS h (fun h => ?_)
      | refine oWs ?_
      | refine gYs ?_
      | refine gifs h (fun hc h => ?_) (fun hc h => ?_)
      | refine gfis h (fun hc h => ?_) (fun hc h => ?_)
      | (fail_if_success (refine g_lit ?_)); refine g_dt ?_
      | (fail_if_success (refine g_lit ?_)); refine g_df ?_)
    | (show E1 _ _ _ _ _ _ _; first
      | refine c_seq ?_
      | refine c_reg ?_
      | refine c_drwf ?_
      | refine c_drw ?_
      | refine c_blk ?_
      | refine c_exit ?_
      | refine c_ret ?_
      | refine c_skip ?_
      | refine c_tt ?_
      | refine c_ff ?_
      | refine c_if h (fun hc h => ?_) (fun hc h => ?_)
      | refine c_fi h (fun hc h => ?_) (fun hc h => ?_)
      | with_reducible refine mI h (fun hc h => ?_)
      | with_reducible refine mE h (fun hc h => ?_)
      | with_reducible refine mS h (fun h => ?_)
      | refine c_ifs h (fun hc h => ?_) (fun hc h => ?_)
      | refine c_fis h (fun hc h => ?_) (fun hc h => ?_)
      | (refine lp9 (fun x2 x8 x9 x10 x14 x15 x16 x17 x18 => [(2, .int .u64 x2), (8, .int .u64 x8), (9, .int .u64 x9), (10, .int .u64 x10), (14, .int .u64 x14), (15, .int .u64 x15), (16, .int .u64 x16), (17, .int .u64 x17), (18, .int .u64 x18)]) (fun x2 x8 x9 x10 x14 x15 x16 x17 x18 => []) (fun k_ x2 x8 x9 x10 x14 x15 x16 x17 x18 => k_ ≤ k ∧ bits_Div64.l1 k_ x2 x8 x9 x10 x14 x15 x16 x17 x18 = some r) ⟨Nat.le_refl _, h⟩ ?_; intro k x2 x8 x9 x10 x14 x15 x16 x17 x18 h; obtain ⟨hk, h⟩ := h; rcases k with _ | k; (simp only [bits_Div64.l1] at h; cases h); simp only [bits_Div64.l1, rdc124, rdc124', rq_T134, rq_L2, rq_T87, rq_L5, rq_T124, rq_T89, rq_T99, rq_T38, rq_T90, rq_T56, rq_L13, rq_T25, rq_L15, rq_T66, rq_T113, rq_L18, rq_I, rq_bt, wrap64, bl, tl_eq, tl_lit, tl_nil, Bool.false_eq_true, if_false, if_true] at h)
      | (refine lp9 (fun x2 x8 x9 x10 x11 x13 x14 x15 x16 => [(2, .int .u64 x2), (8, .int .u64 x8), (9, .int .u64 x9), (10, .int .u64 x10), (11, .int .u64 x11), (13, .int .u64 x13), (14, .int .u64 x14), (15, .int .u64 x15), (16, .int .u64 x16)]) (fun x2 x8 x9 x10 x11 x13 x14 x15 x16 => []) (fun k_ x2 x8 x9 x10 x11 x13 x14 x15 x16 => k_ ≤ k ∧ bits_Div64.l0 k_ x2 x8 x9 x10 x11 x13 x14 x15 x16 = some r) ⟨Nat.le_refl _, h⟩ ?_; intro k x2 x8 x9 x10 x11 x13 x14 x15 x16 h; obtain ⟨hk, h⟩ := h; rcases k with _ | k; (simp only [bits_Div64.l0] at h; cases h); simp only [bits_Div64.l0, rdc124, rdc124', rq_T134, rq_L2, rq_T87, rq_L5, rq_T124, rq_T89, rq_T99, rq_T38, rq_T90, rq_T56, rq_L13, rq_T25, rq_L15, rq_T66, rq_T113, rq_L18, rq_I, rq_bt, wrap64, bl, tl_eq, tl_lit, tl_nil, Bool.false_eq_true, if_false, if_true] at h)
      | refine c_dt ?_
      | refine c_df ?_)
    | (show E2 _ _ _ _ _ _ _; first
      | refine n_seq ?_
      | (refine n_ends hT ?_; cases h; first | rfl | exact congrArg AV.bool (by rw [Bool.eq_iff_iff]; simp))
      | refine ag9 rfl ⟨by omega, h⟩)
    | (show E4 _ _ _ _ _ _ _; first
      | refine dQ (vShr 4294967296) ?_
      | refine dQ vpt ?_
      | refine dQ vpf ?_
      | refine dW ?_
      | refine dE ?_)
    | (show E5 _ _ _ _ _ _ _; first
      | refine tQ (vShr 4294967296) ?_
      | refine tQ vpt ?_
      | refine tQ vpf ?_
      | refine tW ?_
      | refine n_drw [0, 1, 2, 6, 7, 8, 9, 10, 11, 12, 13, 14, 15, 16, 17, 18, 20, 24, 27, 78, 85, 113, 120] ?_)
    | with_reducible refine mI h (fun hc h => ?_)
    | with_reducible refine mE h (fun hc h => ?_)
    | with_reducible refine mS h (fun h => ?_)
    | (rcases k with _ | k; (simp only [bits_Div64.j2] at h; cases h); simp only [bits_Div64.j2, rdc124, rdc124', rq_T134, rq_L2, rq_T87, rq_L5, rq_T124, rq_T89, rq_T99, rq_T38, rq_T90, rq_T56, rq_L13, rq_T25, rq_L15, rq_T66, rq_T113, rq_L18, rq_I, rq_bt, wrap64, bl, tl_eq, tl_lit, tl_nil, Bool.false_eq_true, if_false, if_true] at h)
    | (rcases k with _ | k; (simp only [bits_Div64.j4] at h; cases h); simp only [bits_Div64.j4, rdc124, rdc124', rq_T134, rq_L2, rq_T87, rq_L5, rq_T124, rq_T89, rq_T99, rq_T38, rq_T90, rq_T56, rq_L13, rq_T25, rq_L15, rq_T66, rq_T113, rq_L18, rq_I, rq_bt, wrap64, bl, tl_eq, tl_lit, tl_nil, Bool.false_eq_true, if_false, if_true] at h)
    | (rcases k with _ | k; (simp only [bits_Div64.j1] at h; cases h); simp only [bits_Div64.j1, rdc124, rdc124', rq_T134, rq_L2, rq_T87, rq_L5, rq_T124, rq_T89, rq_T99, rq_T38, rq_T90, rq_T56, rq_L13, rq_T25, rq_L15, rq_T66, rq_T113, rq_L18, rq_I, rq_bt, wrap64, bl, tl_eq, tl_lit, tl_nil, Bool.false_eq_true, if_false, if_true] at h)
    | refine mT h (fun h => ?_)
    | refine mF h (fun h => ?_)
    | (cases h; done)
theorem scaled_Sub.does {a0 : Int} {a1 : Int} {r : (Int)} (h : scaled_Sub.f a0 a1 = some r) (G : Objs) : Does Try.prog true 45 [.int .i64 a0, .int .i64 a1] G (fun x _ => x = .int .i64 r) := by
  unfold scaled_Sub.f at h
  try simp only [rdc124, rdc124', rq_T134, rq_L2, rq_T87, rq_L5, rq_T124, rq_T89, rq_T99, rq_T38, rq_T90, rq_T56, rq_L13, rq_T25, rq_L15, rq_T66, rq_T113, rq_L18, rq_I, rq_bt, wrap64, bl, tl_eq, tl_lit, tl_nil, Bool.false_eq_true, if_false, if_true] at h
  refine does_walk 2 (F := cfg []) tb_ok mixed Try.func45 rfl (fun T hT => ?_)
  repeat' first
    | (show E3 _ _ _ _ _ _ _ _; first
      | refine oW ?_
      | refine n_reg [0, 1, 4] ?_
      | refine mB h (fun t ht h => oC (vC (fun G => scaled_Add.does ht G)) ?_)
      | refine mB h (fun t ht h => oC (vC (fun G => scaled_Neg.does ht G)) ?_)
      | with_reducible refine mI h (fun hc h => ?_)
      | with_reducible refine mE h (fun hc h => ?_)
      | with_reducible refine mS h (fun h => ?_)
      | refine oWs ?_)
    | (show E1 _ _ _ _ _ _ _; first
      | refine c_seq ?_
      | refine c_reg ?_
      | refine c_ret ?_)
    | (show E2 _ _ _ _ _ _ _; first
      | refine n_seq ?_
      | (refine n_end hT ?_; cases h; first | rfl | exact congrArg AV.bool (by rw [Bool.eq_iff_iff]; simp)))
    | with_reducible refine mI h (fun hc h => ?_)
    | with_reducible refine mE h (fun hc h => ?_)
    | with_reducible refine mS h (fun h => ?_)
    | refine mT h (fun h => ?_)
    | refine mF h (fun h => ?_)
    | (cases h; done)
theorem metrics_Table_Hyphen.does {l0 : S124} {l0s : List S124} {a1 : Int} {r : (Int)} (h : metrics_Table_Hyphen.f (l0 :: l0s) a1 = some r) (G : Objs) : Does Try.prog true 47 [.ptrF (Enc.enc l0), .int .i64 a1] G (fun x _ => x = .int .i64 r) := by
  unfold metrics_Table_Hyphen.f at h
  try simp only [rdc124, rdc124', rq_T134, rq_L2, rq_T87, rq_L5, rq_T124, rq_T89, rq_T99, rq_T38, rq_T90, rq_T56, rq_L13, rq_T25, rq_L15, rq_T66, rq_T113, rq_L18, rq_I, rq_bt, wrap64, bl, tl_eq, tl_lit, tl_nil, Bool.false_eq_true, if_false, if_true] at h
  refine does_walk 2 (F := cfg []) tb_ok mixed Try.func47 rfl (fun T hT => ?_)
  repeat' first
    | (show E3 _ _ _ _ _ _ _ _; first
      | refine oW ?_
      | refine n_reg [0, 1, 4] ?_
      | refine mB h (fun t ht h => oC (vC (fun G => metrics_Table_of.does ht G)) ?_)
      | with_reducible refine mI h (fun hc h => ?_)
      | with_reducible refine mE h (fun hc h => ?_)
      | with_reducible refine mS h (fun h => ?_)
      | refine oWs ?_)
    | (show E1 _ _ _ _ _ _ _; first
      | refine c_seq ?_
      | refine c_reg ?_
      | refine c_ret ?_)
    | (show E2 _ _ _ _ _ _ _; first
      | refine n_seq ?_
      | (refine n_end hT ?_; cases h; first | rfl | exact congrArg AV.bool (by rw [Bool.eq_iff_iff]; simp)))
    | with_reducible refine mI h (fun hc h => ?_)
    | with_reducible refine mE h (fun hc h => ?_)
    | with_reducible refine mS h (fun h => ?_)
    | refine mT h (fun h => ?_)
    | refine mF h (fun h => ?_)
    | (cases h; done)
theorem paint_reach.does {k : Nat} {l0 : List (S25)} {r : (Int × Int × Bool)} (h : paint_reach.f k l0 = some r) (G : Objs) : Does Try.prog true 59 [.sl (l0.map Enc.enc)] G (fun x _ => x = .tup [.int .i64 r.1, .int .i64 r.2.1, .bool r.2.2]) := by
  unfold paint_reach.f at h
  try simp only [rdc124, rdc124', rq_T134, rq_L2, rq_T87, rq_L5, rq_T124, rq_T89, rq_T99, rq_T38, rq_T90, rq_T56, rq_L13, rq_T25, rq_L15, rq_T66, rq_T113, rq_L18, rq_I, rq_bt, wrap64, bl, tl_eq, tl_lit, tl_nil, Bool.false_eq_true, if_false, if_true] at h
  refine does_walk 1 (F := cfg [(7, 6144000000)]) tb_ok mixed Try.func59 rfl (fun T hT => ?_)
  repeat' first
    | (show E3 _ _ _ _ _ _ _ _; first
      | refine oQ vL ?_
      | refine oQ vE ?_
      | refine oQ vmax ?_
      | refine oQ vmin ?_
      | refine oLd ?_
      | refine oW ?_
      | refine n_reg [0, 2, 3, 4, 5, 6, 8, 11, 12, 13, 14, 15] ?_
      | with_reducible refine mI h (fun hc h => ?_)
      | with_reducible refine mE h (fun hc h => ?_)
      | with_reducible refine mS h (fun h => ?_)
      | refine oWs ?_
      | refine oWl ?_)
    | (show E1 _ _ _ _ _ _ _; first
      | refine c_seq ?_
      | refine c_reg ?_
      | (show E1 _ _ _ (.region 7 _ _) _ _ _; refine c_mixf [11, 12] [0, 1, 2, 3, 4, 5, 6, 7, 8, 9, 10] ?_)
      | refine c_drwf ?_
      | refine c_drw ?_
      | refine c_blk ?_
      | refine c_exit ?_
      | refine c_ret ?_
      | refine c_skip ?_
      | refine c_tt ?_
      | refine c_ff ?_
      | refine c_if h (fun hc h => ?_) (fun hc h => ?_)
      | refine c_fi h (fun hc h => ?_) (fun hc h => ?_)
      | with_reducible refine mI h (fun hc h => ?_)
      | with_reducible refine mE h (fun hc h => ?_)
      | with_reducible refine mS h (fun h => ?_)
      | refine c_ifs h (fun hc h => ?_) (fun hc h => ?_)
      | refine c_fis h (fun hc h => ?_) (fun hc h => ?_)
      | (refine lp5 (fun x5 x6 x12 x13 x14 => [(5, .int .i64 x5), (6, .int .i64 x6), (12, .sl (x12.map Enc.enc)), (13, .int .i64 x13), (14, .int .i64 x14)]) (fun x5 x6 x12 x13 x14 => []) (fun k_ x5 x6 x12 x13 x14 => k_ ≤ k ∧ paint_reach.l0 k_ x5 x6 x12 x13 x14 = some r) ⟨Nat.le_refl _, h⟩ ?_; intro k x5 x6 x12 x13 x14 h; obtain ⟨hk, h⟩ := h; rcases k with _ | k; (simp only [paint_reach.l0] at h; cases h); simp only [paint_reach.l0, rdc124, rdc124', rq_T134, rq_L2, rq_T87, rq_L5, rq_T124, rq_T89, rq_T99, rq_T38, rq_T90, rq_T56, rq_L13, rq_T25, rq_L15, rq_T66, rq_T113, rq_L18, rq_I, rq_bt, wrap64, bl, tl_eq, tl_lit, tl_nil, Bool.false_eq_true, if_false, if_true] at h)
      | refine c_dt ?_
      | refine c_df ?_)
    | (show E2 _ _ _ _ _ _ _; first
      | refine n_seq ?_
      | (refine n_ends hT ?_; cases h; first | rfl | exact congrArg AV.bool (by rw [Bool.eq_iff_iff]; simp))
      | refine ag5 rfl ⟨by omega, h⟩)
    | (show E4 _ _ _ _ _ _ _; first
      | refine mB h (fun t ht h => dQ (vC (fun G => scaled_Add.does ht G)) ?_)
      | refine dQ vL ?_
      | refine dQ vE ?_
      | refine dQ vmax ?_
      | refine dQ vmin ?_
      | refine dW ?_
      | refine dE ?_
      | refine dM1 [11, 12] 11 [4, 10] [22, 28] [12] ?_
      | refine dM1 [12] 12 [] [] [] ?_
      | refine dM0 ?_)
    | (show E5 _ _ _ _ _ _ _; first
      | refine mB h (fun t ht h => tC (vC (fun G => scaled_Add.does ht G)) ?_)
      | refine tQ vL ?_
      | refine tQ vE ?_
      | refine tQ vmax ?_
      | refine tQ vmin ?_
      | refine tW ?_
      | refine n_drw [0, 2, 3, 4, 5, 6, 8, 11, 12, 13, 14, 15] ?_
      | refine n_stgf [11, 12] [0, 1, 2, 3, 4, 5, 6, 7, 8, 9, 10] ?_
      | refine n_stgf [12] [4, 10] ?_
      | refine n_stgf [] [] ?_)
    | with_reducible refine mI h (fun hc h => ?_)
    | with_reducible refine mE h (fun hc h => ?_)
    | with_reducible refine mS h (fun h => ?_)
    | refine mT h (fun h => ?_)
    | refine mF h (fun h => ?_)
    | (cases h; done)
theorem regletref14_Line.does {k : Nat} {a0_0 : ByteArray} {l0_1 : List (S89)} {a0_2 : Int} {a0_3 : Int} {a0_4 : Int} {a0_5 : Bool} {a0_6 : Int} {a0_7 : Bool} {a0_8 : Bool} {a1_0 : ByteArray} {l1_1 : List (S89)} {a1_2 : Int} {a1_3 : Int} {a1_4 : Int} {a1_5 : Bool} {a1_6 : Int} {a1_7 : Bool} {a1_8 : Bool} {r : (Bool)} (h : regletref14_Line.f k a0_0 l0_1 a0_2 a0_3 a0_4 a0_5 a0_6 a0_7 a0_8 a1_0 l1_1 a1_2 a1_3 a1_4 a1_5 a1_6 a1_7 a1_8 = some r) (G : Objs) : Does Try.prog true 33 [.agg [.str a0_0, .sl (l0_1.map Enc.enc), .int .i64 a0_2, .int .i64 a0_3, .int .i64 a0_4, .bool a0_5, .int .i64 a0_6, .bool a0_7, .bool a0_8], .agg [.str a1_0, .sl (l1_1.map Enc.enc), .int .i64 a1_2, .int .i64 a1_3, .int .i64 a1_4, .bool a1_5, .int .i64 a1_6, .bool a1_7, .bool a1_8]] G (fun x _ => x = .bool r) := by
  unfold regletref14_Line.f at h
  try simp only [rdc124, rdc124', rq_T134, rq_L2, rq_T87, rq_L5, rq_T124, rq_T89, rq_T99, rq_T38, rq_T90, rq_T56, rq_L13, rq_T25, rq_L15, rq_T66, rq_T113, rq_L18, rq_I, rq_bt, wrap64, bl, tl_eq, tl_lit, tl_nil, Bool.false_eq_true, if_false, if_true] at h
  refine does_walk 2 (F := cfg [(1, 7)]) tb_ok mixed Try.func33 rfl (fun T hT => ?_)
  repeat' first
    | (show E3 _ _ _ _ _ _ _ _; first
      | refine oLd ?_
      | refine oW ?_
      | refine n_reg [0, 1, 2, 3, 4] ?_
      | refine mB h (fun t ht h => oC (vC (fun G => regletref10_Same.does ht G)) ?_)
      | with_reducible refine mI h (fun hc h => ?_)
      | with_reducible refine mE h (fun hc h => ?_)
      | with_reducible refine mS h (fun h => ?_)
      | refine oWs ?_
      | refine oWl ?_)
    | (show E1 _ _ _ _ _ _ _; first
      | refine c_seq ?_
      | refine c_reg ?_
      | refine c_drwf ?_
      | refine c_drw ?_
      | refine c_ret ?_)
    | (show E2 _ _ _ _ _ _ _; first
      | refine n_seq ?_
      | (refine n_end hT ?_; cases h; first | rfl | exact congrArg AV.bool (by rw [Bool.eq_iff_iff]; simp)))
    | (show E4 _ _ _ _ _ _ _; first
      | refine mB h (fun t ht h => dQ (vC (fun G => regletref05_Merged.does ht G)) ?_)
      | refine dW ?_
      | refine dE ?_)
    | (show E5 _ _ _ _ _ _ _; first
      | refine mB h (fun t ht h => tC (vC (fun G => regletref05_Merged.does ht G)) ?_)
      | refine tW ?_
      | refine n_drw [0, 1, 2, 3, 4] ?_)
    | with_reducible refine mI h (fun hc h => ?_)
    | with_reducible refine mE h (fun hc h => ?_)
    | with_reducible refine mS h (fun h => ?_)
    | refine mT h (fun h => ?_)
    | refine mF h (fun h => ?_)
    | (cases h; done)
theorem regletlaw21_table.does {k : Nat} {l0 : List (S87)} {r : ((List (S124)))} (h : regletlaw21_table.f k l0 = some r) (G : Objs) : Does Try.prog true 11 [.sl (l0.map Enc.enc)] G (fun x _ => x = pv r) := by
  unfold regletlaw21_table.f at h
  try simp only [rdc124, rdc124', rq_T134, rq_L2, rq_T87, rq_L5, rq_T124, rq_T89, rq_T99, rq_T38, rq_T90, rq_T56, rq_L13, rq_T25, rq_L15, rq_T66, rq_T113, rq_L18, rq_I, rq_bt, wrap64, bl, tl_eq, tl_lit, tl_nil, Bool.false_eq_true, if_false, if_true] at h
  refine does_walk 1 (F := cfg []) tb_ok mixed Try.func11 rfl (fun T hT => ?_)
  repeat' first
    | (show E3 _ _ _ _ _ _ _ _; first
      | refine oW ?_
      | refine n_reg [0, 2, 3, 5, 14] ?_
      | refine mB h (fun t ht h => oC (vC (fun G => regletref04_Check.does ht G)) ?_)
      | (refine mB h (fun t ht h => ?_); rcases t with ⟨(_ | ⟨p0, ps0⟩), t1, t2⟩ <;> refine oC (vC (fun G => metrics_New.does ht G)) ?_ <;> try simp only [lenC, lenN, if_true, if_false] at h)
      | with_reducible refine mI h (fun hc h => ?_)
      | with_reducible refine mE h (fun hc h => ?_)
      | with_reducible refine mS h (fun h => ?_)
      | refine oWs ?_)
    | (show E1 _ _ _ _ _ _ _; first
      | refine c_seq ?_
      | refine c_reg ?_
      | refine c_ret ?_
      | refine c_skip ?_
      | refine c_tt ?_
      | refine c_ff ?_
      | refine c_if h (fun hc h => ?_) (fun hc h => ?_)
      | refine c_fi h (fun hc h => ?_) (fun hc h => ?_)
      | with_reducible refine mI h (fun hc h => ?_)
      | with_reducible refine mE h (fun hc h => ?_)
      | with_reducible refine mS h (fun h => ?_)
      | refine c_ifs h (fun hc h => ?_) (fun hc h => ?_)
      | refine c_fis h (fun hc h => ?_) (fun hc h => ?_)
      | refine c_dt ?_
      | refine c_df ?_)
    | (show E2 _ _ _ _ _ _ _; first
      | refine n_seq ?_
      | (refine n_end hT ?_; cases h; first | rfl | exact congrArg AV.bool (by rw [Bool.eq_iff_iff]; simp)))
    | with_reducible refine mI h (fun hc h => ?_)
    | with_reducible refine mE h (fun hc h => ?_)
    | with_reducible refine mS h (fun h => ?_)
    | refine mT h (fun h => ?_)
    | refine mF h (fun h => ?_)
    | (cases h; done)
theorem scaled_MulDiv.does {k : Nat} {a0 : Int} {a1 : Int} {a2 : Int} {r : (Int × Bool)} (h : scaled_MulDiv.f k a0 a1 a2 = some r) (G : Objs) : Does Try.prog true 109 [.int .i64 a0, .int .i64 a1, .int .i64 a2] G (fun x _ => x = .tup [.int .i64 r.1, .bool r.2]) := by
  unfold scaled_MulDiv.f at h
  try simp only [rdc124, rdc124', rq_T134, rq_L2, rq_T87, rq_L5, rq_T124, rq_T89, rq_T99, rq_T38, rq_T90, rq_T56, rq_L13, rq_T25, rq_L15, rq_T66, rq_T113, rq_L18, rq_I, rq_bt, wrap64, bl, tl_eq, tl_lit, tl_nil, Bool.false_eq_true, if_false, if_true] at h
  refine does_walk 3 (F := cfg []) tb_ok mixed Try.func109 rfl (fun T hT => ?_)
  repeat' first
    | (show E3 _ _ _ _ _ _ _ _; first
      | refine oQ vpt ?_
      | refine oQ vpf ?_
      | refine oW ?_
      | refine n_reg [0, 1, 2, 6, 7, 8, 9, 10, 11, 12, 13, 17, 38, 58, 60] ?_
      | refine gYq vpt ?_
      | refine gYq vpf ?_
      | refine gN ?_
      | refine gNf ?_
      | refine gY ?_
      | refine gT ?_
      | refine mB h (fun t ht h => oC (vC (fun G => scaled_Clamp.does ht G)) ?_)
      | refine mB h (fun t ht h => oC (vC (fun G => bits_Mul64.does ht G)) ?_)
      | refine mB h (fun t ht h => oC (vC (fun G => scaled_size.does ht G)) ?_)
      | refine mB h (fun t ht h => oC (vC (fun G => scaled_signed.does ht G)) ?_)
      | refine mB h (fun t ht h => oC (vC (fun G => bits_Div64.does ht G)) ?_)
      | refine gif h (fun hc h => ?_) (fun hc h => ?_)
      | refine gfi h (fun hc h => ?_) (fun hc h => ?_)
      | with_reducible refine mI h (fun hc h => ?_)
      | with_reducible refine mE h (fun hc h => ?_)
      | with_reducible refine mS h (fun h => ?_)
      | refine oWs ?_
      | refine gYs ?_
      | refine gifs h (fun hc h => ?_) (fun hc h => ?_)
      | refine gfis h (fun hc h => ?_) (fun hc h => ?_)
      | (fail_if_success (refine g_lit ?_)); refine g_dt ?_
      | (fail_if_success (refine g_lit ?_)); refine g_df ?_)
    | (show E1 _ _ _ _ _ _ _; first
      | refine c_seq ?_
      | refine c_reg ?_
      | refine c_ret ?_
      | refine c_skip ?_
      | refine c_tt ?_
      | refine c_ff ?_
      | refine c_if h (fun hc h => ?_) (fun hc h => ?_)
      | refine c_fi h (fun hc h => ?_) (fun hc h => ?_)
      | with_reducible refine mI h (fun hc h => ?_)
      | with_reducible refine mE h (fun hc h => ?_)
      | with_reducible refine mS h (fun h => ?_)
      | refine c_ifs h (fun hc h => ?_) (fun hc h => ?_)
      | refine c_fis h (fun hc h => ?_) (fun hc h => ?_)
      | refine c_dt ?_
      | refine c_df ?_)
    | (show E2 _ _ _ _ _ _ _; first
      | refine n_seq ?_
      | (refine n_ends hT ?_; cases h; first | rfl | exact congrArg AV.bool (by rw [Bool.eq_iff_iff]; simp)))
    | with_reducible refine mI h (fun hc h => ?_)
    | with_reducible refine mE h (fun hc h => ?_)
    | with_reducible refine mS h (fun h => ?_)
    | refine mT h (fun h => ?_)
    | refine mF h (fun h => ?_)
    | (cases h; done)
end Go.AL.X
