/- What each function does: it answers as its model tells, and changes nothing (in 4 texts, numbered 2). -/
import Derived.Test.YtiabffkfabmlpaaC0LocateHits
namespace Go.AL.X
open Go.Proofs Go.Proofs.Ytiabffkfabmlpaa.PLocateHits
set_option linter.unusedVariables false
set_option linter.unusedSimpArgs false
set_option maxRecDepth 100000
set_option maxHeartbeats 800000
theorem scaled_size.does {a0 : Int} {r : (Int)} (h : scaled_size.f a0 = some r) (G : Objs) : Does Try.prog true 71 [.int .i64 a0] G (fun x _ => x = .int .u64 r) := by
  unfold scaled_size.f at h
  try simp only [rdc98, rdc98', rq_T110, rq_L2, rq_T73, rq_L5, rq_T98, rq_T75, rq_T43, rq_L10, rq_T28, rq_L12, rq_T24, rq_L14, rq_T44, rq_L16, rq_T49, rq_I, rq_bt, wrap64] at h
  refine does_walk 1 (F := cfg []) tb_ok mixed Try.func71 rfl (fun T hT => ?_)
  repeat' first
    | (show E3 _ _ _ _ _ _ _ _; first
      | refine oW ?_
      | refine n_reg [0, 2, 6] ?_
      | refine mB h (fun t ht h => oC (vC (fun G => scaled_Clamp.does ht G)) ?_)
      | with_reducible refine mI h (fun hc h => ?_)
      | with_reducible refine mE h (fun hc h => ?_)
      | with_reducible refine mS h (fun h => ?_)
      | refine oWs ?_)
    | (show E1 _ _ _ _ _ _ _; first
      | refine c_seq ?_
      | refine c_reg ?_
      | refine c_ret ?_
      | refine c_skip ?_
      | refine c_tt ?_
      | refine c_ff ?_
      | refine c_if h (fun hc h => ?_) (fun hc h => ?_)
      | refine c_fi h (fun hc h => ?_) (fun hc h => ?_)
      | with_reducible refine mI h (fun hc h => ?_)
      | with_reducible refine mE h (fun hc h => ?_)
      | with_reducible refine mS h (fun h => ?_)
      | refine c_ifs h (fun hc h => ?_) (fun hc h => ?_)
      | refine c_fis h (fun hc h => ?_) (fun hc h => ?_)
      | refine c_dt ?_
      | refine c_df ?_)
    | (show E2 _ _ _ _ _ _ _; first
      | refine n_seq ?_
      | (refine n_end hT ?_; cases h; first | rfl | exact congrArg AV.bool (by rw [Bool.eq_iff_iff]; simp)))
    | with_reducible refine mI h (fun hc h => ?_)
    | with_reducible refine mE h (fun hc h => ?_)
    | with_reducible refine mS h (fun h => ?_)
    | refine mT h (fun h => ?_)
    | refine mF h (fun h => ?_)
    | (cases h; done)
theorem scaled_signed.does {k : Nat} {a0 : Bool} {a1 : Int} {a2 : Int} {r : (Int)} (h : scaled_signed.f k a0 a1 a2 = some r) (G : Objs) : Does Try.prog true 72 [.bool a0, .int .u64 a1, .int .u64 a2] G (fun x _ => x = .int .i64 r) := by
  unfold scaled_signed.f at h
  try simp only [rdc98, rdc98', rq_T110, rq_L2, rq_T73, rq_L5, rq_T98, rq_T75, rq_T43, rq_L10, rq_T28, rq_L12, rq_T24, rq_L14, rq_T44, rq_L16, rq_T49, rq_I, rq_bt, wrap64] at h
  refine does_walk 3 (F := cfg []) tb_ok mixed Try.func72 rfl (fun T hT => ?_)
  repeat' first
    | (show E3 _ _ _ _ _ _ _ _; first
      | refine oQ vpt ?_
      | refine oQ vpf ?_
      | refine oW ?_
      | refine n_reg [0, 1, 2, 6, 7, 13, 16] ?_
      | refine gYq vpt ?_
      | refine gYq vpf ?_
      | refine gN ?_
      | refine gNf ?_
      | refine gY ?_
      | refine gT ?_
      | refine gif h (fun hc h => ?_) (fun hc h => ?_)
      | refine gfi h (fun hc h => ?_) (fun hc h => ?_)
      | with_reducible refine mI h (fun hc h => ?_)
      | with_reducible refine mE h (fun hc h => ?_)
      | with_reducible refine mS h (fun h => ?_)
      | refine oWs ?_
      | refine gYs ?_
      | refine gifs h (fun hc h => ?_) (fun hc h => ?_)
      | refine gfis h (fun hc h => ?_) (fun hc h => ?_)
      | (fail_if_success (refine g_lit ?_)); refine g_dt ?_
      | (fail_if_success (refine g_lit ?_)); refine g_df ?_)
    | (show E1 _ _ _ _ _ _ _; first
      | refine c_seq ?_
      | refine c_reg ?_
      | refine c_ret ?_
      | refine c_skip ?_
      | refine c_tt ?_
      | refine c_ff ?_
      | refine c_if h (fun hc h => ?_) (fun hc h => ?_)
      | refine c_fi h (fun hc h => ?_) (fun hc h => ?_)
      | with_reducible refine mI h (fun hc h => ?_)
      | with_reducible refine mE h (fun hc h => ?_)
      | with_reducible refine mS h (fun h => ?_)
      | refine c_ifs h (fun hc h => ?_) (fun hc h => ?_)
      | refine c_fis h (fun hc h => ?_) (fun hc h => ?_)
      | refine c_dt ?_
      | refine c_df ?_)
    | (show E2 _ _ _ _ _ _ _; first
      | refine n_seq ?_
      | (refine n_end hT ?_; cases h; first | rfl | exact congrArg AV.bool (by rw [Bool.eq_iff_iff]; simp)))
    | with_reducible refine mI h (fun hc h => ?_)
    | with_reducible refine mE h (fun hc h => ?_)
    | with_reducible refine mS h (fun h => ?_)
    | (rcases k with _ | k; (simp only [scaled_signed.j0] at h; cases h); simp only [scaled_signed.j0, rdc98, rdc98', rq_T110, rq_L2, rq_T73, rq_L5, rq_T98, rq_T75, rq_T43, rq_L10, rq_T28, rq_L12, rq_T24, rq_L14, rq_T44, rq_L16, rq_T49, rq_I, rq_bt, wrap64] at h)
    | refine mT h (fun h => ?_)
    | refine mF h (fun h => ?_)
    | (cases h; done)
theorem bits_Len64.does {k : Nat} {a0 : Int} {r : (Int)} (h : bits_Len64.f k a0 = some r) (G : Objs) : Does Try.prog true 78 [.int .u64 a0] G (fun x _ => x = .int .i64 r) := by
  unfold bits_Len64.f at h
  try simp only [rdc98, rdc98', rq_T110, rq_L2, rq_T73, rq_L5, rq_T98, rq_T75, rq_T43, rq_L10, rq_T28, rq_L12, rq_T24, rq_L14, rq_T44, rq_L16, rq_T49, rq_I, rq_bt, wrap64] at h
  refine does_walk 1 (F := cfg []) tb_ok mixed Try.func78 rfl (fun T hT => ?_)
  repeat' first
    | (show E3 _ _ _ _ _ _ _ _; first
      | refine oQ vB8 ?_
      | refine oQ vB ?_
      | refine oQ (vShr 4294967296) ?_
      | refine oQ (vShr 65536) ?_
      | refine oQ (vShr 256) ?_
      | refine oW ?_
      | refine n_reg [0, 2, 4, 8, 14] ?_
      | with_reducible refine mI h (fun hc h => ?_)
      | with_reducible refine mE h (fun hc h => ?_)
      | with_reducible refine mS h (fun h => ?_)
      | refine oWs ?_)
    | (show E1 _ _ _ _ _ _ _; first
      | refine c_seq ?_
      | refine c_reg ?_
      | refine c_ret ?_
      | refine c_skip ?_
      | refine c_tt ?_
      | refine c_ff ?_
      | refine c_if h (fun hc h => ?_) (fun hc h => ?_)
      | refine c_fi h (fun hc h => ?_) (fun hc h => ?_)
      | with_reducible refine mI h (fun hc h => ?_)
      | with_reducible refine mE h (fun hc h => ?_)
      | with_reducible refine mS h (fun h => ?_)
      | refine c_ifs h (fun hc h => ?_) (fun hc h => ?_)
      | refine c_fis h (fun hc h => ?_) (fun hc h => ?_)
      | refine c_dt ?_
      | refine c_df ?_)
    | (show E2 _ _ _ _ _ _ _; first
      | refine n_seq ?_
      | (refine n_end hT ?_; cases h; first | rfl | exact congrArg AV.bool (by rw [Bool.eq_iff_iff]; simp)))
    | with_reducible refine mI h (fun hc h => ?_)
    | with_reducible refine mE h (fun hc h => ?_)
    | with_reducible refine mS h (fun h => ?_)
    | (rcases k with _ | k; (simp only [bits_Len64.j0] at h; cases h); simp only [bits_Len64.j0, rdc98, rdc98', rq_T110, rq_L2, rq_T73, rq_L5, rq_T98, rq_T75, rq_T43, rq_L10, rq_T28, rq_L12, rq_T24, rq_L14, rq_T44, rq_L16, rq_T49, rq_I, rq_bt, wrap64] at h)
    | refine mT h (fun h => ?_)
    | refine mF h (fun h => ?_)
    | (cases h; done)
theorem bits_LeadingZeros64.does {k : Nat} {a0 : Int} {r : (Int)} (h : bits_LeadingZeros64.f k a0 = some r) (G : Objs) : Does Try.prog true 77 [.int .u64 a0] G (fun x _ => x = .int .i64 r) := by
  unfold bits_LeadingZeros64.f at h
  try simp only [rdc98, rdc98', rq_T110, rq_L2, rq_T73, rq_L5, rq_T98, rq_T75, rq_T43, rq_L10, rq_T28, rq_L12, rq_T24, rq_L14, rq_T44, rq_L16, rq_T49, rq_I, rq_bt, wrap64] at h
  refine does_walk 1 (F := cfg []) tb_ok mixed Try.func77 rfl (fun T hT => ?_)
  repeat' first
    | (show E3 _ _ _ _ _ _ _ _; first
      | refine oW ?_
      | refine n_reg [0, 2] ?_
      | refine mB h (fun t ht h => oC (vC (fun G => bits_Len64.does ht G)) ?_)
      | with_reducible refine mI h (fun hc h => ?_)
      | with_reducible refine mE h (fun hc h => ?_)
      | with_reducible refine mS h (fun h => ?_)
      | refine oWs ?_)
    | (show E1 _ _ _ _ _ _ _; first
      | refine c_seq ?_
      | refine c_reg ?_
      | refine c_ret ?_)
    | (show E2 _ _ _ _ _ _ _; first
      | refine n_seq ?_
      | (refine n_end hT ?_; cases h; first | rfl | exact congrArg AV.bool (by rw [Bool.eq_iff_iff]; simp)))
    | with_reducible refine mI h (fun hc h => ?_)
    | with_reducible refine mE h (fun hc h => ?_)
    | with_reducible refine mS h (fun h => ?_)
    | refine mT h (fun h => ?_)
    | refine mF h (fun h => ?_)
    | (cases h; done)
theorem bits_Div64.does {k : Nat} {a0 : Int} {a1 : Int} {a2 : Int} {r : (Int × Int)} (h : bits_Div64.f k a0 a1 a2 = some r) (G : Objs) : Does Try.prog true 73 [.int .u64 a0, .int .u64 a1, .int .u64 a2] G (fun x _ => x = .tup [.int .u64 r.1, .int .u64 r.2]) := by
  unfold bits_Div64.f at h
  try simp only [rdc98, rdc98', rq_T110, rq_L2, rq_T73, rq_L5, rq_T98, rq_T75, rq_T43, rq_L10, rq_T28, rq_L12, rq_T24, rq_L14, rq_T44, rq_L16, rq_T49, rq_I, rq_bt, wrap64] at h
  refine does_walk 3 (F := cfg [(6, 7)]) tb_ok mixed Try.func73 rfl (fun T hT => ?_)
  repeat' first
    | (show E3 _ _ _ _ _ _ _ _; first
      | refine oQ (vShr 4294967296) ?_
      | refine oQ vpt ?_
      | refine oQ vpf ?_
      | refine oW ?_
      | refine n_reg [0, 1, 2, 6, 7, 8, 9, 10, 11, 12, 13, 14, 15, 16, 17, 18, 20, 24, 27, 78, 85, 113, 120] ?_
      | refine gYq (vShr 4294967296) ?_
      | refine gYq vpt ?_
      | refine gYq vpf ?_
      | refine gN ?_
      | refine gNf ?_
      | refine gY ?_
      | refine gT ?_
      | refine mB h (fun t ht h => oC (vC (fun G => bits_LeadingZeros64.does ht G)) ?_)
      | refine gif h (fun hc h => ?_) (fun hc h => ?_)
      | refine gfi h (fun hc h => ?_) (fun hc h => ?_)
      | with_reducible refine mI h (fun hc h => ?_)
      | with_reducible refine mE h (fun hc h => ?_)
      | with_reducible refine mS h (fun h => ?_)
      | refine oWs ?_
      | refine gYs ?_
      | refine gifs h (fun hc h => ?_) (fun hc h => ?_)
      | refine gfis h (fun hc h => ?_) (fun hc h => ?_)
      | (fail_if_success (refine g_lit ?_)); refine g_dt ?_
      | (fail_if_success (refine g_lit ?_)); refine g_df ?_)
    | (show E1 _ _ _ _ _ _ _; first
      | refine c_seq ?_
      | refine c_reg ?_
      | refine c_drwf ?_
      | refine c_drw ?_
      | refine c_blk ?_
      | refine c_exit ?_
      | refine c_ret ?_
      | refine c_skip ?_
      | refine c_tt ?_
      | refine c_ff ?_
      | refine c_if h (fun hc h => ?_) (fun hc h => ?_)
      | refine c_fi h (fun hc h => ?_) (fun hc h => ?_)
      | with_reducible refine mI h (fun hc h => ?_)
      | with_reducible refine mE h (fun hc h => ?_)
      | with_reducible refine mS h (fun h => ?_)
      | refine c_ifs h (fun hc h => ?_) (fun hc h => ?_)
      | refine c_fis h (fun hc h => ?_) (fun hc h => ?_)
      | (refine lp9 (fun x2 x8 x9 x10 x14 x15 x16 x17 x18 => [(2, .int .u64 x2), (8, .int .u64 x8), (9, .int .u64 x9), (10, .int .u64 x10), (14, .int .u64 x14), (15, .int .u64 x15), (16, .int .u64 x16), (17, .int .u64 x17), (18, .int .u64 x18)]) (fun x2 x8 x9 x10 x14 x15 x16 x17 x18 => []) (fun k_ x2 x8 x9 x10 x14 x15 x16 x17 x18 => k_ ≤ k ∧ bits_Div64.l1 k_ x2 x8 x9 x10 x14 x15 x16 x17 x18 = some r) ⟨Nat.le_refl _, h⟩ ?_; intro k x2 x8 x9 x10 x14 x15 x16 x17 x18 h; obtain ⟨hk, h⟩ := h; rcases k with _ | k; (simp only [bits_Div64.l1] at h; cases h); simp only [bits_Div64.l1, rdc98, rdc98', rq_T110, rq_L2, rq_T73, rq_L5, rq_T98, rq_T75, rq_T43, rq_L10, rq_T28, rq_L12, rq_T24, rq_L14, rq_T44, rq_L16, rq_T49, rq_I, rq_bt, wrap64] at h)
      | (refine lp9 (fun x2 x8 x9 x10 x11 x13 x14 x15 x16 => [(2, .int .u64 x2), (8, .int .u64 x8), (9, .int .u64 x9), (10, .int .u64 x10), (11, .int .u64 x11), (13, .int .u64 x13), (14, .int .u64 x14), (15, .int .u64 x15), (16, .int .u64 x16)]) (fun x2 x8 x9 x10 x11 x13 x14 x15 x16 => []) (fun k_ x2 x8 x9 x10 x11 x13 x14 x15 x16 => k_ ≤ k ∧ bits_Div64.l0 k_ x2 x8 x9 x10 x11 x13 x14 x15 x16 = some r) ⟨Nat.le_refl _, h⟩ ?_; intro k x2 x8 x9 x10 x11 x13 x14 x15 x16 h; obtain ⟨hk, h⟩ := h; rcases k with _ | k; (simp only [bits_Div64.l0] at h; cases h); simp only [bits_Div64.l0, rdc98, rdc98', rq_T110, rq_L2, rq_T73, rq_L5, rq_T98, rq_T75, rq_T43, rq_L10, rq_T28, rq_L12, rq_T24, rq_L14, rq_T44, rq_L16, rq_T49, rq_I, rq_bt, wrap64] at h)
      | refine c_dt ?_
      | refine c_df ?_)
    | (show E2 _ _ _ _ _ _ _; first
      | refine n_seq ?_
      | (refine n_ends hT ?_; cases h; first | rfl | exact congrArg AV.bool (by rw [Bool.eq_iff_iff]; simp))
      | refine ag9 rfl ⟨by omega, h⟩)
    | (show E4 _ _ _ _ _ _ _ _ _; first
      | refine dQ (vShr 4294967296) ?_
      | refine dQ vpt ?_
      | refine dQ vpf ?_
      | refine dW ?_
      | refine dE ?_)
    | (show E5 _ _ _ _ _ _ _ _; first
      | refine tQ (vShr 4294967296) ?_
      | refine tQ vpt ?_
      | refine tQ vpf ?_
      | refine tW ?_
      | refine n_drw [0, 1, 2, 6, 7, 8, 9, 10, 11, 12, 13, 14, 15, 16, 17, 18, 20, 24, 27, 78, 85, 113, 120] ?_)
    | with_reducible refine mI h (fun hc h => ?_)
    | with_reducible refine mE h (fun hc h => ?_)
    | with_reducible refine mS h (fun h => ?_)
    | (rcases k with _ | k; (simp only [bits_Div64.j2] at h; cases h); simp only [bits_Div64.j2, rdc98, rdc98', rq_T110, rq_L2, rq_T73, rq_L5, rq_T98, rq_T75, rq_T43, rq_L10, rq_T28, rq_L12, rq_T24, rq_L14, rq_T44, rq_L16, rq_T49, rq_I, rq_bt, wrap64] at h)
    | (rcases k with _ | k; (simp only [bits_Div64.j4] at h; cases h); simp only [bits_Div64.j4, rdc98, rdc98', rq_T110, rq_L2, rq_T73, rq_L5, rq_T98, rq_T75, rq_T43, rq_L10, rq_T28, rq_L12, rq_T24, rq_L14, rq_T44, rq_L16, rq_T49, rq_I, rq_bt, wrap64] at h)
    | (rcases k with _ | k; (simp only [bits_Div64.j1] at h; cases h); simp only [bits_Div64.j1, rdc98, rdc98', rq_T110, rq_L2, rq_T73, rq_L5, rq_T98, rq_T75, rq_T43, rq_L10, rq_T28, rq_L12, rq_T24, rq_L14, rq_T44, rq_L16, rq_T49, rq_I, rq_bt, wrap64] at h)
    | refine mT h (fun h => ?_)
    | refine mF h (fun h => ?_)
    | (cases h; done)
theorem scaled_MulDiv.does {k : Nat} {a0 : Int} {a1 : Int} {a2 : Int} {r : (Int × Bool)} (h : scaled_MulDiv.f k a0 a1 a2 = some r) (G : Objs) : Does Try.prog true 63 [.int .i64 a0, .int .i64 a1, .int .i64 a2] G (fun x _ => x = .tup [.int .i64 r.1, .bool r.2]) := by
  unfold scaled_MulDiv.f at h
  try simp only [rdc98, rdc98', rq_T110, rq_L2, rq_T73, rq_L5, rq_T98, rq_T75, rq_T43, rq_L10, rq_T28, rq_L12, rq_T24, rq_L14, rq_T44, rq_L16, rq_T49, rq_I, rq_bt, wrap64] at h
  refine does_walk 3 (F := cfg []) tb_ok mixed Try.func63 rfl (fun T hT => ?_)
  repeat' first
    | (show E3 _ _ _ _ _ _ _ _; first
      | refine oQ vpt ?_
      | refine oQ vpf ?_
      | refine oW ?_
      | refine n_reg [0, 1, 2, 6, 7, 8, 9, 10, 11, 12, 13, 17, 38, 58, 60] ?_
      | refine gYq vpt ?_
      | refine gYq vpf ?_
      | refine gN ?_
      | refine gNf ?_
      | refine gY ?_
      | refine gT ?_
      | refine mB h (fun t ht h => oC (vC (fun G => scaled_Clamp.does ht G)) ?_)
      | refine mB h (fun t ht h => oC (vC (fun G => bits_Mul64.does ht G)) ?_)
      | refine mB h (fun t ht h => oC (vC (fun G => scaled_size.does ht G)) ?_)
      | refine mB h (fun t ht h => oC (vC (fun G => scaled_signed.does ht G)) ?_)
      | refine mB h (fun t ht h => oC (vC (fun G => bits_Div64.does ht G)) ?_)
      | refine gif h (fun hc h => ?_) (fun hc h => ?_)
      | refine gfi h (fun hc h => ?_) (fun hc h => ?_)
      | with_reducible refine mI h (fun hc h => ?_)
      | with_reducible refine mE h (fun hc h => ?_)
      | with_reducible refine mS h (fun h => ?_)
      | refine oWs ?_
      | refine gYs ?_
      | refine gifs h (fun hc h => ?_) (fun hc h => ?_)
      | refine gfis h (fun hc h => ?_) (fun hc h => ?_)
      | (fail_if_success (refine g_lit ?_)); refine g_dt ?_
      | (fail_if_success (refine g_lit ?_)); refine g_df ?_)
    | (show E1 _ _ _ _ _ _ _; first
      | refine c_seq ?_
      | refine c_reg ?_
      | refine c_ret ?_
      | refine c_skip ?_
      | refine c_tt ?_
      | refine c_ff ?_
      | refine c_if h (fun hc h => ?_) (fun hc h => ?_)
      | refine c_fi h (fun hc h => ?_) (fun hc h => ?_)
      | with_reducible refine mI h (fun hc h => ?_)
      | with_reducible refine mE h (fun hc h => ?_)
      | with_reducible refine mS h (fun h => ?_)
      | refine c_ifs h (fun hc h => ?_) (fun hc h => ?_)
      | refine c_fis h (fun hc h => ?_) (fun hc h => ?_)
      | refine c_dt ?_
      | refine c_df ?_)
    | (show E2 _ _ _ _ _ _ _; first
      | refine n_seq ?_
      | (refine n_ends hT ?_; cases h; first | rfl | exact congrArg AV.bool (by rw [Bool.eq_iff_iff]; simp)))
    | with_reducible refine mI h (fun hc h => ?_)
    | with_reducible refine mE h (fun hc h => ?_)
    | with_reducible refine mS h (fun h => ?_)
    | refine mT h (fun h => ?_)
    | refine mF h (fun h => ?_)
    | (cases h; done)
theorem scaled_Scale.does {k : Nat} {a0 : Int} {a1 : Int} {a2 : Int} {r : (Int)} (h : scaled_Scale.f k a0 a1 a2 = some r) (G : Objs) : Does Try.prog true 54 [.int .i64 a0, .int .i64 a1, .int .i64 a2] G (fun x _ => x = .int .i64 r) := by
  unfold scaled_Scale.f at h
  try simp only [rdc98, rdc98', rq_T110, rq_L2, rq_T73, rq_L5, rq_T98, rq_T75, rq_T43, rq_L10, rq_T28, rq_L12, rq_T24, rq_L14, rq_T44, rq_L16, rq_T49, rq_I, rq_bt, wrap64] at h
  refine does_walk 3 (F := cfg []) tb_ok mixed Try.func54 rfl (fun T hT => ?_)
  repeat' first
    | (show E3 _ _ _ _ _ _ _ _; first
      | refine oW ?_
      | refine n_reg [0, 1, 2, 6, 7, 10] ?_
      | refine mB h (fun t ht h => oC (vC (fun G => scaled_MulDiv.does ht G)) ?_)
      | with_reducible refine mI h (fun hc h => ?_)
      | with_reducible refine mE h (fun hc h => ?_)
      | with_reducible refine mS h (fun h => ?_)
      | refine oWs ?_)
    | (show E1 _ _ _ _ _ _ _; first
      | refine c_seq ?_
      | refine c_reg ?_
      | refine c_ret ?_
      | refine c_skip ?_
      | refine c_tt ?_
      | refine c_ff ?_
      | refine c_if h (fun hc h => ?_) (fun hc h => ?_)
      | refine c_fi h (fun hc h => ?_) (fun hc h => ?_)
      | with_reducible refine mI h (fun hc h => ?_)
      | with_reducible refine mE h (fun hc h => ?_)
      | with_reducible refine mS h (fun h => ?_)
      | refine c_ifs h (fun hc h => ?_) (fun hc h => ?_)
      | refine c_fis h (fun hc h => ?_) (fun hc h => ?_)
      | refine c_dt ?_
      | refine c_df ?_)
    | (show E2 _ _ _ _ _ _ _; first
      | refine n_seq ?_
      | (refine n_end hT ?_; cases h; first | rfl | exact congrArg AV.bool (by rw [Bool.eq_iff_iff]; simp)))
    | with_reducible refine mI h (fun hc h => ?_)
    | with_reducible refine mE h (fun hc h => ?_)
    | with_reducible refine mS h (fun h => ?_)
    | refine mT h (fun h => ?_)
    | refine mF h (fun h => ?_)
    | (cases h; done)
theorem locate_space.does {k : Nat} {l0 : S98} {l0s : List S98} {a1_0 : ByteArray} {l1_1 : List (S75)} {a1_2 : Int} {a1_3 : Int} {a1_4 : Int} {a1_5 : Bool} {a1_6 : Int} {a1_7 : Bool} {a1_8 : Bool} {a2 : Int} {r : (Int)} (h : locate_space.f k (l0 :: l0s) a1_0 l1_1 a1_2 a1_3 a1_4 a1_5 a1_6 a1_7 a1_8 a2 = some r) (G : Objs) : Does Try.prog true 35 [.ptrF (Enc.enc l0), .agg [.str a1_0, .sl (l1_1.map Enc.enc), .int .i64 a1_2, .int .i64 a1_3, .int .i64 a1_4, .bool a1_5, .int .i64 a1_6, .bool a1_7, .bool a1_8], .int .i64 a2] G (fun x _ => x = .int .i64 r) := by
  unfold locate_space.f at h
  try simp only [rdc98, rdc98', rq_T110, rq_L2, rq_T73, rq_L5, rq_T98, rq_T75, rq_T43, rq_L10, rq_T28, rq_L12, rq_T24, rq_L14, rq_T44, rq_L16, rq_T49, rq_I, rq_bt, wrap64] at h
  refine does_walk 3 (F := cfg []) tb_ok mixed Try.func35 rfl (fun T hT => ?_)
  repeat' first
    | (show E3 _ _ _ _ _ _ _ _; first
      | refine oW ?_
      | refine n_reg [0, 1, 2, 4, 6, 7, 8, 9, 17, 29] ?_
      | refine mB h (fun t ht h => oC (vC (fun G => metrics_Table_Space.does ht G)) ?_)
      | refine mB h (fun t ht h => oC (vC (fun G => scaled_Scale.does ht G)) ?_)
      | with_reducible refine mI h (fun hc h => ?_)
      | with_reducible refine mE h (fun hc h => ?_)
      | with_reducible refine mS h (fun h => ?_)
      | refine oWs ?_
      | refine oWl ?_)
    | (show E1 _ _ _ _ _ _ _; first
      | refine c_seq ?_
      | refine c_reg ?_
      | refine c_blk ?_
      | refine c_ret ?_
      | refine c_skip ?_
      | refine c_tt ?_
      | refine c_ff ?_
      | refine c_if h (fun hc h => ?_) (fun hc h => ?_)
      | refine c_fi h (fun hc h => ?_) (fun hc h => ?_)
      | with_reducible refine mI h (fun hc h => ?_)
      | with_reducible refine mE h (fun hc h => ?_)
      | with_reducible refine mS h (fun h => ?_)
      | refine c_ifs h (fun hc h => ?_) (fun hc h => ?_)
      | refine c_fis h (fun hc h => ?_) (fun hc h => ?_)
      | refine c_dt ?_
      | refine c_df ?_)
    | (show E2 _ _ _ _ _ _ _; first
      | refine n_seq ?_
      | (refine n_end hT ?_; cases h; first | rfl | exact congrArg AV.bool (by rw [Bool.eq_iff_iff]; simp)))
    | with_reducible refine mI h (fun hc h => ?_)
    | with_reducible refine mE h (fun hc h => ?_)
    | with_reducible refine mS h (fun h => ?_)
    | refine mT h (fun h => ?_)
    | refine mF h (fun h => ?_)
    | (cases h; done)
theorem locate_Stops.does {k : Nat} {l0 : S98} {l0s : List S98} {a1_0 : ByteArray} {l1_1 : List (S75)} {a1_2 : Int} {a1_3 : Int} {a1_4 : Int} {a1_5 : Bool} {a1_6 : Int} {a1_7 : Bool} {a1_8 : Bool} {r : ((List (S43)))} (h : locate_Stops.f k (l0 :: l0s) a1_0 l1_1 a1_2 a1_3 a1_4 a1_5 a1_6 a1_7 a1_8 = some r) (G : Objs) : Does Try.prog true 13 [.ptrF (Enc.enc l0), .agg [.str a1_0, .sl (l1_1.map Enc.enc), .int .i64 a1_2, .int .i64 a1_3, .int .i64 a1_4, .bool a1_5, .int .i64 a1_6, .bool a1_7, .bool a1_8]] G (fun x _ => x = .sl (r.map Enc.enc)) := by
  unfold locate_Stops.f at h
  try simp only [rdc98, rdc98', rq_T110, rq_L2, rq_T73, rq_L5, rq_T98, rq_T75, rq_T43, rq_L10, rq_T28, rq_L12, rq_T24, rq_L14, rq_T44, rq_L16, rq_T49, rq_I, rq_bt, wrap64] at h
  refine does_walk 2 (F := cfg []) tb_ok mixed Try.func13 rfl (fun T hT => ?_)
  repeat' first
    | (show E3 _ _ _ _ _ _ _ _; first
      | refine oBS ?_
      | refine oB ?_
      | refine oLd ?_
      | refine oW ?_
      | refine n_reg [0, 1, 3, 4, 5, 6, 7, 8, 9, 10, 16, 17, 18, 31, 41] ?_
      | refine oAv (⟨_, _⟩ : S43) ?_
      | refine oA (⟨_, _⟩ : S43) ?_
      | refine oAe (⟨_, _⟩ : S43) ?_
      | refine oAl (⟨_, _⟩ : S43) ?_
      | refine oMv ?_
      | refine oM ?_
      | refine oMe ?_
      | refine oMl ?_
      | refine mB h (fun t ht h => oC (vC (fun G => locate_shown.does ht G)) ?_)
      | refine mB h (fun t ht h => oC (vC (fun G => locate_styleAt.does ht G)) ?_)
      | refine mB h (fun t ht h => oC (vC (fun G => runes_Kind.does ht G)) ?_)
      | refine mB h (fun t ht h => oC (vC (fun G => scaled_Add.does ht G)) ?_)
      | refine mB h (fun t ht h => oC (vC (fun G => metrics_Table_Width.does ht G)) ?_)
      | refine mB h (fun t ht h => oC (vC (fun G => locate_space.does ht G)) ?_)
      | refine fz 12 ?_
      | refine fz 28 ?_
      | refine fz 29 ?_
      | refine fz 32 ?_
      | refine fz 36 ?_
      | refine fz 37 ?_
      | refine fz 38 ?_
      | refine fz 35 ?_
      | refine fz 39 ?_
      | refine fz 46 ?_
      | refine fz 47 ?_
      | refine fz 48 ?_
      | refine fz 45 ?_
      | refine fz 49 ?_
      | refine oNx h (fun hc h => ?_) (fun hc h => ?_)
      | with_reducible refine mI h (fun hc h => ?_)
      | with_reducible refine mE h (fun hc h => ?_)
      | with_reducible refine mS h (fun h => ?_)
      | refine oWs ?_
      | refine oWl ?_)
    | (show E1 _ _ _ _ _ _ _; first
      | refine c_seq ?_
      | refine c_reg ?_
      | refine c_blk ?_
      | refine c_exit ?_
      | refine c_ret ?_
      | refine c_skip ?_
      | refine c_tt ?_
      | refine c_ff ?_
      | refine c_if h (fun hc h => ?_) (fun hc h => ?_)
      | refine c_fi h (fun hc h => ?_) (fun hc h => ?_)
      | with_reducible refine mI h (fun hc h => ?_)
      | with_reducible refine mE h (fun hc h => ?_)
      | with_reducible refine mS h (fun h => ?_)
      | refine c_ifs h (fun hc h => ?_) (fun hc h => ?_)
      | refine c_fis h (fun hc h => ?_) (fun hc h => ?_)
      | (refine lp16 (fun x0 x0s x5 x6 x7 x220000 x220001 x220002 x220003 x220004 x220005 x220006 x220007 x220008 x222000 x222001 => [(0, .ptrF (Enc.enc x0)), (5, .own 2 (x5.map Enc.enc)), (6, .int .i64 x6), (7, .int .i64 x7), (3, .lptr 3 0), (16, .iter x222000 x222001.toNat)]) (fun x0 x0s x5 x6 x7 x220000 x220001 x220002 x220003 x220004 x220005 x220006 x220007 x220008 x222000 x222001 => [(3, [.str x220000, .sl (x220001.map Enc.enc), .int .i64 x220002, .int .i64 x220003, .int .i64 x220004, .bool x220005, .int .i64 x220006, .bool x220007, .bool x220008])]) (fun k_ x0 x0s x5 x6 x7 x220000 x220001 x220002 x220003 x220004 x220005 x220006 x220007 x220008 x222000 x222001 => k_ ≤ k ∧ locate_Stops.l0 k_ (x0 :: x0s) x5 x6 x7 x220000 x220001 x220002 x220003 x220004 x220005 x220006 x220007 x220008 x222000 x222001 = some r) ⟨Nat.le_refl _, h⟩ ?_; intro k x0 x0s x5 x6 x7 x220000 x220001 x220002 x220003 x220004 x220005 x220006 x220007 x220008 x222000 x222001 h; obtain ⟨hk, h⟩ := h; rcases k with _ | k; (simp only [locate_Stops.l0] at h; cases h); simp only [locate_Stops.l0, rdc98, rdc98', rq_T110, rq_L2, rq_T73, rq_L5, rq_T98, rq_T75, rq_T43, rq_L10, rq_T28, rq_L12, rq_T24, rq_L14, rq_T44, rq_L16, rq_T49, rq_I, rq_bt, wrap64, itP_] at h)
      | refine c_dt ?_
      | refine c_df ?_)
    | (show E2 _ _ _ _ _ _ _; first
      | refine n_seq ?_
      | (refine n_end hT ?_; cases h; first | rfl | exact congrArg AV.bool (by rw [Bool.eq_iff_iff]; simp))
      | refine ag16 rfl ⟨by omega, h⟩)
    | with_reducible refine mI h (fun hc h => ?_)
    | with_reducible refine mE h (fun hc h => ?_)
    | with_reducible refine mS h (fun h => ?_)
    | refine mT h (fun h => ?_)
    | refine mF h (fun h => ?_)
    | (cases h; done)
theorem regletlaw15_awake.does {k : Nat} {r : (Bool)} (h : regletlaw15_awake.f k = some r) (G : Objs) : Does Try.prog true 9 [] G (fun x _ => x = .bool r) := by
  unfold regletlaw15_awake.f at h
  try simp only [rdc98, rdc98', rq_T110, rq_L2, rq_T73, rq_L5, rq_T98, rq_T75, rq_T43, rq_L10, rq_T28, rq_L12, rq_T24, rq_L14, rq_T44, rq_L16, rq_T49, rq_I, rq_bt, wrap64] at h
  refine does_walk 0 (F := cfg []) tb_ok mixed Try.func9 rfl (fun T hT => ?_)
  repeat' first
    | (show E3 _ _ _ _ _ _ _ _; first
      | refine oQ vL ?_
      | refine oQ vE ?_
      | refine oQ vpt ?_
      | refine oQ vpf ?_
      | refine oBS ?_
      | refine oB ?_
      | refine oLd ?_
      | refine oW ?_
      | refine n_reg [0, 1, 2, 7] ?_
      | refine gYq vL ?_
      | refine gYq vE ?_
      | refine gYq vpt ?_
      | refine gYq vpf ?_
      | refine gLd ?_
      | refine gB ?_
      | refine gN ?_
      | refine gNf ?_
      | refine gY ?_
      | refine gT ?_
      | (refine mB h (fun t ht h => ?_); rcases t with (_ | ⟨p0, ps0⟩) <;> refine oC (vC (fun G => regletlaw15_table.does ht G)) ?_)
      | refine mB h (fun t ht h => oC (vC (fun G => locate_Stops.does ht G)) ?_)
      | refine gif h (fun hc h => ?_) (fun hc h => ?_)
      | refine gfi h (fun hc h => ?_) (fun hc h => ?_)
      | with_reducible refine mI h (fun hc h => ?_)
      | with_reducible refine mE h (fun hc h => ?_)
      | with_reducible refine mS h (fun h => ?_)
      | refine oWs ?_
      | refine gYs ?_
      | refine gifs h (fun hc h => ?_) (fun hc h => ?_)
      | refine gfis h (fun hc h => ?_) (fun hc h => ?_)
      | (fail_if_success (refine g_lit ?_)); refine g_dt ?_
      | (fail_if_success (refine g_lit ?_)); refine g_df ?_)
    | (show E1 _ _ _ _ _ _ _; first
      | refine c_seq ?_
      | refine c_reg ?_
      | refine c_ret ?_
      | refine c_skip ?_
      | refine c_tt ?_
      | refine c_ff ?_
      | refine c_if h (fun hc h => ?_) (fun hc h => ?_)
      | refine c_fi h (fun hc h => ?_) (fun hc h => ?_)
      | with_reducible refine mI h (fun hc h => ?_)
      | with_reducible refine mE h (fun hc h => ?_)
      | with_reducible refine mS h (fun h => ?_)
      | refine c_ifs h (fun hc h => ?_) (fun hc h => ?_)
      | refine c_fis h (fun hc h => ?_) (fun hc h => ?_)
      | refine c_dt ?_
      | refine c_df ?_)
    | (show E2 _ _ _ _ _ _ _; first
      | refine n_seq ?_
      | (refine n_end hT ?_; cases h; first | rfl | exact congrArg AV.bool (by rw [Bool.eq_iff_iff]; simp)))
    | with_reducible refine mI h (fun hc h => ?_)
    | with_reducible refine mE h (fun hc h => ?_)
    | with_reducible refine mS h (fun h => ?_)
    | refine mT h (fun h => ?_)
    | refine mF h (fun h => ?_)
    | (cases h; done)
theorem regletref02_value.does {k : Nat} {a0 : ByteArray} {a1 : Int} {a2 : Int} {r : (Int)} (h : regletref02_value.f k a0 a1 a2 = some r) (G : Objs) : Does Try.prog true 64 [.str a0, .int .i64 a1, .int .i64 a2] G (fun x _ => x = .int .i64 r) := by
  unfold regletref02_value.f at h
  try simp only [rdc98, rdc98', rq_T110, rq_L2, rq_T73, rq_L5, rq_T98, rq_T75, rq_T43, rq_L10, rq_T28, rq_L12, rq_T24, rq_L14, rq_T44, rq_L16, rq_T49, rq_I, rq_bt, wrap64] at h
  refine does_walk 3 (F := cfg []) tb_ok mixed Try.func64 rfl (fun T hT => ?_)
  repeat' first
    | (show E3 _ _ _ _ _ _ _ _; first
      | refine oQ vB ?_
      | refine oW ?_
      | refine n_reg [0, 1, 2, 6, 7, 8, 9, 15, 24] ?_
      | with_reducible refine mI h (fun hc h => ?_)
      | with_reducible refine mE h (fun hc h => ?_)
      | with_reducible refine mS h (fun h => ?_)
      | refine oWs ?_)
    | (show E1 _ _ _ _ _ _ _; first
      | refine c_seq ?_
      | refine c_reg ?_
      | refine c_blk ?_
      | refine c_exit ?_
      | refine c_ret ?_
      | refine c_skip ?_
      | refine c_tt ?_
      | refine c_ff ?_
      | refine c_if h (fun hc h => ?_) (fun hc h => ?_)
      | refine c_fi h (fun hc h => ?_) (fun hc h => ?_)
      | with_reducible refine mI h (fun hc h => ?_)
      | with_reducible refine mE h (fun hc h => ?_)
      | with_reducible refine mS h (fun h => ?_)
      | refine c_ifs h (fun hc h => ?_) (fun hc h => ?_)
      | refine c_fis h (fun hc h => ?_) (fun hc h => ?_)
      | (refine lp5 (fun x0 x1 x2 x8 x9 => [(0, .str x0), (1, .int .i64 x1), (2, .int .i64 x2), (8, .int .i64 x8), (9, .int .i64 x9)]) (fun x0 x1 x2 x8 x9 => []) (fun k_ x0 x1 x2 x8 x9 => k_ ≤ k ∧ regletref02_value.l0 k_ x0 x1 x2 x8 x9 = some r) ⟨Nat.le_refl _, h⟩ ?_; intro k x0 x1 x2 x8 x9 h; obtain ⟨hk, h⟩ := h; rcases k with _ | k; (simp only [regletref02_value.l0] at h; cases h); simp only [regletref02_value.l0, rdc98, rdc98', rq_T110, rq_L2, rq_T73, rq_L5, rq_T98, rq_T75, rq_T43, rq_L10, rq_T28, rq_L12, rq_T24, rq_L14, rq_T44, rq_L16, rq_T49, rq_I, rq_bt, wrap64] at h)
      | refine c_dt ?_
      | refine c_df ?_)
    | (show E2 _ _ _ _ _ _ _; first
      | refine n_seq ?_
      | (refine n_end hT ?_; cases h; first | rfl | exact congrArg AV.bool (by rw [Bool.eq_iff_iff]; simp))
      | refine ag5 rfl ⟨by omega, h⟩)
    | with_reducible refine mI h (fun hc h => ?_)
    | with_reducible refine mE h (fun hc h => ?_)
    | with_reducible refine mS h (fun h => ?_)
    | refine mT h (fun h => ?_)
    | refine mF h (fun h => ?_)
    | (cases h; done)
theorem regletref02_IsRune.does {a0 : Int} {r : (Bool)} (h : regletref02_IsRune.f a0 = some r) (G : Objs) : Does Try.prog true 74 [.int .i64 a0] G (fun x _ => x = .bool r) := by
  unfold regletref02_IsRune.f at h
  try simp only [rdc98, rdc98', rq_T110, rq_L2, rq_T73, rq_L5, rq_T98, rq_T75, rq_T43, rq_L10, rq_T28, rq_L12, rq_T24, rq_L14, rq_T44, rq_L16, rq_T49, rq_I, rq_bt, wrap64] at h
  refine does_walk 1 (F := cfg []) tb_ok mixed Try.func74 rfl (fun T hT => ?_)
  repeat' first
    | (show E3 _ _ _ _ _ _ _ _; first
      | refine oQ vpt ?_
      | refine oQ vpf ?_
      | refine oW ?_
      | refine n_reg [0, 2] ?_
      | refine gYq vpt ?_
      | refine gYq vpf ?_
      | refine gN ?_
      | refine gNf ?_
      | refine gY ?_
      | refine gT ?_
      | refine gif h (fun hc h => ?_) (fun hc h => ?_)
      | refine gfi h (fun hc h => ?_) (fun hc h => ?_)
      | with_reducible refine mI h (fun hc h => ?_)
      | with_reducible refine mE h (fun hc h => ?_)
      | with_reducible refine mS h (fun h => ?_)
      | refine oWs ?_
      | refine gYs ?_
      | refine gifs h (fun hc h => ?_) (fun hc h => ?_)
      | refine gfis h (fun hc h => ?_) (fun hc h => ?_)
      | (fail_if_success (refine g_lit ?_)); refine g_dt ?_
      | (fail_if_success (refine g_lit ?_)); refine g_df ?_)
    | (show E1 _ _ _ _ _ _ _; first
      | refine c_seq ?_
      | refine c_reg ?_
      | refine c_ret ?_)
    | (show E2 _ _ _ _ _ _ _; first
      | refine n_seq ?_
      | (refine n_end hT ?_; cases h; first | rfl | exact congrArg AV.bool (by rw [Bool.eq_iff_iff]; simp)))
    | with_reducible refine mI h (fun hc h => ?_)
    | with_reducible refine mE h (fun hc h => ?_)
    | with_reducible refine mS h (fun h => ?_)
    | refine mT h (fun h => ?_)
    | refine mF h (fun h => ?_)
    | (cases h; done)
theorem regletref02_Bytes.does {a0 : Int} {r : (List Int)} (h : regletref02_Bytes.f a0 = some r) (G : Objs) : Does Try.prog true 65 [.int .i64 a0] G (fun x _ => x = .sl (r.map Enc.enc)) := by
  unfold regletref02_Bytes.f at h
  try simp only [rdc98, rdc98', rq_T110, rq_L2, rq_T73, rq_L5, rq_T98, rq_T75, rq_T43, rq_L10, rq_T28, rq_L12, rq_T24, rq_L14, rq_T44, rq_L16, rq_T49, rq_I, rq_bt, wrap64] at h
  refine does_walk 1 (F := cfg []) tb_ok mixed Try.func65 rfl (fun T hT => ?_)
  repeat' first
    | (show E3 _ _ _ _ _ _ _ _; first
      | refine oBS ?_
      | refine oW ?_
      | refine n_reg [0, 2, 5, 7, 11, 20] ?_
      | refine mB h (fun t ht h => oC (vC (fun G => regletref02_IsRune.does ht G)) ?_)
      | with_reducible refine mI h (fun hc h => ?_)
      | with_reducible refine mE h (fun hc h => ?_)
      | with_reducible refine mS h (fun h => ?_)
      | refine oWs ?_)
    | (show E1 _ _ _ _ _ _ _; first
      | refine c_seq ?_
      | refine c_reg ?_
      | refine c_ret ?_
      | refine c_skip ?_
      | refine c_tt ?_
      | refine c_ff ?_
      | refine c_if h (fun hc h => ?_) (fun hc h => ?_)
      | refine c_fi h (fun hc h => ?_) (fun hc h => ?_)
      | with_reducible refine mI h (fun hc h => ?_)
      | with_reducible refine mE h (fun hc h => ?_)
      | with_reducible refine mS h (fun h => ?_)
      | refine c_ifs h (fun hc h => ?_) (fun hc h => ?_)
      | refine c_fis h (fun hc h => ?_) (fun hc h => ?_)
      | refine c_dt ?_
      | refine c_df ?_)
    | (show E2 _ _ _ _ _ _ _; first
      | refine n_seq ?_
      | (refine n_end hT ?_; cases h; first | rfl | exact congrArg AV.bool (by rw [Bool.eq_iff_iff]; simp)))
    | with_reducible refine mI h (fun hc h => ?_)
    | with_reducible refine mE h (fun hc h => ?_)
    | with_reducible refine mS h (fun h => ?_)
    | refine mT h (fun h => ?_)
    | refine mF h (fun h => ?_)
    | (cases h; done)
theorem regletref02_begins.does {k : Nat} {a0 : ByteArray} {a1 : Int} {l2 : List Int} {r : (Bool)} (h : regletref02_begins.f k a0 a1 l2 = some r) (G : Objs) : Does Try.prog true 66 [.str a0, .int .i64 a1, .sl (l2.map Enc.enc)] G (fun x _ => x = .bool r) := by
  unfold regletref02_begins.f at h
  try simp only [rdc98, rdc98', rq_T110, rq_L2, rq_T73, rq_L5, rq_T98, rq_T75, rq_T43, rq_L10, rq_T28, rq_L12, rq_T24, rq_L14, rq_T44, rq_L16, rq_T49, rq_I, rq_bt, wrap64] at h
  refine does_walk 3 (F := cfg [(6, 10)]) tb_ok mixed Try.func66 rfl (fun T hT => ?_)
  repeat' first
    | (show E3 _ _ _ _ _ _ _ _; first
      | refine oQ vL ?_
      | refine oQ vE ?_
      | refine oQ vB ?_
      | refine oQ vpt ?_
      | refine oQ vpf ?_
      | refine oW ?_
      | refine n_reg [0, 1, 2, 6, 7, 19, 23, 36] ?_
      | refine gYq vL ?_
      | refine gYq vE ?_
      | refine gYq vB ?_
      | refine gYq vpt ?_
      | refine gYq vpf ?_
      | refine gN ?_
      | refine gNf ?_
      | refine gY ?_
      | refine gT ?_
      | refine gif h (fun hc h => ?_) (fun hc h => ?_)
      | refine gfi h (fun hc h => ?_) (fun hc h => ?_)
      | with_reducible refine mI h (fun hc h => ?_)
      | with_reducible refine mE h (fun hc h => ?_)
      | with_reducible refine mS h (fun h => ?_)
      | refine oWs ?_
      | refine gYs ?_
      | refine gifs h (fun hc h => ?_) (fun hc h => ?_)
      | refine gfis h (fun hc h => ?_) (fun hc h => ?_)
      | (fail_if_success (refine g_lit ?_)); refine g_dt ?_
      | (fail_if_success (refine g_lit ?_)); refine g_df ?_)
    | (show E1 _ _ _ _ _ _ _; first
      | refine c_seq ?_
      | refine c_reg ?_
      | refine c_drwf ?_
      | refine c_drw ?_
      | refine c_blk ?_
      | refine c_exit ?_
      | refine c_ret ?_
      | refine c_skip ?_
      | refine c_tt ?_
      | refine c_ff ?_
      | refine c_if h (fun hc h => ?_) (fun hc h => ?_)
      | refine c_fi h (fun hc h => ?_) (fun hc h => ?_)
      | with_reducible refine mI h (fun hc h => ?_)
      | with_reducible refine mE h (fun hc h => ?_)
      | with_reducible refine mS h (fun h => ?_)
      | refine c_ifs h (fun hc h => ?_) (fun hc h => ?_)
      | refine c_fis h (fun hc h => ?_) (fun hc h => ?_)
      | (refine lp4 (fun x0 x1 x2 x7 => [(0, .str x0), (1, .int .i64 x1), (2, .sl (x2.map Enc.enc)), (7, .int .i64 x7)]) (fun x0 x1 x2 x7 => []) (fun k_ x0 x1 x2 x7 => k_ ≤ k ∧ regletref02_begins.l0 k_ x0 x1 x2 x7 = some r) ⟨Nat.le_refl _, h⟩ ?_; intro k x0 x1 x2 x7 h; obtain ⟨hk, h⟩ := h; rcases k with _ | k; (simp only [regletref02_begins.l0] at h; cases h); simp only [regletref02_begins.l0, rdc98, rdc98', rq_T110, rq_L2, rq_T73, rq_L5, rq_T98, rq_T75, rq_T43, rq_L10, rq_T28, rq_L12, rq_T24, rq_L14, rq_T44, rq_L16, rq_T49, rq_I, rq_bt, wrap64] at h)
      | refine c_dt ?_
      | refine c_df ?_)
    | (show E2 _ _ _ _ _ _ _; first
      | refine n_seq ?_
      | (refine n_end hT ?_; cases h; first | rfl | exact congrArg AV.bool (by rw [Bool.eq_iff_iff]; simp))
      | refine ag4 rfl ⟨by omega, h⟩)
    | (show E4 _ _ _ _ _ _ _ _ _; first
      | refine dQ vL ?_
      | refine dQ vE ?_
      | refine dQ vB ?_
      | refine dQ vpt ?_
      | refine dQ vpf ?_
      | refine dW ?_
      | refine dE ?_)
    | (show E5 _ _ _ _ _ _ _ _; first
      | refine tQ vL ?_
      | refine tQ vE ?_
      | refine tQ vB ?_
      | refine tQ vpt ?_
      | refine tQ vpf ?_
      | refine tW ?_
      | refine n_drw [0, 1, 2, 6, 7, 19, 23, 36] ?_)
    | with_reducible refine mI h (fun hc h => ?_)
    | with_reducible refine mE h (fun hc h => ?_)
    | with_reducible refine mS h (fun h => ?_)
    | (rcases k with _ | k; (simp only [regletref02_begins.j0] at h; cases h); simp only [regletref02_begins.j0, rdc98, rdc98', rq_T110, rq_L2, rq_T73, rq_L5, rq_T98, rq_T75, rq_T43, rq_L10, rq_T28, rq_L12, rq_T24, rq_L14, rq_T44, rq_L16, rq_T49, rq_I, rq_bt, wrap64] at h)
    | refine mT h (fun h => ?_)
    | refine mF h (fun h => ?_)
    | (cases h; done)
theorem regletref02_Read.does {k : Nat} {a0 : ByteArray} {a1 : Int} {r : (Int × Int)} (h : regletref02_Read.f k a0 a1 = some r) (G : Objs) : Does Try.prog true 55 [.str a0, .int .i64 a1] G (fun x _ => x = .tup [.int .i64 r.1, .int .i64 r.2]) := by
  unfold regletref02_Read.f at h
  try simp only [rdc98, rdc98', rq_T110, rq_L2, rq_T73, rq_L5, rq_T98, rq_T75, rq_T43, rq_L10, rq_T28, rq_L12, rq_T24, rq_L14, rq_T44, rq_L16, rq_T49, rq_I, rq_bt, wrap64] at h
  refine does_walk 2 (F := cfg []) tb_ok mixed Try.func55 rfl (fun T hT => ?_)
  repeat' first
    | (show E3 _ _ _ _ _ _ _ _; first
      | refine oQ vL ?_
      | refine oQ vpt ?_
      | refine oQ vpf ?_
      | refine oW ?_
      | refine n_reg [0, 1, 4, 5, 6, 7, 8, 18, 36] ?_
      | refine gYq vL ?_
      | refine gYq vpt ?_
      | refine gYq vpf ?_
      | refine gN ?_
      | refine gNf ?_
      | refine gY ?_
      | refine gT ?_
      | refine mB h (fun t ht h => oC (vC (fun G => regletref02_value.does ht G)) ?_)
      | refine mB h (fun t ht h => oC (vC (fun G => regletref02_Bytes.does ht G)) ?_)
      | refine mB h (fun t ht h => gC (vC (fun G => regletref02_begins.does ht G)) ?_)
      | refine gif h (fun hc h => ?_) (fun hc h => ?_)
      | refine gfi h (fun hc h => ?_) (fun hc h => ?_)
      | with_reducible refine mI h (fun hc h => ?_)
      | with_reducible refine mE h (fun hc h => ?_)
      | with_reducible refine mS h (fun h => ?_)
      | refine oWs ?_
      | refine gYs ?_
      | refine gifs h (fun hc h => ?_) (fun hc h => ?_)
      | refine gfis h (fun hc h => ?_) (fun hc h => ?_)
      | (fail_if_success (refine g_lit ?_)); refine g_dt ?_
      | (fail_if_success (refine g_lit ?_)); refine g_df ?_)
    | (show E1 _ _ _ _ _ _ _; first
      | refine c_seq ?_
      | refine c_reg ?_
      | refine c_blk ?_
      | refine c_exit ?_
      | refine c_ret ?_
      | refine c_skip ?_
      | refine c_tt ?_
      | refine c_ff ?_
      | refine c_if h (fun hc h => ?_) (fun hc h => ?_)
      | refine c_fi h (fun hc h => ?_) (fun hc h => ?_)
      | with_reducible refine mI h (fun hc h => ?_)
      | with_reducible refine mE h (fun hc h => ?_)
      | with_reducible refine mS h (fun h => ?_)
      | refine c_ifs h (fun hc h => ?_) (fun hc h => ?_)
      | refine c_fis h (fun hc h => ?_) (fun hc h => ?_)
      | (refine lp3 (fun x0 x1 x6 => [(0, .str x0), (1, .int .i64 x1), (6, .int .i64 x6)]) (fun x0 x1 x6 => []) (fun k_ x0 x1 x6 => k_ ≤ k ∧ regletref02_Read.l0 k_ x0 x1 x6 = some r) ⟨Nat.le_refl _, h⟩ ?_; intro k x0 x1 x6 h; obtain ⟨hk, h⟩ := h; rcases k with _ | k; (simp only [regletref02_Read.l0] at h; cases h); simp only [regletref02_Read.l0, rdc98, rdc98', rq_T110, rq_L2, rq_T73, rq_L5, rq_T98, rq_T75, rq_T43, rq_L10, rq_T28, rq_L12, rq_T24, rq_L14, rq_T44, rq_L16, rq_T49, rq_I, rq_bt, wrap64] at h)
      | refine c_dt ?_
      | refine c_df ?_)
    | (show E2 _ _ _ _ _ _ _; first
      | refine n_seq ?_
      | (refine n_ends hT ?_; cases h; first | rfl | exact congrArg AV.bool (by rw [Bool.eq_iff_iff]; simp))
      | refine ag3 rfl ⟨by omega, h⟩)
    | with_reducible refine mI h (fun hc h => ?_)
    | with_reducible refine mE h (fun hc h => ?_)
    | with_reducible refine mS h (fun h => ?_)
    | (rcases k with _ | k; (simp only [regletref02_Read.j1] at h; cases h); simp only [regletref02_Read.j1, rdc98, rdc98', rq_T110, rq_L2, rq_T73, rq_L5, rq_T98, rq_T75, rq_T43, rq_L10, rq_T28, rq_L12, rq_T24, rq_L14, rq_T44, rq_L16, rq_T49, rq_I, rq_bt, wrap64] at h)
    | refine mT h (fun h => ?_)
    | refine mF h (fun h => ?_)
    | (cases h; done)
theorem regletref02_Runes.does {k : Nat} {a0 : ByteArray} {r : (List Int × List Int × Int)} (h : regletref02_Runes.f k a0 = some r) (G : Objs) : Does Try.prog true 36 [.str a0] G (fun x _ => x = .tup [.sl (r.1.map Enc.enc), .sl (r.2.1.map Enc.enc), .int .i64 r.2.2]) := by
  unfold regletref02_Runes.f at h
  try simp only [rdc98, rdc98', rq_T110, rq_L2, rq_T73, rq_L5, rq_T98, rq_T75, rq_T43, rq_L10, rq_T28, rq_L12, rq_T24, rq_L14, rq_T44, rq_L16, rq_T49, rq_I, rq_bt, wrap64] at h
  refine does_walk 1 (F := cfg []) tb_ok mixed Try.func36 rfl (fun T hT => ?_)
  repeat' first
    | (show E3 _ _ _ _ _ _ _ _; first
      | refine oBS ?_
      | refine oW ?_
      | refine n_reg [0, 2, 3, 4, 5, 6, 7, 8, 9, 13, 21] ?_
      | refine oAv (_ : Int) ?_
      | refine oA (_ : Int) ?_
      | refine oAe (_ : Int) ?_
      | refine oMv ?_
      | refine oM ?_
      | refine oMe ?_
      | refine mB h (fun t ht h => oC (vC (fun G => regletref02_Read.does ht G)) ?_)
      | refine fz 15 ?_
      | refine fz 16 ?_
      | with_reducible refine mI h (fun hc h => ?_)
      | with_reducible refine mE h (fun hc h => ?_)
      | with_reducible refine mS h (fun h => ?_)
      | refine oWs ?_)
    | (show E1 _ _ _ _ _ _ _; first
      | refine c_seq ?_
      | refine c_reg ?_
      | refine c_blk ?_
      | refine c_exit ?_
      | refine c_ret ?_
      | refine c_skip ?_
      | refine c_tt ?_
      | refine c_ff ?_
      | refine c_if h (fun hc h => ?_) (fun hc h => ?_)
      | refine c_fi h (fun hc h => ?_) (fun hc h => ?_)
      | with_reducible refine mI h (fun hc h => ?_)
      | with_reducible refine mE h (fun hc h => ?_)
      | with_reducible refine mS h (fun h => ?_)
      | refine c_ifs h (fun hc h => ?_) (fun hc h => ?_)
      | refine c_fis h (fun hc h => ?_) (fun hc h => ?_)
      | (refine lp4 (fun x0 x5 x6 x7 => [(0, .str x0), (5, .own 1 (x5.map Enc.enc)), (6, .own 1 (x6.map Enc.enc)), (7, .int .i64 x7)]) (fun x0 x5 x6 x7 => []) (fun k_ x0 x5 x6 x7 => k_ ≤ k ∧ regletref02_Runes.l0 k_ x0 x5 x6 x7 = some r) ⟨Nat.le_refl _, h⟩ ?_; intro k x0 x5 x6 x7 h; obtain ⟨hk, h⟩ := h; rcases k with _ | k; (simp only [regletref02_Runes.l0] at h; cases h); simp only [regletref02_Runes.l0, rdc98, rdc98', rq_T110, rq_L2, rq_T73, rq_L5, rq_T98, rq_T75, rq_T43, rq_L10, rq_T28, rq_L12, rq_T24, rq_L14, rq_T44, rq_L16, rq_T49, rq_I, rq_bt, wrap64] at h)
      | refine c_dt ?_
      | refine c_df ?_)
    | (show E2 _ _ _ _ _ _ _; first
      | refine n_seq ?_
      | (refine n_ends hT ?_; cases h; first | rfl | exact congrArg AV.bool (by rw [Bool.eq_iff_iff]; simp))
      | refine ag4 rfl ⟨by omega, h⟩)
    | with_reducible refine mI h (fun hc h => ?_)
    | with_reducible refine mE h (fun hc h => ?_)
    | with_reducible refine mS h (fun h => ?_)
    | refine mT h (fun h => ?_)
    | refine mF h (fun h => ?_)
    | (cases h; done)
theorem regletref02_Right.does {k : Nat} {a0 : ByteArray} {r : (Bool)} (h : regletref02_Right.f k a0 = some r) (G : Objs) : Does Try.prog true 29 [.str a0] G (fun x _ => x = .bool r) := by
  unfold regletref02_Right.f at h
  try simp only [rdc98, rdc98', rq_T110, rq_L2, rq_T73, rq_L5, rq_T98, rq_T75, rq_T43, rq_L10, rq_T28, rq_L12, rq_T24, rq_L14, rq_T44, rq_L16, rq_T49, rq_I, rq_bt, wrap64] at h
  refine does_walk 1 (F := cfg []) tb_ok mixed Try.func29 rfl (fun T hT => ?_)
  repeat' first
    | (show E3 _ _ _ _ _ _ _ _; first
      | refine oW ?_
      | refine n_reg [0, 2, 5] ?_
      | refine mB h (fun t ht h => oC (vC (fun G => regletref02_Runes.does ht G)) ?_)
      | with_reducible refine mI h (fun hc h => ?_)
      | with_reducible refine mE h (fun hc h => ?_)
      | with_reducible refine mS h (fun h => ?_)
      | refine oWs ?_)
    | (show E1 _ _ _ _ _ _ _; first
      | refine c_seq ?_
      | refine c_reg ?_
      | refine c_ret ?_)
    | (show E2 _ _ _ _ _ _ _; first
      | refine n_seq ?_
      | (refine n_end hT ?_; cases h; first | rfl | exact congrArg AV.bool (by rw [Bool.eq_iff_iff]; simp)))
    | with_reducible refine mI h (fun hc h => ?_)
    | with_reducible refine mE h (fun hc h => ?_)
    | with_reducible refine mS h (fun h => ?_)
    | refine mT h (fun h => ?_)
    | refine mF h (fun h => ?_)
    | (cases h; done)
theorem regletlaw15_line.does {k : Nat} {a0_0 : ByteArray} {l0_1 : List (S75)} {a0_2 : Int} {a0_3 : Int} {a0_4 : Int} {a0_5 : Bool} {a0_6 : Int} {a0_7 : Bool} {a0_8 : Bool} {r : (Bool)} (h : regletlaw15_line.f k a0_0 l0_1 a0_2 a0_3 a0_4 a0_5 a0_6 a0_7 a0_8 = some r) (G : Objs) : Does Try.prog true 12 [.agg [.str a0_0, .sl (l0_1.map Enc.enc), .int .i64 a0_2, .int .i64 a0_3, .int .i64 a0_4, .bool a0_5, .int .i64 a0_6, .bool a0_7, .bool a0_8]] G (fun x _ => x = .bool r) := by
  unfold regletlaw15_line.f at h
  try simp only [rdc98, rdc98', rq_T110, rq_L2, rq_T73, rq_L5, rq_T98, rq_T75, rq_T43, rq_L10, rq_T28, rq_L12, rq_T24, rq_L14, rq_T44, rq_L16, rq_T49, rq_I, rq_bt, wrap64] at h
  refine does_walk 1 (F := cfg []) tb_ok mixed Try.func12 rfl (fun T hT => ?_)
  repeat' first
    | (show E3 _ _ _ _ _ _ _ _; first
      | refine oQ vL ?_
      | refine oQ vE ?_
      | refine oQ vpt ?_
      | refine oQ vpf ?_
      | refine oW ?_
      | refine n_reg [0, 1, 2, 3, 19, 24, 33] ?_
      | refine gYq vL ?_
      | refine gYq vE ?_
      | refine gYq vpt ?_
      | refine gYq vpf ?_
      | refine gN ?_
      | refine gNf ?_
      | refine gY ?_
      | refine gT ?_
      | refine mB h (fun t ht h => gC (vC (fun G => regletref02_Right.does ht G)) ?_)
      | refine gif h (fun hc h => ?_) (fun hc h => ?_)
      | refine gfi h (fun hc h => ?_) (fun hc h => ?_)
      | with_reducible refine mI h (fun hc h => ?_)
      | with_reducible refine mE h (fun hc h => ?_)
      | with_reducible refine mS h (fun h => ?_)
      | refine oWs ?_
      | refine oWl ?_
      | refine gYs ?_
      | refine gifs h (fun hc h => ?_) (fun hc h => ?_)
      | refine gfis h (fun hc h => ?_) (fun hc h => ?_)
      | (fail_if_success (refine g_lit ?_)); refine g_dt ?_
      | (fail_if_success (refine g_lit ?_)); refine g_df ?_)
    | (show E1 _ _ _ _ _ _ _; first
      | refine c_seq ?_
      | refine c_reg ?_
      | refine c_blk ?_
      | refine c_exit ?_
      | refine c_ret ?_
      | refine c_skip ?_
      | refine c_tt ?_
      | refine c_ff ?_
      | refine c_if h (fun hc h => ?_) (fun hc h => ?_)
      | refine c_fi h (fun hc h => ?_) (fun hc h => ?_)
      | with_reducible refine mI h (fun hc h => ?_)
      | with_reducible refine mE h (fun hc h => ?_)
      | with_reducible refine mS h (fun h => ?_)
      | refine c_ifs h (fun hc h => ?_) (fun hc h => ?_)
      | refine c_fis h (fun hc h => ?_) (fun hc h => ?_)
      | (refine lp10 (fun x3 x283000 x283001 x283002 x283003 x283004 x283005 x283006 x283007 x283008 => [(3, .int .i64 x3), (1, .lptr 1 0)]) (fun x3 x283000 x283001 x283002 x283003 x283004 x283005 x283006 x283007 x283008 => [(1, [.str x283000, .sl (x283001.map Enc.enc), .int .i64 x283002, .int .i64 x283003, .int .i64 x283004, .bool x283005, .int .i64 x283006, .bool x283007, .bool x283008])]) (fun k_ x3 x283000 x283001 x283002 x283003 x283004 x283005 x283006 x283007 x283008 => k_ ≤ k ∧ regletlaw15_line.l0 k_ x3 x283000 x283001 x283002 x283003 x283004 x283005 x283006 x283007 x283008 = some r) ⟨Nat.le_refl _, h⟩ ?_; intro k x3 x283000 x283001 x283002 x283003 x283004 x283005 x283006 x283007 x283008 h; obtain ⟨hk, h⟩ := h; rcases k with _ | k; (simp only [regletlaw15_line.l0] at h; cases h); simp only [regletlaw15_line.l0, rdc98, rdc98', rq_T110, rq_L2, rq_T73, rq_L5, rq_T98, rq_T75, rq_T43, rq_L10, rq_T28, rq_L12, rq_T24, rq_L14, rq_T44, rq_L16, rq_T49, rq_I, rq_bt, wrap64] at h)
      | refine c_dt ?_
      | refine c_df ?_)
    | (show E2 _ _ _ _ _ _ _; first
      | refine n_seq ?_
      | (refine n_end hT ?_; cases h; first | rfl | exact congrArg AV.bool (by rw [Bool.eq_iff_iff]; simp))
      | refine ag10 rfl ⟨by omega, h⟩)
    | with_reducible refine mI h (fun hc h => ?_)
    | with_reducible refine mE h (fun hc h => ?_)
    | with_reducible refine mS h (fun h => ?_)
    | (rcases k with _ | k; (simp only [regletlaw15_line.j0] at h; cases h); simp only [regletlaw15_line.j0, rdc98, rdc98', rq_T110, rq_L2, rq_T73, rq_L5, rq_T98, rq_T75, rq_T43, rq_L10, rq_T28, rq_L12, rq_T24, rq_L14, rq_T44, rq_L16, rq_T49, rq_I, rq_bt, wrap64] at h)
    | refine mT h (fun h => ?_)
    | refine mF h (fun h => ?_)
    | (cases h; done)
theorem regletlaw15_few.does {k : Nat} {l0 : List (S24)} {r : (Bool)} (h : regletlaw15_few.f k l0 = some r) (G : Objs) : Does Try.prog true 17 [.sl (l0.map Enc.enc)] G (fun x _ => x = .bool r) := by
  unfold regletlaw15_few.f at h
  try simp only [rdc98, rdc98', rq_T110, rq_L2, rq_T73, rq_L5, rq_T98, rq_T75, rq_T43, rq_L10, rq_T28, rq_L12, rq_T24, rq_L14, rq_T44, rq_L16, rq_T49, rq_I, rq_bt, wrap64] at h
  refine does_walk 1 (F := cfg []) tb_ok mixed Try.func17 rfl (fun T hT => ?_)
  repeat' first
    | (show E3 _ _ _ _ _ _ _ _; first
      | refine oQ vL ?_
      | refine oQ vE ?_
      | refine oQ vpt ?_
      | refine oQ vpf ?_
      | refine oLd ?_
      | refine oW ?_
      | refine n_reg [0, 2, 3, 4, 5, 9, 19, 37] ?_
      | refine gYq vL ?_
      | refine gYq vE ?_
      | refine gYq vpt ?_
      | refine gYq vpf ?_
      | refine gLd ?_
      | refine gN ?_
      | refine gNf ?_
      | refine gY ?_
      | refine gT ?_
      | refine mB h (fun t ht h => gC (vC (fun G => regletlaw15_line.does ht G)) ?_)
      | refine gif h (fun hc h => ?_) (fun hc h => ?_)
      | refine gfi h (fun hc h => ?_) (fun hc h => ?_)
      | with_reducible refine mI h (fun hc h => ?_)
      | with_reducible refine mE h (fun hc h => ?_)
      | with_reducible refine mS h (fun h => ?_)
      | refine oWs ?_
      | refine gYs ?_
      | refine gifs h (fun hc h => ?_) (fun hc h => ?_)
      | refine gfis h (fun hc h => ?_) (fun hc h => ?_)
      | (fail_if_success (refine g_lit ?_)); refine g_dt ?_
      | (fail_if_success (refine g_lit ?_)); refine g_df ?_)
    | (show E1 _ _ _ _ _ _ _; first
      | refine c_seq ?_
      | refine c_reg ?_
      | refine c_blk ?_
      | refine c_exit ?_
      | refine c_ret ?_
      | refine c_skip ?_
      | refine c_tt ?_
      | refine c_ff ?_
      | refine c_if h (fun hc h => ?_) (fun hc h => ?_)
      | refine c_fi h (fun hc h => ?_) (fun hc h => ?_)
      | with_reducible refine mI h (fun hc h => ?_)
      | with_reducible refine mE h (fun hc h => ?_)
      | with_reducible refine mS h (fun h => ?_)
      | refine c_ifs h (fun hc h => ?_) (fun hc h => ?_)
      | refine c_fis h (fun hc h => ?_) (fun hc h => ?_)
      | (refine lp3 (fun x0 x3 x4 => [(0, .sl (x0.map Enc.enc)), (3, .int .i64 x3), (4, .int .i64 x4)]) (fun x0 x3 x4 => []) (fun k_ x0 x3 x4 => k_ ≤ k ∧ regletlaw15_few.l0 k_ x0 x3 x4 = some r) ⟨Nat.le_refl _, h⟩ ?_; intro k x0 x3 x4 h; obtain ⟨hk, h⟩ := h; rcases k with _ | k; (simp only [regletlaw15_few.l0] at h; cases h); simp only [regletlaw15_few.l0, rdc98, rdc98', rq_T110, rq_L2, rq_T73, rq_L5, rq_T98, rq_T75, rq_T43, rq_L10, rq_T28, rq_L12, rq_T24, rq_L14, rq_T44, rq_L16, rq_T49, rq_I, rq_bt, wrap64] at h)
      | (refine lp4 (fun x0 x3 x4 x5 => [(0, .sl (x0.map Enc.enc)), (3, .int .i64 x3), (4, .int .i64 x4), (5, .int .i64 x5)]) (fun x0 x3 x4 x5 => []) (fun k_ x0 x3 x4 x5 => k_ ≤ k ∧ regletlaw15_few.l1 k_ x0 x3 x4 x5 = some r) ⟨Nat.le_refl _, h⟩ ?_; intro k x0 x3 x4 x5 h; obtain ⟨hk, h⟩ := h; rcases k with _ | k; (simp only [regletlaw15_few.l1] at h; cases h); simp only [regletlaw15_few.l1, rdc98, rdc98', rq_T110, rq_L2, rq_T73, rq_L5, rq_T98, rq_T75, rq_T43, rq_L10, rq_T28, rq_L12, rq_T24, rq_L14, rq_T44, rq_L16, rq_T49, rq_I, rq_bt, wrap64] at h)
      | refine c_dt ?_
      | refine c_df ?_)
    | (show E2 _ _ _ _ _ _ _; first
      | refine n_seq ?_
      | (refine n_end hT ?_; cases h; first | rfl | exact congrArg AV.bool (by rw [Bool.eq_iff_iff]; simp))
      | refine ag3 rfl ⟨by omega, h⟩
      | refine ag4 rfl ⟨by omega, h⟩)
    | with_reducible refine mI h (fun hc h => ?_)
    | with_reducible refine mE h (fun hc h => ?_)
    | with_reducible refine mS h (fun h => ?_)
    | refine mT h (fun h => ?_)
    | refine mF h (fun h => ?_)
    | (cases h; done)
theorem locate_pageSize.does {k : Nat} {l0_0 : List (S28)} {r : (Int)} (h : locate_pageSize.f k l0_0 = some r) (G : Objs) : Does Try.prog true 46 [.agg [.sl (l0_0.map Enc.enc)]] G (fun x _ => x = .int .i64 r) := by
  unfold locate_pageSize.f at h
  try simp only [rdc98, rdc98', rq_T110, rq_L2, rq_T73, rq_L5, rq_T98, rq_T75, rq_T43, rq_L10, rq_T28, rq_L12, rq_T24, rq_L14, rq_T44, rq_L16, rq_T49, rq_I, rq_bt, wrap64] at h
  refine does_walk 1 (F := cfg []) tb_ok mixed Try.func46 rfl (fun T hT => ?_)
  repeat' first
    | (show E3 _ _ _ _ _ _ _ _; first
      | refine oQ vL ?_
      | refine oQ vE ?_
      | refine oLd ?_
      | refine oW ?_
      | refine n_reg [0, 1, 2, 3, 5, 7, 8, 9, 10] ?_
      | with_reducible refine mI h (fun hc h => ?_)
      | with_reducible refine mE h (fun hc h => ?_)
      | with_reducible refine mS h (fun h => ?_)
      | refine oWs ?_
      | refine oWl ?_)
    | (show E1 _ _ _ _ _ _ _; first
      | refine c_seq ?_
      | refine c_reg ?_
      | refine c_blk ?_
      | refine c_exit ?_
      | refine c_ret ?_
      | refine c_skip ?_
      | refine c_tt ?_
      | refine c_ff ?_
      | refine c_if h (fun hc h => ?_) (fun hc h => ?_)
      | refine c_fi h (fun hc h => ?_) (fun hc h => ?_)
      | with_reducible refine mI h (fun hc h => ?_)
      | with_reducible refine mE h (fun hc h => ?_)
      | with_reducible refine mS h (fun h => ?_)
      | refine c_ifs h (fun hc h => ?_) (fun hc h => ?_)
      | refine c_fis h (fun hc h => ?_) (fun hc h => ?_)
      | (refine lp4 (fun x3 x7 x8 x9 => [(3, .int .i64 x3), (7, .sl (x7.map Enc.enc)), (8, .int .i64 x8), (9, .int .i64 x9)]) (fun x3 x7 x8 x9 => []) (fun k_ x3 x7 x8 x9 => k_ ≤ k ∧ locate_pageSize.l0 k_ x3 x7 x8 x9 = some r) ⟨Nat.le_refl _, h⟩ ?_; intro k x3 x7 x8 x9 h; obtain ⟨hk, h⟩ := h; rcases k with _ | k; (simp only [locate_pageSize.l0] at h; cases h); simp only [locate_pageSize.l0, rdc98, rdc98', rq_T110, rq_L2, rq_T73, rq_L5, rq_T98, rq_T75, rq_T43, rq_L10, rq_T28, rq_L12, rq_T24, rq_L14, rq_T44, rq_L16, rq_T49, rq_I, rq_bt, wrap64] at h)
      | refine c_dt ?_
      | refine c_df ?_)
    | (show E2 _ _ _ _ _ _ _; first
      | refine n_seq ?_
      | (refine n_end hT ?_; cases h; first | rfl | exact congrArg AV.bool (by rw [Bool.eq_iff_iff]; simp))
      | refine ag4 rfl ⟨by omega, h⟩)
    | with_reducible refine mI h (fun hc h => ?_)
    | with_reducible refine mE h (fun hc h => ?_)
    | with_reducible refine mS h (fun h => ?_)
    | refine mT h (fun h => ?_)
    | refine mF h (fun h => ?_)
    | (cases h; done)
end Go.AL.X
