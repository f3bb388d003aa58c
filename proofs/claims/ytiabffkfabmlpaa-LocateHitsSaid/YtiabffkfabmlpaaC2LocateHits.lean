/- What each function does: it answers as its model tells, and changes nothing (in 4 texts, numbered 3). -/
import Derived.Test.YtiabffkfabmlpaaC1LocateHits
namespace Go.AL.X
open Go.Proofs Go.Proofs.Ytiabffkfabmlpaa.PLocateHits
set_option linter.unusedVariables false
set_option linter.unusedSimpArgs false
set_option maxRecDepth 100000
set_option maxHeartbeats 800000
theorem locate_Offset.does {k : Nat} {l0 : List (S24)} {a1 : Int} {a2 : Int} {r : (Int × Bool)} (h : locate_Offset.f k l0 a1 a2 = some r) (G : Objs) : Does Try.prog true 25 [.sl (l0.map Enc.enc), .int .i64 a1, .int .i64 a2] G (fun x _ => x = .tup [.int .i64 r.1, .bool r.2]) := by
  unfold locate_Offset.f at h
  try simp only [rdc98, rdc98', rq_T110, rq_L2, rq_T73, rq_L5, rq_T98, rq_T75, rq_T43, rq_L10, rq_T28, rq_L12, rq_T24, rq_L14, rq_T44, rq_L16, rq_T49, rq_I, rq_bt, wrap64] at h
  refine does_walk 3 (F := cfg []) tb_ok mixed Try.func25 rfl (fun T hT => ?_)
  repeat' first
    | (show E3 _ _ _ _ _ _ _ _; first
      | refine oQ vL ?_
      | refine oQ vE ?_
      | refine oQ vSh ?_
      | refine oQ vpt ?_
      | refine oQ vpf ?_
      | refine oLd ?_
      | refine oW ?_
      | refine n_reg [0, 1, 2, 6, 7, 8, 10, 12, 34, 37, 38, 39, 40, 54, 55, 56, 57] ?_
      | refine gYq vL ?_
      | refine gYq vE ?_
      | refine gYq vSh ?_
      | refine gYq vpt ?_
      | refine gYq vpf ?_
      | refine gN ?_
      | refine gNf ?_
      | refine gY ?_
      | refine gT ?_
      | refine mB h (fun t ht h => oC (vC (fun G => locate_pageSize.does ht G)) ?_)
      | refine gif h (fun hc h => ?_) (fun hc h => ?_)
      | refine gfi h (fun hc h => ?_) (fun hc h => ?_)
      | with_reducible refine mI h (fun hc h => ?_)
      | with_reducible refine mE h (fun hc h => ?_)
      | with_reducible refine mS h (fun h => ?_)
      | refine oWs ?_
      | refine oWl ?_
      | refine gYs ?_
      | refine gifs h (fun hc h => ?_) (fun hc h => ?_)
      | refine gfis h (fun hc h => ?_) (fun hc h => ?_)
      | (fail_if_success (refine g_lit ?_)); refine g_dt ?_
      | (fail_if_success (refine g_lit ?_)); refine g_df ?_)
    | (show E1 _ _ _ _ _ _ _; first
      | refine c_seq ?_
      | refine c_reg ?_
      | refine c_blk ?_
      | refine c_exit ?_
      | refine c_ret ?_
      | refine c_skip ?_
      | refine c_tt ?_
      | refine c_ff ?_
      | refine c_if h (fun hc h => ?_) (fun hc h => ?_)
      | refine c_fi h (fun hc h => ?_) (fun hc h => ?_)
      | with_reducible refine mI h (fun hc h => ?_)
      | with_reducible refine mE h (fun hc h => ?_)
      | with_reducible refine mS h (fun h => ?_)
      | refine c_ifs h (fun hc h => ?_) (fun hc h => ?_)
      | refine c_fis h (fun hc h => ?_) (fun hc h => ?_)
      | (refine lp7 (fun x0 x1 x2 x8 x37 x38 x39 => [(0, .sl (x0.map Enc.enc)), (1, .int .i64 x1), (2, .int .i64 x2), (8, .int .i64 x8), (37, .sl (x37.map Enc.enc)), (38, .int .i64 x38), (39, .int .i64 x39)]) (fun x0 x1 x2 x8 x37 x38 x39 => []) (fun k_ x0 x1 x2 x8 x37 x38 x39 => k_ ≤ k ∧ locate_Offset.l0 k_ x0 x1 x2 x8 x37 x38 x39 = some r) ⟨Nat.le_refl _, h⟩ ?_; intro k x0 x1 x2 x8 x37 x38 x39 h; obtain ⟨hk, h⟩ := h; rcases k with _ | k; (simp only [locate_Offset.l0] at h; cases h); simp only [locate_Offset.l0, rdc98, rdc98', rq_T110, rq_L2, rq_T73, rq_L5, rq_T98, rq_T75, rq_T43, rq_L10, rq_T28, rq_L12, rq_T24, rq_L14, rq_T44, rq_L16, rq_T49, rq_I, rq_bt, wrap64] at h)
      | (refine lp4 (fun x8 x54 x55 x56 => [(8, .int .i64 x8), (54, .sl (x54.map Enc.enc)), (55, .int .i64 x55), (56, .int .i64 x56)]) (fun x8 x54 x55 x56 => []) (fun k_ x8 x54 x55 x56 => k_ ≤ k ∧ locate_Offset.l1 k_ x8 x54 x55 x56 = some r) ⟨Nat.le_refl _, h⟩ ?_; intro k x8 x54 x55 x56 h; obtain ⟨hk, h⟩ := h; rcases k with _ | k; (simp only [locate_Offset.l1] at h; cases h); simp only [locate_Offset.l1, rdc98, rdc98', rq_T110, rq_L2, rq_T73, rq_L5, rq_T98, rq_T75, rq_T43, rq_L10, rq_T28, rq_L12, rq_T24, rq_L14, rq_T44, rq_L16, rq_T49, rq_I, rq_bt, wrap64] at h)
      | refine c_dt ?_
      | refine c_df ?_)
    | (show E2 _ _ _ _ _ _ _; first
      | refine n_seq ?_
      | (refine n_ends hT ?_; cases h; first | rfl | exact congrArg AV.bool (by rw [Bool.eq_iff_iff]; simp))
      | refine ag4 rfl ⟨by omega, h⟩
      | refine ag7 rfl ⟨by omega, h⟩)
    | with_reducible refine mI h (fun hc h => ?_)
    | with_reducible refine mE h (fun hc h => ?_)
    | with_reducible refine mS h (fun h => ?_)
    | (rcases k with _ | k; (simp only [locate_Offset.j0] at h; cases h); simp only [locate_Offset.j0, rdc98, rdc98', rq_T110, rq_L2, rq_T73, rq_L5, rq_T98, rq_T75, rq_T43, rq_L10, rq_T28, rq_L12, rq_T24, rq_L14, rq_T44, rq_L16, rq_T49, rq_I, rq_bt, wrap64] at h)
    | refine mT h (fun h => ?_)
    | refine mF h (fun h => ?_)
    | (cases h; done)
theorem locate_Hit.does {k : Nat} {l0 : S98} {l0s : List S98} {l1 : List (S24)} {a2_0 : Int} {a2_1 : Int} {a2_2 : Int} {r : (Int × Int)} (h : locate_Hit.f k (l0 :: l0s) l1 a2_0 a2_1 a2_2 = some r) (G : Objs) : Does Try.prog true 20 [.ptrF (Enc.enc l0), .sl (l1.map Enc.enc), .agg [.int .i64 a2_0, .int .i64 a2_1, .int .i64 a2_2]] G (fun x _ => x = .tup [.int .i64 r.1, .int .i64 r.2]) := by
  unfold locate_Hit.f at h
  try simp only [rdc98, rdc98', rq_T110, rq_L2, rq_T73, rq_L5, rq_T98, rq_T75, rq_T43, rq_L10, rq_T28, rq_L12, rq_T24, rq_L14, rq_T44, rq_L16, rq_T49, rq_I, rq_bt, wrap64] at h
  refine does_walk 3 (F := cfg [(6, 9), (13, 8)]) tb_ok mixed Try.func20 rfl (fun T hT => ?_)
  repeat' first
    | (show E3 _ _ _ _ _ _ _ _; first
      | refine oQ vL ?_
      | refine oQ vE ?_
      | refine oQ vmax ?_
      | refine oQ vmin ?_
      | refine oLd ?_
      | refine oW ?_
      | refine n_reg [0, 1, 2, 5, 6, 7, 8, 9, 10, 12, 13, 14, 17, 31, 65, 76] ?_
      | refine mB h (fun t ht h => oC (vC (fun G => locate_Stops.does ht G)) ?_)
      | refine mB h (fun t ht h => oC (vC (fun G => locate_Offset.does ht G)) ?_)
      | refine mB h (fun t ht h => oC (vC (fun G => locate_shown.does ht G)) ?_)
      | with_reducible refine mI h (fun hc h => ?_)
      | with_reducible refine mE h (fun hc h => ?_)
      | with_reducible refine mS h (fun h => ?_)
      | refine oWs ?_
      | refine oWl ?_)
    | (show E1 _ _ _ _ _ _ _; first
      | refine c_seq ?_
      | refine c_reg ?_
      | refine c_drwf ?_
      | refine c_drw ?_
      | refine c_blk ?_
      | refine c_exit ?_
      | refine c_ret ?_
      | refine c_skip ?_
      | refine c_tt ?_
      | refine c_ff ?_
      | refine c_if h (fun hc h => ?_) (fun hc h => ?_)
      | refine c_fi h (fun hc h => ?_) (fun hc h => ?_)
      | with_reducible refine mI h (fun hc h => ?_)
      | with_reducible refine mE h (fun hc h => ?_)
      | with_reducible refine mS h (fun h => ?_)
      | refine c_ifs h (fun hc h => ?_) (fun hc h => ?_)
      | refine c_fis h (fun hc h => ?_) (fun hc h => ?_)
      | (refine lp15 (fun x10 x13 x14 x308000 x308001 x308002 x315000 x315001 x315002 x315003 x315004 x315005 x315006 x315007 x315008 => [(10, .int .i64 x10), (13, .sl (x13.map Enc.enc)), (14, .int .i64 x14), (5, .lptr 5 0), (12, .lptr 12 0)]) (fun x10 x13 x14 x308000 x308001 x308002 x315000 x315001 x315002 x315003 x315004 x315005 x315006 x315007 x315008 => [(5, [.int .i64 x308000, .int .i64 x308001, .int .i64 x308002]), (12, [.str x315000, .sl (x315001.map Enc.enc), .int .i64 x315002, .int .i64 x315003, .int .i64 x315004, .bool x315005, .int .i64 x315006, .bool x315007, .bool x315008])]) (fun k_ x10 x13 x14 x308000 x308001 x308002 x315000 x315001 x315002 x315003 x315004 x315005 x315006 x315007 x315008 => k_ ≤ k ∧ locate_Hit.l0 k_ x10 x13 x14 x308000 x308001 x308002 x315000 x315001 x315002 x315003 x315004 x315005 x315006 x315007 x315008 = some r) ⟨Nat.le_refl _, h⟩ ?_; intro k x10 x13 x14 x308000 x308001 x308002 x315000 x315001 x315002 x315003 x315004 x315005 x315006 x315007 x315008 h; obtain ⟨hk, h⟩ := h; rcases k with _ | k; (simp only [locate_Hit.l0] at h; cases h); simp only [locate_Hit.l0, rdc98, rdc98', rq_T110, rq_L2, rq_T73, rq_L5, rq_T98, rq_T75, rq_T43, rq_L10, rq_T28, rq_L12, rq_T24, rq_L14, rq_T44, rq_L16, rq_T49, rq_I, rq_bt, wrap64] at h)
      | refine c_dt ?_
      | refine c_df ?_)
    | (show E2 _ _ _ _ _ _ _; first
      | refine n_seq ?_
      | (refine n_ends hT ?_; cases h; first | rfl | exact congrArg AV.bool (by rw [Bool.eq_iff_iff]; simp))
      | refine ag15 rfl ⟨by omega, h⟩)
    | (show E4 _ _ _ _ _ _ _ _ _; first
      | refine dQ vL ?_
      | refine dQ vE ?_
      | refine dQ vmax ?_
      | refine dQ vmin ?_
      | refine dW ?_
      | refine dE ?_)
    | (show E5 _ _ _ _ _ _ _ _; first
      | refine tQ vL ?_
      | refine tQ vE ?_
      | refine tQ vmax ?_
      | refine tQ vmin ?_
      | refine tW ?_
      | refine n_drw [0, 1, 2, 5, 6, 7, 8, 9, 10, 12, 13, 14, 17, 31, 65, 76] ?_)
    | with_reducible refine mI h (fun hc h => ?_)
    | with_reducible refine mE h (fun hc h => ?_)
    | with_reducible refine mS h (fun h => ?_)
    | refine mT h (fun h => ?_)
    | refine mF h (fun h => ?_)
    | (cases h; done)
theorem regletref02_Kind.does {k : Nat} {a0 : Int} {r : (Int)} (h : regletref02_Kind.f k a0 = some r) (G : Objs) : Does Try.prog true 40 [.int .i64 a0] G (fun x _ => x = .int .i64 r) := by
  unfold regletref02_Kind.f at h
  try simp only [rdc98, rdc98', rq_T110, rq_L2, rq_T73, rq_L5, rq_T98, rq_T75, rq_T43, rq_L10, rq_T28, rq_L12, rq_T24, rq_L14, rq_T44, rq_L16, rq_T49, rq_I, rq_bt, wrap64] at h
  refine does_walk 1 (F := cfg []) tb_ok mixed Try.func40 rfl (fun T hT => ?_)
  repeat' first
    | (show E3 _ _ _ _ _ _ _ _; first
      | refine oQ vL ?_
      | refine oQ vE ?_
      | refine oBS ?_
      | refine oW ?_
      | refine n_reg [0, 2, 3, 4, 5, 19, 28, 39] ?_
      | with_reducible refine mI h (fun hc h => ?_)
      | with_reducible refine mE h (fun hc h => ?_)
      | with_reducible refine mS h (fun h => ?_)
      | refine oWs ?_)
    | (show E1 _ _ _ _ _ _ _; first
      | refine c_seq ?_
      | refine c_reg ?_
      | refine c_blk ?_
      | refine c_exit ?_
      | refine c_ret ?_
      | refine c_skip ?_
      | refine c_tt ?_
      | refine c_ff ?_
      | refine c_if h (fun hc h => ?_) (fun hc h => ?_)
      | refine c_fi h (fun hc h => ?_) (fun hc h => ?_)
      | with_reducible refine mI h (fun hc h => ?_)
      | with_reducible refine mE h (fun hc h => ?_)
      | with_reducible refine mS h (fun h => ?_)
      | refine c_ifs h (fun hc h => ?_) (fun hc h => ?_)
      | refine c_fis h (fun hc h => ?_) (fun hc h => ?_)
      | (refine lp3 (fun x0 x3 x4 => [(0, .int .i64 x0), (3, .sl (x3.map Enc.enc)), (4, .int .i64 x4)]) (fun x0 x3 x4 => []) (fun k_ x0 x3 x4 => k_ ≤ k ∧ regletref02_Kind.l0 k_ x0 x3 x4 = some r) ⟨Nat.le_refl _, h⟩ ?_; intro k x0 x3 x4 h; obtain ⟨hk, h⟩ := h; rcases k with _ | k; (simp only [regletref02_Kind.l0] at h; cases h); simp only [regletref02_Kind.l0, rdc98, rdc98', rq_T110, rq_L2, rq_T73, rq_L5, rq_T98, rq_T75, rq_T43, rq_L10, rq_T28, rq_L12, rq_T24, rq_L14, rq_T44, rq_L16, rq_T49, rq_I, rq_bt, wrap64] at h)
      | (refine lp4 (fun x0 x3 x4 x5 => [(0, .int .i64 x0), (3, .sl (x3.map Enc.enc)), (4, .int .i64 x4), (5, .int .i64 x5)]) (fun x0 x3 x4 x5 => []) (fun k_ x0 x3 x4 x5 => k_ ≤ k ∧ regletref02_Kind.l1 k_ x0 x3 x4 x5 = some r) ⟨Nat.le_refl _, h⟩ ?_; intro k x0 x3 x4 x5 h; obtain ⟨hk, h⟩ := h; rcases k with _ | k; (simp only [regletref02_Kind.l1] at h; cases h); simp only [regletref02_Kind.l1, rdc98, rdc98', rq_T110, rq_L2, rq_T73, rq_L5, rq_T98, rq_T75, rq_T43, rq_L10, rq_T28, rq_L12, rq_T24, rq_L14, rq_T44, rq_L16, rq_T49, rq_I, rq_bt, wrap64] at h)
      | refine c_dt ?_
      | refine c_df ?_)
    | (show E2 _ _ _ _ _ _ _; first
      | refine n_seq ?_
      | (refine n_end hT ?_; cases h; first | rfl | exact congrArg AV.bool (by rw [Bool.eq_iff_iff]; simp))
      | refine ag3 rfl ⟨by omega, h⟩
      | refine ag4 rfl ⟨by omega, h⟩)
    | with_reducible refine mI h (fun hc h => ?_)
    | with_reducible refine mE h (fun hc h => ?_)
    | with_reducible refine mS h (fun h => ?_)
    | refine mT h (fun h => ?_)
    | refine mF h (fun h => ?_)
    | (cases h; done)
theorem regletref15_Seen.does {k : Nat} {a0 : Int} {r : (Bool)} (h : regletref15_Seen.f k a0 = some r) (G : Objs) : Does Try.prog true 56 [.int .i64 a0] G (fun x _ => x = .bool r) := by
  unfold regletref15_Seen.f at h
  try simp only [rdc98, rdc98', rq_T110, rq_L2, rq_T73, rq_L5, rq_T98, rq_T75, rq_T43, rq_L10, rq_T28, rq_L12, rq_T24, rq_L14, rq_T44, rq_L16, rq_T49, rq_I, rq_bt, wrap64] at h
  refine does_walk 1 (F := cfg []) tb_ok mixed Try.func56 rfl (fun T hT => ?_)
  repeat' first
    | (show E3 _ _ _ _ _ _ _ _; first
      | refine oQ vpt ?_
      | refine oQ vpf ?_
      | refine oW ?_
      | refine n_reg [0, 2, 3] ?_
      | refine gYq vpt ?_
      | refine gYq vpf ?_
      | refine gN ?_
      | refine gNf ?_
      | refine gY ?_
      | refine gT ?_
      | refine mB h (fun t ht h => oC (vC (fun G => regletref02_Kind.does ht G)) ?_)
      | refine gif h (fun hc h => ?_) (fun hc h => ?_)
      | refine gfi h (fun hc h => ?_) (fun hc h => ?_)
      | with_reducible refine mI h (fun hc h => ?_)
      | with_reducible refine mE h (fun hc h => ?_)
      | with_reducible refine mS h (fun h => ?_)
      | refine oWs ?_
      | refine gYs ?_
      | refine gifs h (fun hc h => ?_) (fun hc h => ?_)
      | refine gfis h (fun hc h => ?_) (fun hc h => ?_)
      | (fail_if_success (refine g_lit ?_)); refine g_dt ?_
      | (fail_if_success (refine g_lit ?_)); refine g_df ?_)
    | (show E1 _ _ _ _ _ _ _; first
      | refine c_seq ?_
      | refine c_reg ?_
      | refine c_ret ?_)
    | (show E2 _ _ _ _ _ _ _; first
      | refine n_seq ?_
      | (refine n_end hT ?_; cases h; first | rfl | exact congrArg AV.bool (by rw [Bool.eq_iff_iff]; simp)))
    | with_reducible refine mI h (fun hc h => ?_)
    | with_reducible refine mE h (fun hc h => ?_)
    | with_reducible refine mS h (fun h => ?_)
    | refine mT h (fun h => ?_)
    | refine mF h (fun h => ?_)
    | (cases h; done)
theorem regletref15_End.does {k : Nat} {a0 : ByteArray} {r : (Int)} (h : regletref15_End.f k a0 = some r) (G : Objs) : Does Try.prog true 37 [.str a0] G (fun x _ => x = .int .i64 r) := by
  unfold regletref15_End.f at h
  try simp only [rdc98, rdc98', rq_T110, rq_L2, rq_T73, rq_L5, rq_T98, rq_T75, rq_T43, rq_L10, rq_T28, rq_L12, rq_T24, rq_L14, rq_T44, rq_L16, rq_T49, rq_I, rq_bt, wrap64] at h
  refine does_walk 1 (F := cfg []) tb_ok mixed Try.func37 rfl (fun T hT => ?_)
  repeat' first
    | (show E3 _ _ _ _ _ _ _ _; first
      | refine oQ vL ?_
      | refine oQ vE ?_
      | refine oW ?_
      | refine n_reg [0, 2, 3, 4, 6, 7, 17, 24, 31] ?_
      | refine mB h (fun t ht h => oC (vC (fun G => regletref02_Runes.does ht G)) ?_)
      | refine mB h (fun t ht h => oC (vC (fun G => regletref15_Seen.does ht G)) ?_)
      | with_reducible refine mI h (fun hc h => ?_)
      | with_reducible refine mE h (fun hc h => ?_)
      | with_reducible refine mS h (fun h => ?_)
      | refine oWs ?_)
    | (show E1 _ _ _ _ _ _ _; first
      | refine c_seq ?_
      | refine c_reg ?_
      | refine c_blk ?_
      | refine c_exit ?_
      | refine c_ret ?_
      | refine c_skip ?_
      | refine c_tt ?_
      | refine c_ff ?_
      | refine c_if h (fun hc h => ?_) (fun hc h => ?_)
      | refine c_fi h (fun hc h => ?_) (fun hc h => ?_)
      | with_reducible refine mI h (fun hc h => ?_)
      | with_reducible refine mE h (fun hc h => ?_)
      | with_reducible refine mS h (fun h => ?_)
      | refine c_ifs h (fun hc h => ?_) (fun hc h => ?_)
      | refine c_fis h (fun hc h => ?_) (fun hc h => ?_)
      | (refine lp5 (fun x0 x3 x4 x6 x7 => [(0, .str x0), (3, .sl (x3.map Enc.enc)), (4, .sl (x4.map Enc.enc)), (6, .int .i64 x6), (7, .int .i64 x7)]) (fun x0 x3 x4 x6 x7 => []) (fun k_ x0 x3 x4 x6 x7 => k_ ≤ k ∧ regletref15_End.l0 k_ x0 x3 x4 x6 x7 = some r) ⟨Nat.le_refl _, h⟩ ?_; intro k x0 x3 x4 x6 x7 h; obtain ⟨hk, h⟩ := h; rcases k with _ | k; (simp only [regletref15_End.l0] at h; cases h); simp only [regletref15_End.l0, rdc98, rdc98', rq_T110, rq_L2, rq_T73, rq_L5, rq_T98, rq_T75, rq_T43, rq_L10, rq_T28, rq_L12, rq_T24, rq_L14, rq_T44, rq_L16, rq_T49, rq_I, rq_bt, wrap64] at h)
      | refine c_dt ?_
      | refine c_df ?_)
    | (show E2 _ _ _ _ _ _ _; first
      | refine n_seq ?_
      | (refine n_end hT ?_; cases h; first | rfl | exact congrArg AV.bool (by rw [Bool.eq_iff_iff]; simp))
      | refine ag5 rfl ⟨by omega, h⟩)
    | with_reducible refine mI h (fun hc h => ?_)
    | with_reducible refine mE h (fun hc h => ?_)
    | with_reducible refine mS h (fun h => ?_)
    | refine mT h (fun h => ?_)
    | refine mF h (fun h => ?_)
    | (cases h; done)
theorem regletref15_style.does {k : Nat} {l0 : List (S75)} {a1 : Int} {r : (Int)} (h : regletref15_style.f k l0 a1 = some r) (G : Objs) : Does Try.prog true 38 [.sl (l0.map Enc.enc), .int .i64 a1] G (fun x _ => x = .int .i64 r) := by
  unfold regletref15_style.f at h
  try simp only [rdc98, rdc98', rq_T110, rq_L2, rq_T73, rq_L5, rq_T98, rq_T75, rq_T43, rq_L10, rq_T28, rq_L12, rq_T24, rq_L14, rq_T44, rq_L16, rq_T49, rq_I, rq_bt, wrap64] at h
  refine does_walk 2 (F := cfg []) tb_ok mixed Try.func38 rfl (fun T hT => ?_)
  repeat' first
    | (show E3 _ _ _ _ _ _ _ _; first
      | refine oQ vL ?_
      | refine oQ vE ?_
      | refine oW ?_
      | refine n_reg [0, 1, 4, 5, 9, 17, 24] ?_
      | with_reducible refine mI h (fun hc h => ?_)
      | with_reducible refine mE h (fun hc h => ?_)
      | with_reducible refine mS h (fun h => ?_)
      | refine oWs ?_)
    | (show E1 _ _ _ _ _ _ _; first
      | refine c_seq ?_
      | refine c_reg ?_
      | refine c_blk ?_
      | refine c_exit ?_
      | refine c_ret ?_
      | refine c_skip ?_
      | refine c_tt ?_
      | refine c_ff ?_
      | refine c_if h (fun hc h => ?_) (fun hc h => ?_)
      | refine c_fi h (fun hc h => ?_) (fun hc h => ?_)
      | with_reducible refine mI h (fun hc h => ?_)
      | with_reducible refine mE h (fun hc h => ?_)
      | with_reducible refine mS h (fun h => ?_)
      | refine c_ifs h (fun hc h => ?_) (fun hc h => ?_)
      | refine c_fis h (fun hc h => ?_) (fun hc h => ?_)
      | (refine lp3 (fun x0 x1 x5 => [(0, .sl (x0.map Enc.enc)), (1, .int .i64 x1), (5, .int .i64 x5)]) (fun x0 x1 x5 => []) (fun k_ x0 x1 x5 => k_ ≤ k ∧ regletref15_style.l0 k_ x0 x1 x5 = some r) ⟨Nat.le_refl _, h⟩ ?_; intro k x0 x1 x5 h; obtain ⟨hk, h⟩ := h; rcases k with _ | k; (simp only [regletref15_style.l0] at h; cases h); simp only [regletref15_style.l0, rdc98, rdc98', rq_T110, rq_L2, rq_T73, rq_L5, rq_T98, rq_T75, rq_T43, rq_L10, rq_T28, rq_L12, rq_T24, rq_L14, rq_T44, rq_L16, rq_T49, rq_I, rq_bt, wrap64] at h)
      | refine c_dt ?_
      | refine c_df ?_)
    | (show E2 _ _ _ _ _ _ _; first
      | refine n_seq ?_
      | (refine n_end hT ?_; cases h; first | rfl | exact congrArg AV.bool (by rw [Bool.eq_iff_iff]; simp))
      | refine ag3 rfl ⟨by omega, h⟩)
    | with_reducible refine mI h (fun hc h => ?_)
    | with_reducible refine mE h (fun hc h => ?_)
    | with_reducible refine mS h (fun h => ?_)
    | refine mT h (fun h => ?_)
    | refine mF h (fun h => ?_)
    | (cases h; done)
theorem regletref04_Of.does {l0 : List (S73)} {a1 : Int} {r : (Int × Int × Int × Int × Int × Int × (List (S110)) × Bool)} (h : regletref04_Of.f l0 a1 = some r) (G : Objs) : Does Try.prog true 39 [.sl (l0.map Enc.enc), .int .i64 a1] G (fun x _ => x = .agg [.int .i64 r.1, .int .i64 r.2.1, .int .i64 r.2.2.1, .int .i64 r.2.2.2.1, .int .i64 r.2.2.2.2.1, .int .i64 r.2.2.2.2.2.1, .sl (r.2.2.2.2.2.2.1.map Enc.enc), .bool r.2.2.2.2.2.2.2]) := by
  unfold regletref04_Of.f at h
  try simp only [rdc98, rdc98', rq_T110, rq_L2, rq_T73, rq_L5, rq_T98, rq_T75, rq_T43, rq_L10, rq_T28, rq_L12, rq_T24, rq_L14, rq_T44, rq_L16, rq_T49, rq_I, rq_bt, wrap64] at h
  refine does_walk 2 (F := cfg []) tb_ok mixed Try.func39 rfl (fun T hT => ?_)
  repeat' first
    | (show E3 _ _ _ _ _ _ _ _; first
      | refine oQ vL ?_
      | refine oQ vE ?_
      | refine oQ vpt ?_
      | refine oQ vpf ?_
      | refine oB ?_
      | refine oLd ?_
      | refine oW ?_
      | refine n_reg [0, 1, 4, 12] ?_
      | refine gYq vL ?_
      | refine gYq vE ?_
      | refine gYq vpt ?_
      | refine gYq vpf ?_
      | refine gN ?_
      | refine gNf ?_
      | refine gY ?_
      | refine gT ?_
      | refine gif h (fun hc h => ?_) (fun hc h => ?_)
      | refine gfi h (fun hc h => ?_) (fun hc h => ?_)
      | with_reducible refine mI h (fun hc h => ?_)
      | with_reducible refine mE h (fun hc h => ?_)
      | with_reducible refine mS h (fun h => ?_)
      | refine oWs ?_
      | refine oWl ?_
      | refine gYs ?_
      | refine gifs h (fun hc h => ?_) (fun hc h => ?_)
      | refine gfis h (fun hc h => ?_) (fun hc h => ?_)
      | (fail_if_success (refine g_lit ?_)); refine g_dt ?_
      | (fail_if_success (refine g_lit ?_)); refine g_df ?_)
    | (show E1 _ _ _ _ _ _ _; first
      | refine c_seq ?_
      | refine c_reg ?_
      | refine c_ret ?_
      | refine c_skip ?_
      | refine c_tt ?_
      | refine c_ff ?_
      | refine c_if h (fun hc h => ?_) (fun hc h => ?_)
      | refine c_fi h (fun hc h => ?_) (fun hc h => ?_)
      | with_reducible refine mI h (fun hc h => ?_)
      | with_reducible refine mE h (fun hc h => ?_)
      | with_reducible refine mS h (fun h => ?_)
      | refine c_ifs h (fun hc h => ?_) (fun hc h => ?_)
      | refine c_fis h (fun hc h => ?_) (fun hc h => ?_)
      | refine c_dt ?_
      | refine c_df ?_)
    | (show E2 _ _ _ _ _ _ _; first
      | refine n_seq ?_
      | (refine n_end hT ?_; cases h; first | rfl | exact congrArg AV.bool (by rw [Bool.eq_iff_iff]; simp)))
    | with_reducible refine mI h (fun hc h => ?_)
    | with_reducible refine mE h (fun hc h => ?_)
    | with_reducible refine mS h (fun h => ?_)
    | refine mT h (fun h => ?_)
    | refine mF h (fun h => ?_)
    | (cases h; done)
theorem regletref01_Clamp.does {a0 : Int} {r : (Int)} (h : regletref01_Clamp.f a0 = some r) (G : Objs) : Does Try.prog true 57 [.int .i64 a0] G (fun x _ => x = .int .i64 r) := by
  unfold regletref01_Clamp.f at h
  try simp only [rdc98, rdc98', rq_T110, rq_L2, rq_T73, rq_L5, rq_T98, rq_T75, rq_T43, rq_L10, rq_T28, rq_L12, rq_T24, rq_L14, rq_T44, rq_L16, rq_T49, rq_I, rq_bt, wrap64] at h
  refine does_walk 1 (F := cfg []) tb_ok mixed Try.func57 rfl (fun T hT => ?_)
  repeat' first
    | (show E3 _ _ _ _ _ _ _ _; first
      | refine oW ?_
      | refine n_reg [0, 2, 4, 6] ?_
      | with_reducible refine mI h (fun hc h => ?_)
      | with_reducible refine mE h (fun hc h => ?_)
      | with_reducible refine mS h (fun h => ?_)
      | refine oWs ?_)
    | (show E1 _ _ _ _ _ _ _; first
      | refine c_seq ?_
      | refine c_reg ?_
      | refine c_ret ?_
      | refine c_skip ?_
      | refine c_tt ?_
      | refine c_ff ?_
      | refine c_if h (fun hc h => ?_) (fun hc h => ?_)
      | refine c_fi h (fun hc h => ?_) (fun hc h => ?_)
      | with_reducible refine mI h (fun hc h => ?_)
      | with_reducible refine mE h (fun hc h => ?_)
      | with_reducible refine mS h (fun h => ?_)
      | refine c_ifs h (fun hc h => ?_) (fun hc h => ?_)
      | refine c_fis h (fun hc h => ?_) (fun hc h => ?_)
      | refine c_dt ?_
      | refine c_df ?_)
    | (show E2 _ _ _ _ _ _ _; first
      | refine n_seq ?_
      | (refine n_end hT ?_; cases h; first | rfl | exact congrArg AV.bool (by rw [Bool.eq_iff_iff]; simp)))
    | with_reducible refine mI h (fun hc h => ?_)
    | with_reducible refine mE h (fun hc h => ?_)
    | with_reducible refine mS h (fun h => ?_)
    | refine mT h (fun h => ?_)
    | refine mF h (fun h => ?_)
    | (cases h; done)
theorem regletref01_Add.does {a0 : Int} {a1 : Int} {r : (Int)} (h : regletref01_Add.f a0 a1 = some r) (G : Objs) : Does Try.prog true 41 [.int .i64 a0, .int .i64 a1] G (fun x _ => x = .int .i64 r) := by
  unfold regletref01_Add.f at h
  try simp only [rdc98, rdc98', rq_T110, rq_L2, rq_T73, rq_L5, rq_T98, rq_T75, rq_T43, rq_L10, rq_T28, rq_L12, rq_T24, rq_L14, rq_T44, rq_L16, rq_T49, rq_I, rq_bt, wrap64] at h
  refine does_walk 2 (F := cfg []) tb_ok mixed Try.func41 rfl (fun T hT => ?_)
  repeat' first
    | (show E3 _ _ _ _ _ _ _ _; first
      | refine oW ?_
      | refine n_reg [0, 1, 4] ?_
      | refine mB h (fun t ht h => oC (vC (fun G => regletref01_Clamp.does ht G)) ?_)
      | with_reducible refine mI h (fun hc h => ?_)
      | with_reducible refine mE h (fun hc h => ?_)
      | with_reducible refine mS h (fun h => ?_)
      | refine oWs ?_)
    | (show E1 _ _ _ _ _ _ _; first
      | refine c_seq ?_
      | refine c_reg ?_
      | refine c_ret ?_)
    | (show E2 _ _ _ _ _ _ _; first
      | refine n_seq ?_
      | (refine n_end hT ?_; cases h; first | rfl | exact congrArg AV.bool (by rw [Bool.eq_iff_iff]; simp)))
    | with_reducible refine mI h (fun hc h => ?_)
    | with_reducible refine mE h (fun hc h => ?_)
    | with_reducible refine mS h (fun h => ?_)
    | refine mT h (fun h => ?_)
    | refine mF h (fun h => ?_)
    | (cases h; done)
theorem regletref04_Width.does {k : Nat} {l0 : List (S73)} {a1 : Int} {a2 : Int} {r : (Int)} (h : regletref04_Width.f k l0 a1 a2 = some r) (G : Objs) : Does Try.prog true 42 [.sl (l0.map Enc.enc), .int .i64 a1, .int .i64 a2] G (fun x _ => x = .int .i64 r) := by
  unfold regletref04_Width.f at h
  try simp only [rdc98, rdc98', rq_T110, rq_L2, rq_T73, rq_L5, rq_T98, rq_T75, rq_T43, rq_L10, rq_T28, rq_L12, rq_T24, rq_L14, rq_T44, rq_L16, rq_T49, rq_I, rq_bt, wrap64] at h
  refine does_walk 3 (F := cfg []) tb_ok mixed Try.func42 rfl (fun T hT => ?_)
  repeat' first
    | (show E3 _ _ _ _ _ _ _ _; first
      | refine oQ vL ?_
      | refine oQ vE ?_
      | refine oQ vpt ?_
      | refine oQ vpf ?_
      | refine oW ?_
      | refine n_reg [0, 1, 2, 6, 7, 8, 13, 14, 19, 29, 49] ?_
      | refine gYq vL ?_
      | refine gYq vE ?_
      | refine gYq vpt ?_
      | refine gYq vpf ?_
      | refine gN ?_
      | refine gNf ?_
      | refine gY ?_
      | refine gT ?_
      | refine mB h (fun t ht h => oC (vC (fun G => regletref04_Of.does ht G)) ?_)
      | refine mB h (fun t ht h => oC (vC (fun G => regletref02_Kind.does ht G)) ?_)
      | refine gif h (fun hc h => ?_) (fun hc h => ?_)
      | refine gfi h (fun hc h => ?_) (fun hc h => ?_)
      | with_reducible refine mI h (fun hc h => ?_)
      | with_reducible refine mE h (fun hc h => ?_)
      | with_reducible refine mS h (fun h => ?_)
      | refine oWs ?_
      | refine oWl ?_
      | refine gYs ?_
      | refine gifs h (fun hc h => ?_) (fun hc h => ?_)
      | refine gfis h (fun hc h => ?_) (fun hc h => ?_)
      | (fail_if_success (refine g_lit ?_)); refine g_dt ?_
      | (fail_if_success (refine g_lit ?_)); refine g_df ?_)
    | (show E1 _ _ _ _ _ _ _; first
      | refine c_seq ?_
      | refine c_reg ?_
      | refine c_blk ?_
      | refine c_exit ?_
      | refine c_ret ?_
      | refine c_skip ?_
      | refine c_tt ?_
      | refine c_ff ?_
      | refine c_if h (fun hc h => ?_) (fun hc h => ?_)
      | refine c_fi h (fun hc h => ?_) (fun hc h => ?_)
      | with_reducible refine mI h (fun hc h => ?_)
      | with_reducible refine mE h (fun hc h => ?_)
      | with_reducible refine mS h (fun h => ?_)
      | refine c_ifs h (fun hc h => ?_) (fun hc h => ?_)
      | refine c_fis h (fun hc h => ?_) (fun hc h => ?_)
      | (refine lp10 (fun x2 x8 x385000 x385001 x385002 x385003 x385004 x385005 x385006 x385007 => [(2, .int .i64 x2), (8, .int .i64 x8), (7, .lptr 7 0)]) (fun x2 x8 x385000 x385001 x385002 x385003 x385004 x385005 x385006 x385007 => [(7, [.int .i64 x385000, .int .i64 x385001, .int .i64 x385002, .int .i64 x385003, .int .i64 x385004, .int .i64 x385005, .sl (x385006.map Enc.enc), .bool x385007])]) (fun k_ x2 x8 x385000 x385001 x385002 x385003 x385004 x385005 x385006 x385007 => k_ ≤ k ∧ regletref04_Width.l0 k_ x2 x8 x385000 x385001 x385002 x385003 x385004 x385005 x385006 x385007 = some r) ⟨Nat.le_refl _, h⟩ ?_; intro k x2 x8 x385000 x385001 x385002 x385003 x385004 x385005 x385006 x385007 h; obtain ⟨hk, h⟩ := h; rcases k with _ | k; (simp only [regletref04_Width.l0] at h; cases h); simp only [regletref04_Width.l0, rdc98, rdc98', rq_T110, rq_L2, rq_T73, rq_L5, rq_T98, rq_T75, rq_T43, rq_L10, rq_T28, rq_L12, rq_T24, rq_L14, rq_T44, rq_L16, rq_T49, rq_I, rq_bt, wrap64] at h)
      | refine c_dt ?_
      | refine c_df ?_)
    | (show E2 _ _ _ _ _ _ _; first
      | refine n_seq ?_
      | (refine n_end hT ?_; cases h; first | rfl | exact congrArg AV.bool (by rw [Bool.eq_iff_iff]; simp))
      | refine ag10 rfl ⟨by omega, h⟩)
    | with_reducible refine mI h (fun hc h => ?_)
    | with_reducible refine mE h (fun hc h => ?_)
    | with_reducible refine mS h (fun h => ?_)
    | (rcases k with _ | k; (simp only [regletref04_Width.j0] at h; cases h); simp only [regletref04_Width.j0, rdc98, rdc98', rq_T110, rq_L2, rq_T73, rq_L5, rq_T98, rq_T75, rq_T43, rq_L10, rq_T28, rq_L12, rq_T24, rq_L14, rq_T44, rq_L16, rq_T49, rq_I, rq_bt, wrap64] at h)
    | refine mT h (fun h => ?_)
    | refine mF h (fun h => ?_)
    | (cases h; done)
theorem regletref01_bare.does {k : Nat} {l0 : List Int} {r : (List Int)} (h : regletref01_bare.f k l0 = some r) (G : Objs) : Does Try.prog true 76 [.sl (l0.map Enc.enc)] G (fun x _ => x = .sl (r.map Enc.enc)) := by
  unfold regletref01_bare.f at h
  try simp only [rdc98, rdc98', rq_T110, rq_L2, rq_T73, rq_L5, rq_T98, rq_T75, rq_T43, rq_L10, rq_T28, rq_L12, rq_T24, rq_L14, rq_T44, rq_L16, rq_T49, rq_I, rq_bt, wrap64] at h
  refine does_walk 1 (F := cfg []) tb_ok mixed Try.func76 rfl (fun T hT => ?_)
  repeat' first
    | (show E3 _ _ _ _ _ _ _ _; first
      | refine oQ vL ?_
      | refine oQ vLv ?_
      | refine oQ vE ?_
      | refine oQ vEv ?_
      | refine oQ vEo ?_
      | refine oQ vSh ?_
      | refine oQ vpt ?_
      | refine oQ vpf ?_
      | refine oLe vLe ?_
      | refine oBS ?_
      | refine oW ?_
      | refine n_reg [0, 2, 3, 15] ?_
      | refine gYq vL ?_
      | refine gYq vLv ?_
      | refine gYq vE ?_
      | refine gYq vEv ?_
      | refine gYq vEo ?_
      | refine gYq vSh ?_
      | refine gYq vpt ?_
      | refine gYq vpf ?_
      | refine gLe vLe ?_
      | refine gN ?_
      | refine gNf ?_
      | refine gY ?_
      | refine gT ?_
      | refine oAv (_ : Int) ?_
      | refine oA (_ : Int) ?_
      | refine oAe (_ : Int) ?_
      | refine oMv ?_
      | refine oM ?_
      | refine oMe ?_
      | refine gif h (fun hc h => ?_) (fun hc h => ?_)
      | refine gfi h (fun hc h => ?_) (fun hc h => ?_)
      | with_reducible refine mI h (fun hc h => ?_)
      | with_reducible refine mE h (fun hc h => ?_)
      | with_reducible refine mS h (fun h => ?_)
      | refine oWs ?_
      | refine gYs ?_
      | refine gifs h (fun hc h => ?_) (fun hc h => ?_)
      | refine gfis h (fun hc h => ?_) (fun hc h => ?_)
      | (fail_if_success (refine g_lit ?_)); refine g_dt ?_
      | (fail_if_success (refine g_lit ?_)); refine g_df ?_)
    | (show E1 _ _ _ _ _ _ _; first
      | refine c_seq ?_
      | refine c_reg ?_
      | refine c_blk ?_
      | refine c_exit ?_
      | refine c_ret ?_
      | refine c_skip ?_
      | refine c_tt ?_
      | refine c_ff ?_
      | refine c_if h (fun hc h => ?_) (fun hc h => ?_)
      | refine c_fi h (fun hc h => ?_) (fun hc h => ?_)
      | with_reducible refine mI h (fun hc h => ?_)
      | with_reducible refine mE h (fun hc h => ?_)
      | with_reducible refine mS h (fun h => ?_)
      | refine c_ifs h (fun hc h => ?_) (fun hc h => ?_)
      | refine c_fis h (fun hc h => ?_) (fun hc h => ?_)
      | (refine lp2 (fun x0 x3 => [(0, .sl (x0.map Enc.enc)), (3, .int .i64 x3)]) (fun x0 x3 => []) (fun k_ x0 x3 => k_ ≤ k ∧ regletref01_bare.l0 k_ x0 x3 = some r) ⟨Nat.le_refl _, h⟩ ?_; intro k x0 x3 h; obtain ⟨hk, h⟩ := h; rcases k with _ | k; (simp only [regletref01_bare.l0] at h; cases h); simp only [regletref01_bare.l0, rdc98, rdc98', rq_T110, rq_L2, rq_T73, rq_L5, rq_T98, rq_T75, rq_T43, rq_L10, rq_T28, rq_L12, rq_T24, rq_L14, rq_T44, rq_L16, rq_T49, rq_I, rq_bt, wrap64] at h)
      | refine c_dt ?_
      | refine c_df ?_)
    | (show E2 _ _ _ _ _ _ _; first
      | refine n_seq ?_
      | (refine n_end hT ?_; cases h; first | rfl | exact congrArg AV.bool (by rw [Bool.eq_iff_iff]; simp))
      | refine ag2 rfl ⟨by omega, h⟩)
    | (show E4 _ _ _ _ _ _ _ _ _; first
      | refine dQ vLe ?_)
    | with_reducible refine mI h (fun hc h => ?_)
    | with_reducible refine mE h (fun hc h => ?_)
    | with_reducible refine mS h (fun h => ?_)
    | refine mT h (fun h => ?_)
    | refine mF h (fun h => ?_)
    | (cases h; done)
theorem regletref01_Times.does {k : Nat} {l0 : List Int} {l1 : List Int} {r : (List Int)} (h : regletref01_Times.f k l0 l1 = some r) (G : Objs) : Does Try.prog true 68 [.sl (l0.map Enc.enc), .sl (l1.map Enc.enc)] G (fun x _ => x = .sl (r.map Enc.enc)) := by
  unfold regletref01_Times.f at h
  try simp only [rdc98, rdc98', rq_T110, rq_L2, rq_T73, rq_L5, rq_T98, rq_T75, rq_T43, rq_L10, rq_T28, rq_L12, rq_T24, rq_L14, rq_T44, rq_L16, rq_T49, rq_I, rq_bt, wrap64] at h
  refine does_walk 2 (F := cfg [(8, 20), (9, 20), (14, 14)]) tb_ok mixed Try.func68 rfl (fun T hT => ?_)
  repeat' first
    | (show E3 _ _ _ _ _ _ _ _; first
      | refine oQ vL ?_
      | refine oQ vLv ?_
      | refine oQ vE ?_
      | refine oQ vEv ?_
      | refine oQ vEo ?_
      | refine oLe vLe ?_
      | refine oMk (α := Int) ?_
      | refine oW ?_
      | refine n_reg [0, 1, 4, 5, 6, 7, 8, 19, 25, 86] ?_
      | refine mB h (fun t ht h => oC (vC (fun G => regletref01_bare.does ht G)) ?_)
      | refine fz 112 ?_
      | with_reducible refine mI h (fun hc h => ?_)
      | with_reducible refine mE h (fun hc h => ?_)
      | with_reducible refine mS h (fun h => ?_)
      | refine oSe (_ : Int) ?_
      | refine oWs ?_
      | refine oWl ?_)
    | (show E1 _ _ _ _ _ _ _; first
      | refine c_seq ?_
      | refine c_reg ?_
      | refine c_drwf ?_
      | refine c_drw ?_
      | refine c_blk ?_
      | refine c_exit ?_
      | refine c_ret ?_
      | refine c_skip ?_
      | refine c_tt ?_
      | refine c_ff ?_
      | refine c_if h (fun hc h => ?_) (fun hc h => ?_)
      | refine c_fi h (fun hc h => ?_) (fun hc h => ?_)
      | with_reducible refine mI h (fun hc h => ?_)
      | with_reducible refine mE h (fun hc h => ?_)
      | with_reducible refine mS h (fun h => ?_)
      | refine c_ifs h (fun hc h => ?_) (fun hc h => ?_)
      | refine c_fis h (fun hc h => ?_) (fun hc h => ?_)
      | (refine lp4 (fun x0 x1 x5 x6 => [(0, .sl (x0.map Enc.enc)), (1, .sl (x1.map Enc.enc)), (5, .own 1 (x5.map Enc.enc)), (6, .int .i64 x6)]) (fun x0 x1 x5 x6 => []) (fun k_ x0 x1 x5 x6 => k_ ≤ k ∧ regletref01_Times.l0 k_ x0 x1 x5 x6 = some r) ⟨Nat.le_refl _, h⟩ ?_; intro k x0 x1 x5 x6 h; obtain ⟨hk, h⟩ := h; rcases k with _ | k; (simp only [regletref01_Times.l0] at h; cases h); simp only [regletref01_Times.l0, rdc98, rdc98', rq_T110, rq_L2, rq_T73, rq_L5, rq_T98, rq_T75, rq_T43, rq_L10, rq_T28, rq_L12, rq_T24, rq_L14, rq_T44, rq_L16, rq_T49, rq_I, rq_bt, wrap64] at h)
      | (refine lp5 (fun x0 x1 x5 x6 x7 => [(0, .sl (x0.map Enc.enc)), (1, .sl (x1.map Enc.enc)), (5, .own 1 (x5.map Enc.enc)), (6, .int .i64 x6), (7, .int .i64 x7)]) (fun x0 x1 x5 x6 x7 => []) (fun k_ x0 x1 x5 x6 x7 => k_ ≤ k ∧ regletref01_Times.l1 k_ x0 x1 x5 x6 x7 = some r) ⟨Nat.le_refl _, h⟩ ?_; intro k x0 x1 x5 x6 x7 h; obtain ⟨hk, h⟩ := h; rcases k with _ | k; (simp only [regletref01_Times.l1] at h; cases h); simp only [regletref01_Times.l1, rdc98, rdc98', rq_T110, rq_L2, rq_T73, rq_L5, rq_T98, rq_T75, rq_T43, rq_L10, rq_T28, rq_L12, rq_T24, rq_L14, rq_T44, rq_L16, rq_T49, rq_I, rq_bt, wrap64] at h)
      | (refine lp2 (fun x5 x8 => [(5, .own 1 (x5.map Enc.enc)), (8, .int .i64 x8)]) (fun x5 x8 => []) (fun k_ x5 x8 => k_ ≤ k ∧ regletref01_Times.l2 k_ x5 x8 = some r) ⟨Nat.le_refl _, h⟩ ?_; intro k x5 x8 h; obtain ⟨hk, h⟩ := h; rcases k with _ | k; (simp only [regletref01_Times.l2] at h; cases h); simp only [regletref01_Times.l2, rdc98, rdc98', rq_T110, rq_L2, rq_T73, rq_L5, rq_T98, rq_T75, rq_T43, rq_L10, rq_T28, rq_L12, rq_T24, rq_L14, rq_T44, rq_L16, rq_T49, rq_I, rq_bt, wrap64] at h)
      | refine c_dt ?_
      | refine c_df ?_)
    | (show E2 _ _ _ _ _ _ _; first
      | refine n_seq ?_
      | (refine n_end hT ?_; cases h; first | rfl | exact congrArg AV.bool (by rw [Bool.eq_iff_iff]; simp))
      | refine ag2 rfl ⟨by omega, h⟩
      | refine ag4 rfl ⟨by omega, h⟩
      | refine ag5 rfl ⟨by omega, h⟩)
    | (show E4 _ _ _ _ _ _ _ _ _; first
      | refine dQ vLe ?_
      | refine dQ vL ?_
      | refine dQ vLv ?_
      | refine dQ vE ?_
      | refine dQ vEv ?_
      | refine dQ vEo ?_
      | refine dW ?_
      | refine dE ?_)
    | (show E5 _ _ _ _ _ _ _ _; first
      | refine tSe (_ : Int) ?_
      | refine tQ vL ?_
      | refine tQ vLv ?_
      | refine tQ vE ?_
      | refine tQ vEv ?_
      | refine tQ vEo ?_
      | refine tW ?_
      | refine n_drw [0, 1, 4, 5, 6, 7, 8, 19, 25, 86] ?_)
    | with_reducible refine mI h (fun hc h => ?_)
    | with_reducible refine mE h (fun hc h => ?_)
    | with_reducible refine mS h (fun h => ?_)
    | refine mT h (fun h => ?_)
    | refine mF h (fun h => ?_)
    | (cases h; done)
theorem regletref01_Of.does {k : Nat} {a0 : Int} {r : (List Int)} (h : regletref01_Of.f k a0 = some r) (G : Objs) : Does Try.prog true 69 [.int .i64 a0] G (fun x _ => x = .sl (r.map Enc.enc)) := by
  unfold regletref01_Of.f at h
  try simp only [rdc98, rdc98', rq_T110, rq_L2, rq_T73, rq_L5, rq_T98, rq_T75, rq_T43, rq_L10, rq_T28, rq_L12, rq_T24, rq_L14, rq_T44, rq_L16, rq_T49, rq_I, rq_bt, wrap64] at h
  refine does_walk 1 (F := cfg []) tb_ok mixed Try.func69 rfl (fun T hT => ?_)
  repeat' first
    | (show E3 _ _ _ _ _ _ _ _; first
      | refine oBS ?_
      | refine oW ?_
      | refine n_reg [0, 2, 3, 7, 11] ?_
      | refine oAv (_ : Int) ?_
      | refine oA (_ : Int) ?_
      | refine oAe (_ : Int) ?_
      | refine oMv ?_
      | refine oM ?_
      | refine oMe ?_
      | refine mB h (fun t ht h => oC (vC (fun G => regletref01_Clamp.does ht G)) ?_)
      | refine fz 4 ?_
      | with_reducible refine mI h (fun hc h => ?_)
      | with_reducible refine mE h (fun hc h => ?_)
      | with_reducible refine mS h (fun h => ?_)
      | refine oWs ?_)
    | (show E1 _ _ _ _ _ _ _; first
      | refine c_seq ?_
      | refine c_reg ?_
      | refine c_blk ?_
      | refine c_exit ?_
      | refine c_ret ?_
      | refine c_skip ?_
      | refine c_tt ?_
      | refine c_ff ?_
      | refine c_if h (fun hc h => ?_) (fun hc h => ?_)
      | refine c_fi h (fun hc h => ?_) (fun hc h => ?_)
      | with_reducible refine mI h (fun hc h => ?_)
      | with_reducible refine mE h (fun hc h => ?_)
      | with_reducible refine mS h (fun h => ?_)
      | refine c_ifs h (fun hc h => ?_) (fun hc h => ?_)
      | refine c_fis h (fun hc h => ?_) (fun hc h => ?_)
      | (refine lp2 (fun x0 x3 => [(0, .int .i64 x0), (3, .own 1 (x3.map Enc.enc))]) (fun x0 x3 => []) (fun k_ x0 x3 => k_ ≤ k ∧ regletref01_Of.l0 k_ x0 x3 = some r) ⟨Nat.le_refl _, h⟩ ?_; intro k x0 x3 h; obtain ⟨hk, h⟩ := h; rcases k with _ | k; (simp only [regletref01_Of.l0] at h; cases h); simp only [regletref01_Of.l0, rdc98, rdc98', rq_T110, rq_L2, rq_T73, rq_L5, rq_T98, rq_T75, rq_T43, rq_L10, rq_T28, rq_L12, rq_T24, rq_L14, rq_T44, rq_L16, rq_T49, rq_I, rq_bt, wrap64] at h)
      | refine c_dt ?_
      | refine c_df ?_)
    | (show E2 _ _ _ _ _ _ _; first
      | refine n_seq ?_
      | (refine n_end hT ?_; cases h; first | rfl | exact congrArg AV.bool (by rw [Bool.eq_iff_iff]; simp))
      | refine ag2 rfl ⟨by omega, h⟩)
    | with_reducible refine mI h (fun hc h => ?_)
    | with_reducible refine mE h (fun hc h => ?_)
    | with_reducible refine mS h (fun h => ?_)
    | (rcases k with _ | k; (simp only [regletref01_Of.j0] at h; cases h); simp only [regletref01_Of.j0, rdc98, rdc98', rq_T110, rq_L2, rq_T73, rq_L5, rq_T98, rq_T75, rq_T43, rq_L10, rq_T28, rq_L12, rq_T24, rq_L14, rq_T44, rq_L16, rq_T49, rq_I, rq_bt, wrap64] at h)
    | refine mT h (fun h => ?_)
    | refine mF h (fun h => ?_)
    | (cases h; done)
theorem regletref01_Compare.does {k : Nat} {l0 : List Int} {l1 : List Int} {r : (Int)} (h : regletref01_Compare.f k l0 l1 = some r) (G : Objs) : Does Try.prog true 75 [.sl (l0.map Enc.enc), .sl (l1.map Enc.enc)] G (fun x _ => x = .int .i64 r) := by
  unfold regletref01_Compare.f at h
  try simp only [rdc98, rdc98', rq_T110, rq_L2, rq_T73, rq_L5, rq_T98, rq_T75, rq_T43, rq_L10, rq_T28, rq_L12, rq_T24, rq_L14, rq_T44, rq_L16, rq_T49, rq_I, rq_bt, wrap64] at h
  refine does_walk 2 (F := cfg [(9, 8), (11, 8)]) tb_ok mixed Try.func75 rfl (fun T hT => ?_)
  repeat' first
    | (show E3 _ _ _ _ _ _ _ _; first
      | refine oQ vL ?_
      | refine oQ vE ?_
      | refine oW ?_
      | refine n_reg [0, 1, 4, 5, 14, 19, 24, 35, 44] ?_
      | refine mB h (fun t ht h => oC (vC (fun G => regletref01_bare.does ht G)) ?_)
      | with_reducible refine mI h (fun hc h => ?_)
      | with_reducible refine mE h (fun hc h => ?_)
      | with_reducible refine mS h (fun h => ?_)
      | refine oWs ?_)
    | (show E1 _ _ _ _ _ _ _; first
      | refine c_seq ?_
      | refine c_reg ?_
      | refine c_drwf ?_
      | refine c_drw ?_
      | refine c_blk ?_
      | refine c_exit ?_
      | refine c_ret ?_
      | refine c_skip ?_
      | refine c_tt ?_
      | refine c_ff ?_
      | refine c_if h (fun hc h => ?_) (fun hc h => ?_)
      | refine c_fi h (fun hc h => ?_) (fun hc h => ?_)
      | with_reducible refine mI h (fun hc h => ?_)
      | with_reducible refine mE h (fun hc h => ?_)
      | with_reducible refine mS h (fun h => ?_)
      | refine c_ifs h (fun hc h => ?_) (fun hc h => ?_)
      | refine c_fis h (fun hc h => ?_) (fun hc h => ?_)
      | (refine lp3 (fun x0 x1 x5 => [(0, .sl (x0.map Enc.enc)), (1, .sl (x1.map Enc.enc)), (5, .int .i64 x5)]) (fun x0 x1 x5 => []) (fun k_ x0 x1 x5 => k_ ≤ k ∧ regletref01_Compare.l0 k_ x0 x1 x5 = some r) ⟨Nat.le_refl _, h⟩ ?_; intro k x0 x1 x5 h; obtain ⟨hk, h⟩ := h; rcases k with _ | k; (simp only [regletref01_Compare.l0] at h; cases h); simp only [regletref01_Compare.l0, rdc98, rdc98', rq_T110, rq_L2, rq_T73, rq_L5, rq_T98, rq_T75, rq_T43, rq_L10, rq_T28, rq_L12, rq_T24, rq_L14, rq_T44, rq_L16, rq_T49, rq_I, rq_bt, wrap64] at h)
      | refine c_dt ?_
      | refine c_df ?_)
    | (show E2 _ _ _ _ _ _ _; first
      | refine n_seq ?_
      | (refine n_end hT ?_; cases h; first | rfl | exact congrArg AV.bool (by rw [Bool.eq_iff_iff]; simp))
      | refine ag3 rfl ⟨by omega, h⟩)
    | (show E4 _ _ _ _ _ _ _ _ _; first
      | refine dQ vL ?_
      | refine dQ vE ?_
      | refine dW ?_
      | refine dE ?_)
    | (show E5 _ _ _ _ _ _ _ _; first
      | refine tQ vL ?_
      | refine tQ vE ?_
      | refine tW ?_
      | refine n_drw [0, 1, 4, 5, 14, 19, 24, 35, 44] ?_)
    | with_reducible refine mI h (fun hc h => ?_)
    | with_reducible refine mE h (fun hc h => ?_)
    | with_reducible refine mS h (fun h => ?_)
    | refine mT h (fun h => ?_)
    | refine mF h (fun h => ?_)
    | (cases h; done)
theorem regletref01_Quotient.does {k : Nat} {l0 : List Int} {l1 : List Int} {r : (Int × Bool)} (h : regletref01_Quotient.f k l0 l1 = some r) (G : Objs) : Does Try.prog true 67 [.sl (l0.map Enc.enc), .sl (l1.map Enc.enc)] G (fun x _ => x = .tup [.int .i64 r.1, .bool r.2]) := by
  unfold regletref01_Quotient.f at h
  try simp only [rdc98, rdc98', rq_T110, rq_L2, rq_T73, rq_L5, rq_T98, rq_T75, rq_T43, rq_L10, rq_T28, rq_L12, rq_T24, rq_L14, rq_T44, rq_L16, rq_T49, rq_I, rq_bt, wrap64] at h
  refine does_walk 2 (F := cfg []) tb_ok mixed Try.func67 rfl (fun T hT => ?_)
  repeat' first
    | (show E3 _ _ _ _ _ _ _ _; first
      | refine oW ?_
      | refine n_reg [0, 1, 4, 5, 6, 7, 8, 11, 25] ?_
      | refine mB h (fun t ht h => oC (vC (fun G => regletref01_Times.does ht G)) ?_)
      | refine mB h (fun t ht h => oC (vC (fun G => regletref01_Of.does ht G)) ?_)
      | refine mB h (fun t ht h => oC (vC (fun G => regletref01_Compare.does ht G)) ?_)
      | with_reducible refine mI h (fun hc h => ?_)
      | with_reducible refine mE h (fun hc h => ?_)
      | with_reducible refine mS h (fun h => ?_)
      | refine oWs ?_)
    | (show E1 _ _ _ _ _ _ _; first
      | refine c_seq ?_
      | refine c_reg ?_
      | refine c_blk ?_
      | refine c_exit ?_
      | refine c_ret ?_
      | refine c_skip ?_
      | refine c_tt ?_
      | refine c_ff ?_
      | refine c_if h (fun hc h => ?_) (fun hc h => ?_)
      | refine c_fi h (fun hc h => ?_) (fun hc h => ?_)
      | with_reducible refine mI h (fun hc h => ?_)
      | with_reducible refine mE h (fun hc h => ?_)
      | with_reducible refine mS h (fun h => ?_)
      | refine c_ifs h (fun hc h => ?_) (fun hc h => ?_)
      | refine c_fis h (fun hc h => ?_) (fun hc h => ?_)
      | (refine lp4 (fun x0 x1 x6 x7 => [(0, .sl (x0.map Enc.enc)), (1, .sl (x1.map Enc.enc)), (6, .int .i64 x6), (7, .int .i64 x7)]) (fun x0 x1 x6 x7 => []) (fun k_ x0 x1 x6 x7 => k_ ≤ k ∧ regletref01_Quotient.l0 k_ x0 x1 x6 x7 = some r) ⟨Nat.le_refl _, h⟩ ?_; intro k x0 x1 x6 x7 h; obtain ⟨hk, h⟩ := h; rcases k with _ | k; (simp only [regletref01_Quotient.l0] at h; cases h); simp only [regletref01_Quotient.l0, rdc98, rdc98', rq_T110, rq_L2, rq_T73, rq_L5, rq_T98, rq_T75, rq_T43, rq_L10, rq_T28, rq_L12, rq_T24, rq_L14, rq_T44, rq_L16, rq_T49, rq_I, rq_bt, wrap64] at h)
      | refine c_dt ?_
      | refine c_df ?_)
    | (show E2 _ _ _ _ _ _ _; first
      | refine n_seq ?_
      | (refine n_ends hT ?_; cases h; first | rfl | exact congrArg AV.bool (by rw [Bool.eq_iff_iff]; simp))
      | refine ag4 rfl ⟨by omega, h⟩)
    | with_reducible refine mI h (fun hc h => ?_)
    | with_reducible refine mE h (fun hc h => ?_)
    | with_reducible refine mS h (fun h => ?_)
    | refine mT h (fun h => ?_)
    | refine mF h (fun h => ?_)
    | (cases h; done)
theorem regletref01_MulDiv.does {k : Nat} {a0 : Int} {a1 : Int} {a2 : Int} {r : (Int × Bool)} (h : regletref01_MulDiv.f k a0 a1 a2 = some r) (G : Objs) : Does Try.prog true 58 [.int .i64 a0, .int .i64 a1, .int .i64 a2] G (fun x _ => x = .tup [.int .i64 r.1, .bool r.2]) := by
  unfold regletref01_MulDiv.f at h
  try simp only [rdc98, rdc98', rq_T110, rq_L2, rq_T73, rq_L5, rq_T98, rq_T75, rq_T43, rq_L10, rq_T28, rq_L12, rq_T24, rq_L14, rq_T44, rq_L16, rq_T49, rq_I, rq_bt, wrap64] at h
  refine does_walk 3 (F := cfg []) tb_ok mixed Try.func58 rfl (fun T hT => ?_)
  repeat' first
    | (show E3 _ _ _ _ _ _ _ _; first
      | refine oQ vpt ?_
      | refine oQ vpf ?_
      | refine oW ?_
      | refine n_reg [0, 1, 2, 6, 7, 8, 9, 10, 18, 31, 35, 39, 51, 54] ?_
      | refine gYq vpt ?_
      | refine gYq vpf ?_
      | refine gN ?_
      | refine gNf ?_
      | refine gY ?_
      | refine gT ?_
      | refine mB h (fun t ht h => oC (vC (fun G => regletref01_Clamp.does ht G)) ?_)
      | refine mB h (fun t ht h => oC (vC (fun G => regletref01_Quotient.does ht G)) ?_)
      | refine mB h (fun t ht h => oC (vC (fun G => regletref01_Times.does ht G)) ?_)
      | refine mB h (fun t ht h => oC (vC (fun G => regletref01_Of.does ht G)) ?_)
      | refine gif h (fun hc h => ?_) (fun hc h => ?_)
      | refine gfi h (fun hc h => ?_) (fun hc h => ?_)
      | with_reducible refine mI h (fun hc h => ?_)
      | with_reducible refine mE h (fun hc h => ?_)
      | with_reducible refine mS h (fun h => ?_)
      | refine oWs ?_
      | refine gYs ?_
      | refine gifs h (fun hc h => ?_) (fun hc h => ?_)
      | refine gfis h (fun hc h => ?_) (fun hc h => ?_)
      | (fail_if_success (refine g_lit ?_)); refine g_dt ?_
      | (fail_if_success (refine g_lit ?_)); refine g_df ?_)
    | (show E1 _ _ _ _ _ _ _; first
      | refine c_seq ?_
      | refine c_reg ?_
      | refine c_ret ?_
      | refine c_skip ?_
      | refine c_tt ?_
      | refine c_ff ?_
      | refine c_if h (fun hc h => ?_) (fun hc h => ?_)
      | refine c_fi h (fun hc h => ?_) (fun hc h => ?_)
      | with_reducible refine mI h (fun hc h => ?_)
      | with_reducible refine mE h (fun hc h => ?_)
      | with_reducible refine mS h (fun h => ?_)
      | refine c_ifs h (fun hc h => ?_) (fun hc h => ?_)
      | refine c_fis h (fun hc h => ?_) (fun hc h => ?_)
      | refine c_dt ?_
      | refine c_df ?_)
    | (show E2 _ _ _ _ _ _ _; first
      | refine n_seq ?_
      | (refine n_ends hT ?_; cases h; first | rfl | exact congrArg AV.bool (by rw [Bool.eq_iff_iff]; simp)))
    | with_reducible refine mI h (fun hc h => ?_)
    | with_reducible refine mE h (fun hc h => ?_)
    | with_reducible refine mS h (fun h => ?_)
    | (rcases k with _ | k; (simp only [regletref01_MulDiv.j0] at h; cases h); simp only [regletref01_MulDiv.j0, rdc98, rdc98', rq_T110, rq_L2, rq_T73, rq_L5, rq_T98, rq_T75, rq_T43, rq_L10, rq_T28, rq_L12, rq_T24, rq_L14, rq_T44, rq_L16, rq_T49, rq_I, rq_bt, wrap64] at h)
    | (rcases k with _ | k; (simp only [regletref01_MulDiv.j1] at h; cases h); simp only [regletref01_MulDiv.j1, rdc98, rdc98', rq_T110, rq_L2, rq_T73, rq_L5, rq_T98, rq_T75, rq_T43, rq_L10, rq_T28, rq_L12, rq_T24, rq_L14, rq_T44, rq_L16, rq_T49, rq_I, rq_bt, wrap64] at h)
    | (rcases k with _ | k; (simp only [regletref01_MulDiv.j2] at h; cases h); simp only [regletref01_MulDiv.j2, rdc98, rdc98', rq_T110, rq_L2, rq_T73, rq_L5, rq_T98, rq_T75, rq_T43, rq_L10, rq_T28, rq_L12, rq_T24, rq_L14, rq_T44, rq_L16, rq_T49, rq_I, rq_bt, wrap64] at h)
    | (rcases k with _ | k; (simp only [regletref01_MulDiv.j3] at h; cases h); simp only [regletref01_MulDiv.j3, rdc98, rdc98', rq_T110, rq_L2, rq_T73, rq_L5, rq_T98, rq_T75, rq_T43, rq_L10, rq_T28, rq_L12, rq_T24, rq_L14, rq_T44, rq_L16, rq_T49, rq_I, rq_bt, wrap64] at h)
    | refine mT h (fun h => ?_)
    | refine mF h (fun h => ?_)
    | (cases h; done)
theorem regletref15_scale.does {k : Nat} {a0 : Int} {a1 : Int} {a2 : Int} {r : (Int)} (h : regletref15_scale.f k a0 a1 a2 = some r) (G : Objs) : Does Try.prog true 43 [.int .i64 a0, .int .i64 a1, .int .i64 a2] G (fun x _ => x = .int .i64 r) := by
  unfold regletref15_scale.f at h
  try simp only [rdc98, rdc98', rq_T110, rq_L2, rq_T73, rq_L5, rq_T98, rq_T75, rq_T43, rq_L10, rq_T28, rq_L12, rq_T24, rq_L14, rq_T44, rq_L16, rq_T49, rq_I, rq_bt, wrap64] at h
  refine does_walk 3 (F := cfg []) tb_ok mixed Try.func43 rfl (fun T hT => ?_)
  repeat' first
    | (show E3 _ _ _ _ _ _ _ _; first
      | refine oW ?_
      | refine n_reg [0, 1, 2, 6, 7, 10] ?_
      | refine mB h (fun t ht h => oC (vC (fun G => regletref01_MulDiv.does ht G)) ?_)
      | with_reducible refine mI h (fun hc h => ?_)
      | with_reducible refine mE h (fun hc h => ?_)
      | with_reducible refine mS h (fun h => ?_)
      | refine oWs ?_)
    | (show E1 _ _ _ _ _ _ _; first
      | refine c_seq ?_
      | refine c_reg ?_
      | refine c_ret ?_
      | refine c_skip ?_
      | refine c_tt ?_
      | refine c_ff ?_
      | refine c_if h (fun hc h => ?_) (fun hc h => ?_)
      | refine c_fi h (fun hc h => ?_) (fun hc h => ?_)
      | with_reducible refine mI h (fun hc h => ?_)
      | with_reducible refine mE h (fun hc h => ?_)
      | with_reducible refine mS h (fun h => ?_)
      | refine c_ifs h (fun hc h => ?_) (fun hc h => ?_)
      | refine c_fis h (fun hc h => ?_) (fun hc h => ?_)
      | refine c_dt ?_
      | refine c_df ?_)
    | (show E2 _ _ _ _ _ _ _; first
      | refine n_seq ?_
      | (refine n_end hT ?_; cases h; first | rfl | exact congrArg AV.bool (by rw [Bool.eq_iff_iff]; simp)))
    | with_reducible refine mI h (fun hc h => ?_)
    | with_reducible refine mE h (fun hc h => ?_)
    | with_reducible refine mS h (fun h => ?_)
    | refine mT h (fun h => ?_)
    | refine mF h (fun h => ?_)
    | (cases h; done)
theorem regletref15_Stops.does {k : Nat} {l0 : List (S73)} {a1_0 : ByteArray} {l1_1 : List (S75)} {a1_2 : Int} {a1_3 : Int} {a1_4 : Int} {a1_5 : Bool} {a1_6 : Int} {a1_7 : Bool} {a1_8 : Bool} {r : ((List (S44)))} (h : regletref15_Stops.f k l0 a1_0 l1_1 a1_2 a1_3 a1_4 a1_5 a1_6 a1_7 a1_8 = some r) (G : Objs) : Does Try.prog true 14 [.sl (l0.map Enc.enc), .agg [.str a1_0, .sl (l1_1.map Enc.enc), .int .i64 a1_2, .int .i64 a1_3, .int .i64 a1_4, .bool a1_5, .int .i64 a1_6, .bool a1_7, .bool a1_8]] G (fun x _ => x = .sl (r.map Enc.enc)) := by
  unfold regletref15_Stops.f at h
  try simp only [rdc98, rdc98', rq_T110, rq_L2, rq_T73, rq_L5, rq_T98, rq_T75, rq_T43, rq_L10, rq_T28, rq_L12, rq_T24, rq_L14, rq_T44, rq_L16, rq_T49, rq_I, rq_bt, wrap64] at h
  refine does_walk 2 (F := cfg [(9, 6)]) tb_ok mixed Try.func14 rfl (fun T hT => ?_)
  repeat' first
    | (show E3 _ _ _ _ _ _ _ _; first
      | refine oQ vL ?_
      | refine oQ vLv ?_
      | refine oQ vE ?_
      | refine oQ vEv ?_
      | refine oQ vEo ?_
      | refine oLe vLe ?_
      | refine oBS ?_
      | refine oB ?_
      | refine oW ?_
      | refine n_reg [0, 1, 3, 4, 5, 6, 8, 9, 10, 11, 12, 13, 14, 28, 55, 70, 75, 87] ?_
      | refine oAv (⟨_, _⟩ : S44) ?_
      | refine oA (⟨_, _⟩ : S44) ?_
      | refine oAe (⟨_, _⟩ : S44) ?_
      | refine oAl (⟨_, _⟩ : S44) ?_
      | refine oMv ?_
      | refine oM ?_
      | refine oMe ?_
      | refine oMl ?_
      | refine mB h (fun t ht h => oC (vC (fun G => regletref02_Runes.does ht G)) ?_)
      | refine mB h (fun t ht h => oC (vC (fun G => regletref15_End.does ht G)) ?_)
      | refine mB h (fun t ht h => oC (vC (fun G => regletref04_Of.does ht G)) ?_)
      | refine mB h (fun t ht h => oC (vC (fun G => regletref02_Kind.does ht G)) ?_)
      | refine mB h (fun t ht h => oC (vC (fun G => regletref01_Add.does ht G)) ?_)
      | refine mB h (fun t ht h => oC (vC (fun G => regletref04_Width.does ht G)) ?_)
      | refine mB h (fun t ht h => oC (vC (fun G => regletref15_scale.does ht G)) ?_)
      | refine fz 17 ?_
      | refine fz 23 ?_
      | refine fz 47 ?_
      | refine fz 48 ?_
      | refine fz 53 ?_
      | refine fz 57 ?_
      | refine fz 58 ?_
      | refine fz 62 ?_
      | refine fz 56 ?_
      | refine fz 63 ?_
      | refine fz 78 ?_
      | refine fz 80 ?_
      | refine fz 82 ?_
      | refine fz 90 ?_
      | refine fz 92 ?_
      | refine fz 94 ?_
      | refine fz 97 ?_
      | refine fz 98 ?_
      | with_reducible refine mI h (fun hc h => ?_)
      | with_reducible refine mE h (fun hc h => ?_)
      | with_reducible refine mS h (fun h => ?_)
      | refine oSe (_ : Int) ?_
      | refine oWs ?_
      | refine oWl ?_)
    | (show E1 _ _ _ _ _ _ _; first
      | refine c_seq ?_
      | refine c_reg ?_
      | refine c_drwf ?_
      | refine c_drw ?_
      | refine c_blk ?_
      | refine c_exit ?_
      | refine c_ret ?_
      | refine c_skip ?_
      | refine c_tt ?_
      | refine c_ff ?_
      | refine c_if h (fun hc h => ?_) (fun hc h => ?_)
      | refine c_fi h (fun hc h => ?_) (fun hc h => ?_)
      | with_reducible refine mI h (fun hc h => ?_)
      | with_reducible refine mE h (fun hc h => ?_)
      | with_reducible refine mS h (fun h => ?_)
      | refine c_ifs h (fun hc h => ?_) (fun hc h => ?_)
      | refine c_fis h (fun hc h => ?_) (fun hc h => ?_)
      | (refine lp16 (fun x0 x5 x6 x8 x9 x10 x11 x473000 x473001 x473002 x473003 x473004 x473005 x473006 x473007 x473008 => [(0, .sl (x0.map Enc.enc)), (5, .sl (x5.map Enc.enc)), (6, .sl (x6.map Enc.enc)), (8, .own 2 (x8.map Enc.enc)), (9, .int .i64 x9), (10, .int .i64 x10), (11, .int .i64 x11), (3, .lptr 3 0)]) (fun x0 x5 x6 x8 x9 x10 x11 x473000 x473001 x473002 x473003 x473004 x473005 x473006 x473007 x473008 => [(3, [.str x473000, .sl (x473001.map Enc.enc), .int .i64 x473002, .int .i64 x473003, .int .i64 x473004, .bool x473005, .int .i64 x473006, .bool x473007, .bool x473008])]) (fun k_ x0 x5 x6 x8 x9 x10 x11 x473000 x473001 x473002 x473003 x473004 x473005 x473006 x473007 x473008 => k_ ≤ k ∧ regletref15_Stops.l0 k_ x0 x5 x6 x8 x9 x10 x11 x473000 x473001 x473002 x473003 x473004 x473005 x473006 x473007 x473008 = some r) ⟨Nat.le_refl _, h⟩ ?_; intro k x0 x5 x6 x8 x9 x10 x11 x473000 x473001 x473002 x473003 x473004 x473005 x473006 x473007 x473008 h; obtain ⟨hk, h⟩ := h; rcases k with _ | k; (simp only [regletref15_Stops.l0] at h; cases h); simp only [regletref15_Stops.l0, rdc98, rdc98', rq_T110, rq_L2, rq_T73, rq_L5, rq_T98, rq_T75, rq_T43, rq_L10, rq_T28, rq_L12, rq_T24, rq_L14, rq_T44, rq_L16, rq_T49, rq_I, rq_bt, wrap64] at h)
      | refine c_dt ?_
      | refine c_df ?_)
    | (show E2 _ _ _ _ _ _ _; first
      | refine n_seq ?_
      | (refine n_end hT ?_; cases h; first | rfl | exact congrArg AV.bool (by rw [Bool.eq_iff_iff]; simp))
      | refine ag16 rfl ⟨by omega, h⟩)
    | (show E4 _ _ _ _ _ _ _ _ _; first
      | refine dQ vLe ?_
      | refine mB h (fun t ht h => dQ (vC (fun G => regletref15_style.does ht G)) ?_)
      | refine dQ vL ?_
      | refine dQ vLv ?_
      | refine dQ vE ?_
      | refine dQ vEv ?_
      | refine dQ vEo ?_
      | refine dW ?_
      | refine dE ?_)
    | (show E5 _ _ _ _ _ _ _ _; first
      | refine tAl (⟨_, _⟩ : S44) ?_
      | refine tMl ?_
      | refine mB h (fun t ht h => tC (vC (fun G => regletref15_style.does ht G)) ?_)
      | refine tSe (_ : Int) ?_
      | refine tQ vL ?_
      | refine tQ vLv ?_
      | refine tQ vE ?_
      | refine tQ vEv ?_
      | refine tQ vEo ?_
      | refine tW ?_
      | refine n_drw [0, 1, 3, 4, 5, 6, 8, 9, 10, 11, 12, 13, 14, 28, 55, 70, 75, 87] ?_)
    | with_reducible refine mI h (fun hc h => ?_)
    | with_reducible refine mE h (fun hc h => ?_)
    | with_reducible refine mS h (fun h => ?_)
    | (rcases k with _ | k; (simp only [regletref15_Stops.j1] at h; cases h); simp only [regletref15_Stops.j1, rdc98, rdc98', rq_T110, rq_L2, rq_T73, rq_L5, rq_T98, rq_T75, rq_T43, rq_L10, rq_T28, rq_L12, rq_T24, rq_L14, rq_T44, rq_L16, rq_T49, rq_I, rq_bt, wrap64] at h)
    | refine mT h (fun h => ?_)
    | refine mF h (fun h => ?_)
    | (cases h; done)
end Go.AL.X
