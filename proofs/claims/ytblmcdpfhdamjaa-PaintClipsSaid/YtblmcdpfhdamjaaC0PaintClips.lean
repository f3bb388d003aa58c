/- What each function does: it answers as its model tells, and changes nothing (in 8 texts, numbered 1). -/
import Derived.Test.YtblmcdpfhdamjaaTPaintClips
namespace Go.AL.X
open Go.Proofs Go.Proofs.Ytblmcdpfhdamjaa.PPaintClips
set_option linter.unusedVariables false
set_option linter.unusedSimpArgs false
set_option maxRecDepth 100000
set_option maxHeartbeats 16000000
theorem regletref04_fits.does {a0 : Int} {a1 : Int} {r : (Bool)} (h : regletref04_fits.f a0 a1 = some r) (G : Objs) : Does Try.prog true 87 [.int .i64 a0, .int .i64 a1] G (fun x _ => x = .bool r) := by
  unfold regletref04_fits.f at h
  try simp only [rdc124, rdc124', rq_T134, rq_L2, rq_T87, rq_L5, rq_T124, rq_T89, rq_T99, rq_T38, rq_T90, rq_T56, rq_I, rq_bt, wrap64, bl, tl_eq, tl_lit, tl_nil, Bool.false_eq_true, if_false, if_true] at h
  refine does_walk 2 (F := cfg []) tb_ok mixed Try.func87 rfl (fun T hT => ?_)
  repeat' first
    | (show E3 _ _ _ _ _ _ _ _; first
      | refine oQ vpt ?_
      | refine oQ vpf ?_
      | refine oW ?_
      | refine n_reg [0, 1, 4] ?_
      | refine gYq vpt ?_
      | refine gYq vpf ?_
      | refine gN ?_
      | refine gNf ?_
      | refine gY ?_
      | refine gT ?_
      | refine gif h (fun hc h => ?_) (fun hc h => ?_)
      | refine gfi h (fun hc h => ?_) (fun hc h => ?_)
      | with_reducible refine mI h (fun hc h => ?_)
      | with_reducible refine mE h (fun hc h => ?_)
      | with_reducible refine mS h (fun h => ?_)
      | refine oWs ?_
      | refine gYs ?_
      | refine gifs h (fun hc h => ?_) (fun hc h => ?_)
      | refine gfis h (fun hc h => ?_) (fun hc h => ?_)
      | (fail_if_success (refine g_lit ?_)); refine g_dt ?_
      | (fail_if_success (refine g_lit ?_)); refine g_df ?_)
    | (show E1 _ _ _ _ _ _ _; first
      | refine c_seq ?_
      | refine c_reg ?_
      | refine c_ret ?_)
    | (show E2 _ _ _ _ _ _ _; first
      | refine n_seq ?_
      | (refine n_end hT ?_; cases h; first | rfl | exact congrArg AV.bool (by rw [Bool.eq_iff_iff]; simp)))
    | with_reducible refine mI h (fun hc h => ?_)
    | with_reducible refine mE h (fun hc h => ?_)
    | with_reducible refine mS h (fun h => ?_)
    | refine mT h (fun h => ?_)
    | refine mF h (fun h => ?_)
    | (cases h; done)
theorem metrics_unit.does {a0 : Int} {a1 : Int} {r : (Bool)} (h : metrics_unit.f a0 a1 = some r) (G : Objs) : Does Try.prog true 88 [.int .i64 a0, .int .i64 a1] G (fun x _ => x = .bool r) := by
  unfold metrics_unit.f at h
  try simp only [rdc124, rdc124', rq_T134, rq_L2, rq_T87, rq_L5, rq_T124, rq_T89, rq_T99, rq_T38, rq_T90, rq_T56, rq_I, rq_bt, wrap64, bl, tl_eq, tl_lit, tl_nil, Bool.false_eq_true, if_false, if_true] at h
  refine does_walk 2 (F := cfg []) tb_ok mixed Try.func88 rfl (fun T hT => ?_)
  repeat' first
    | (show E3 _ _ _ _ _ _ _ _; first
      | refine oQ vpt ?_
      | refine oQ vpf ?_
      | refine oW ?_
      | refine n_reg [0, 1, 4] ?_
      | refine gYq vpt ?_
      | refine gYq vpf ?_
      | refine gN ?_
      | refine gNf ?_
      | refine gY ?_
      | refine gT ?_
      | refine gif h (fun hc h => ?_) (fun hc h => ?_)
      | refine gfi h (fun hc h => ?_) (fun hc h => ?_)
      | with_reducible refine mI h (fun hc h => ?_)
      | with_reducible refine mE h (fun hc h => ?_)
      | with_reducible refine mS h (fun h => ?_)
      | refine oWs ?_
      | refine gYs ?_
      | refine gifs h (fun hc h => ?_) (fun hc h => ?_)
      | refine gfis h (fun hc h => ?_) (fun hc h => ?_)
      | (fail_if_success (refine g_lit ?_)); refine g_dt ?_
      | (fail_if_success (refine g_lit ?_)); refine g_df ?_)
    | (show E1 _ _ _ _ _ _ _; first
      | refine c_seq ?_
      | refine c_reg ?_
      | refine c_ret ?_)
    | (show E2 _ _ _ _ _ _ _; first
      | refine n_seq ?_
      | (refine n_end hT ?_; cases h; first | rfl | exact congrArg AV.bool (by rw [Bool.eq_iff_iff]; simp)))
    | with_reducible refine mI h (fun hc h => ?_)
    | with_reducible refine mE h (fun hc h => ?_)
    | with_reducible refine mS h (fun h => ?_)
    | refine mT h (fun h => ?_)
    | refine mF h (fun h => ?_)
    | (cases h; done)
theorem runes_Kind.does {k : Nat} {a0 : Int} {r : (Int)} (h : runes_Kind.f k a0 = some r) (G : Objs) : Does Try.prog true 43 [.int .i32 a0] G (fun x _ => x = .int .i64 r) := by
  unfold runes_Kind.f at h
  try simp only [rdc124, rdc124', rq_T134, rq_L2, rq_T87, rq_L5, rq_T124, rq_T89, rq_T99, rq_T38, rq_T90, rq_T56, rq_I, rq_bt, wrap64, bl, tl_eq, tl_lit, tl_nil, Bool.false_eq_true, if_false, if_true] at h
  refine does_walk 1 (F := cfg []) tb_ok mixed Try.func43 rfl (fun T hT => ?_)
  repeat' first
    | (show E3 _ _ _ _ _ _ _ _; first
      | refine oW ?_
      | refine n_reg [0, 2, 3, 4, 7, 10, 12, 14, 17, 20, 22] ?_
      | with_reducible refine mI h (fun hc h => ?_)
      | with_reducible refine mE h (fun hc h => ?_)
      | with_reducible refine mS h (fun h => ?_)
      | refine oWs ?_)
    | (show E1 _ _ _ _ _ _ _; first
      | refine c_seq ?_
      | refine c_reg ?_
      | refine c_blk ?_
      | refine c_ret ?_
      | refine c_skip ?_
      | refine c_tt ?_
      | refine c_ff ?_
      | refine c_if h (fun hc h => ?_) (fun hc h => ?_)
      | refine c_fi h (fun hc h => ?_) (fun hc h => ?_)
      | with_reducible refine mI h (fun hc h => ?_)
      | with_reducible refine mE h (fun hc h => ?_)
      | with_reducible refine mS h (fun h => ?_)
      | refine c_ifs h (fun hc h => ?_) (fun hc h => ?_)
      | refine c_fis h (fun hc h => ?_) (fun hc h => ?_)
      | refine c_dt ?_
      | refine c_df ?_)
    | (show E2 _ _ _ _ _ _ _; first
      | refine n_seq ?_
      | (refine n_end hT ?_; cases h; first | rfl | exact congrArg AV.bool (by rw [Bool.eq_iff_iff]; simp)))
    | with_reducible refine mI h (fun hc h => ?_)
    | with_reducible refine mE h (fun hc h => ?_)
    | with_reducible refine mS h (fun h => ?_)
    | (rcases k with _ | k; (simp only [runes_Kind.j0] at h; cases h); simp only [runes_Kind.j0, rdc124, rdc124', rq_T134, rq_L2, rq_T87, rq_L5, rq_T124, rq_T89, rq_T99, rq_T38, rq_T90, rq_T56, rq_I, rq_bt, wrap64, bl, tl_eq, tl_lit, tl_nil, Bool.false_eq_true, if_false, if_true] at h)
    | (rcases k with _ | k; (simp only [runes_Kind.j1] at h; cases h); simp only [runes_Kind.j1, rdc124, rdc124', rq_T134, rq_L2, rq_T87, rq_L5, rq_T124, rq_T89, rq_T99, rq_T38, rq_T90, rq_T56, rq_I, rq_bt, wrap64, bl, tl_eq, tl_lit, tl_nil, Bool.false_eq_true, if_false, if_true] at h)
    | (rcases k with _ | k; (simp only [runes_Kind.j2] at h; cases h); simp only [runes_Kind.j2, rdc124, rdc124', rq_T134, rq_L2, rq_T87, rq_L5, rq_T124, rq_T89, rq_T99, rq_T38, rq_T90, rq_T56, rq_I, rq_bt, wrap64, bl, tl_eq, tl_lit, tl_nil, Bool.false_eq_true, if_false, if_true] at h)
    | (rcases k with _ | k; (simp only [runes_Kind.j3] at h; cases h); simp only [runes_Kind.j3, rdc124, rdc124', rq_T134, rq_L2, rq_T87, rq_L5, rq_T124, rq_T89, rq_T99, rq_T38, rq_T90, rq_T56, rq_I, rq_bt, wrap64, bl, tl_eq, tl_lit, tl_nil, Bool.false_eq_true, if_false, if_true] at h)
    | refine mT h (fun h => ?_)
    | refine mF h (fun h => ?_)
    | (cases h; done)
theorem scaled_Clamp.does {a0 : Int} {r : (Int)} (h : scaled_Clamp.f a0 = some r) (G : Objs) : Does Try.prog true 82 [.int .i64 a0] G (fun x _ => x = .int .i64 r) := by
  unfold scaled_Clamp.f at h
  try simp only [rdc124, rdc124', rq_T134, rq_L2, rq_T87, rq_L5, rq_T124, rq_T89, rq_T99, rq_T38, rq_T90, rq_T56, rq_I, rq_bt, wrap64, bl, tl_eq, tl_lit, tl_nil, Bool.false_eq_true, if_false, if_true] at h
  refine does_walk 1 (F := cfg []) tb_ok mixed Try.func82 rfl (fun T hT => ?_)
  repeat' first
    | (show E3 _ _ _ _ _ _ _ _; first
      | refine oQ vmax ?_
      | refine oQ vmin ?_
      | refine oW ?_
      | refine n_reg [0, 2] ?_
      | with_reducible refine mI h (fun hc h => ?_)
      | with_reducible refine mE h (fun hc h => ?_)
      | with_reducible refine mS h (fun h => ?_)
      | refine oWs ?_)
    | (show E1 _ _ _ _ _ _ _; first
      | refine c_seq ?_
      | refine c_reg ?_
      | refine c_ret ?_)
    | (show E2 _ _ _ _ _ _ _; first
      | refine n_seq ?_
      | (refine n_end hT ?_; cases h; first | rfl | exact congrArg AV.bool (by rw [Bool.eq_iff_iff]; simp)))
    | with_reducible refine mI h (fun hc h => ?_)
    | with_reducible refine mE h (fun hc h => ?_)
    | with_reducible refine mS h (fun h => ?_)
    | refine mT h (fun h => ?_)
    | refine mF h (fun h => ?_)
    | (cases h; done)
theorem runes_size.does {a0 : ByteArray} {a1 : Int} {r : Int} (h : runes_size.f a0 a1 = some r) (G : Objs) : Does Try.prog true 108 [.str a0, .int .i64 a1] G (fun x _ => x = .int .i64 r) := by
  obtain ⟨k, h⟩ : ∃ k, runes_size.g k a0 a1 = some r := by
    unfold runes_size.f at h
    by_cases hs : (a0.size : Int) ≤ 4611686018427387904
    · rw [if_pos hs] at h; cases h; exact ⟨5, rs_g a0 a1 hs⟩
    · rw [if_neg hs] at h; cases h
  unfold runes_size.g at h
  try simp only [wrap64, rq_bt] at h
  refine does_walk 2 (F := cfg []) tb_ok mixed Try.func108 rfl (fun T hT => ?_)
  refine c_seq ?_; refine c_reg ?_; refine oW ?_; refine n_reg [0, 1] ?_; refine n_seq ?_
  refine sc6 0 (fun x0 x1 x5 x6 x7 x9 => [(0, .str x0), (1, .int .i64 x1), (5, .int .i64 x5), (6, .int .u8 x6), (7, .int .u8 x7), (9, .int .i64 x9)]) (fun x0 x1 x5 x6 x7 x9 => []) (fun k_ x0 x1 x5 x6 x7 x9 => k_ ≤ k ∧ runes_size.m k_ x0 x1 x5 x6 x7 x9 = some r) (fun k x0 x1 x5 x6 x7 x9 h => ?_) (fun H => ?_)
  · obtain ⟨hk, h⟩ := h
    rcases k with _ | k; (simp only [runes_size.m] at h; cases h); simp only [runes_size.m, rdc124, rdc124', rq_T134, rq_L2, rq_T87, rq_L5, rq_T124, rq_T89, rq_T99, rq_T38, rq_T90, rq_T56, rq_I, rq_bt, wrap64, bl, tl_eq, tl_lit, tl_nil, Bool.false_eq_true, if_false, if_true] at h
    repeat' first
      | (show E3 _ _ _ _ _ _ _ _; first
        | refine oQ vB ?_
        | refine oQ vpt ?_
        | refine oQ vpf ?_
        | refine oW ?_
        | refine n_reg [0, 1, 4, 5, 6, 7, 8, 9, 17, 24, 26, 27, 30, 37, 40, 44, 46, 48, 69] ?_
        | refine gYq vB ?_
        | refine gYq vpt ?_
        | refine gYq vpf ?_
        | refine gN ?_
        | refine gNf ?_
        | refine gY ?_
        | refine gT ?_
        | refine gif h (fun hc h => ?_) (fun hc h => ?_)
        | refine gfi h (fun hc h => ?_) (fun hc h => ?_)
        | with_reducible refine mI h (fun hc h => ?_)
        | with_reducible refine mE h (fun hc h => ?_)
        | with_reducible refine mS h (fun h => ?_)
        | refine oWs ?_
        | refine gYs ?_
        | refine gifs h (fun hc h => ?_) (fun hc h => ?_)
        | refine gfis h (fun hc h => ?_) (fun hc h => ?_)
        | (fail_if_success (refine g_lit ?_)); refine g_dt ?_
        | (fail_if_success (refine g_lit ?_)); refine g_df ?_)
      | (show E1 _ _ _ _ _ _ _; first
        | refine c_goto ?_
        | refine c_seq ?_
        | refine c_reg ?_
        | refine c_blk ?_
        | refine c_ret ?_
        | refine c_skip ?_
        | refine c_lab ?_
        | refine c_tt ?_
        | refine c_ff ?_
        | refine c_if h (fun hc h => ?_) (fun hc h => ?_)
        | refine c_fi h (fun hc h => ?_) (fun hc h => ?_)
        | with_reducible refine mI h (fun hc h => ?_)
        | with_reducible refine mE h (fun hc h => ?_)
        | with_reducible refine mS h (fun h => ?_)
        | refine c_ifs h (fun hc h => ?_) (fun hc h => ?_)
        | refine c_fis h (fun hc h => ?_) (fun hc h => ?_)
        | refine c_dt ?_
        | refine c_df ?_)
      | (show E2 _ _ _ _ _ _ _; first
        | refine jp6 rfl ⟨by omega, h⟩
        | refine n_seq ?_
        | (refine n_end hT ?_; cases h; first | rfl | exact congrArg AV.bool (by rw [Bool.eq_iff_iff]; simp)))
      | with_reducible refine mI h (fun hc h => ?_)
      | with_reducible refine mE h (fun hc h => ?_)
      | with_reducible refine mS h (fun h => ?_)
      | refine mT h (fun h => ?_)
      | refine mF h (fun h => ?_)
      | (cases h; done)
  · repeat' first
      | (show E3 _ _ _ _ _ _ _ _; first
        | refine oQ vB ?_
        | refine oQ vpt ?_
        | refine oQ vpf ?_
        | refine oW ?_
        | refine n_reg [0, 1, 4, 5, 6, 7, 8, 9, 17, 24, 26, 27, 30, 37, 40, 44, 46, 48, 69] ?_
        | refine gYq vB ?_
        | refine gYq vpt ?_
        | refine gYq vpf ?_
        | refine gN ?_
        | refine gNf ?_
        | refine gY ?_
        | refine gT ?_
        | refine gif h (fun hc h => ?_) (fun hc h => ?_)
        | refine gfi h (fun hc h => ?_) (fun hc h => ?_)
        | with_reducible refine mI h (fun hc h => ?_)
        | with_reducible refine mE h (fun hc h => ?_)
        | with_reducible refine mS h (fun h => ?_)
        | refine oWs ?_
        | refine gYs ?_
        | refine gifs h (fun hc h => ?_) (fun hc h => ?_)
        | refine gfis h (fun hc h => ?_) (fun hc h => ?_)
        | (fail_if_success (refine g_lit ?_)); refine g_dt ?_
        | (fail_if_success (refine g_lit ?_)); refine g_df ?_)
      | (show E1 _ _ _ _ _ _ _; first
        | refine c_goto ?_
        | refine c_seq ?_
        | refine c_reg ?_
        | refine c_blk ?_
        | refine c_ret ?_
        | refine c_skip ?_
        | refine c_lab ?_
        | refine c_tt ?_
        | refine c_ff ?_
        | refine c_if h (fun hc h => ?_) (fun hc h => ?_)
        | refine c_fi h (fun hc h => ?_) (fun hc h => ?_)
        | with_reducible refine mI h (fun hc h => ?_)
        | with_reducible refine mE h (fun hc h => ?_)
        | with_reducible refine mS h (fun h => ?_)
        | refine c_ifs h (fun hc h => ?_) (fun hc h => ?_)
        | refine c_fis h (fun hc h => ?_) (fun hc h => ?_)
        | refine c_dt ?_
        | refine c_df ?_)
      | (show E2 _ _ _ _ _ _ _; first
        | exact wk2 (H _ _ _ _ _ _ _ ⟨Nat.le_refl _, h⟩) (by ((repeat refine And.intro rfl ?_); exact trivial)) trivial
        | refine jp6 rfl ⟨by omega, h⟩
        | refine n_seq ?_
        | (refine n_end hT ?_; cases h; first | rfl | exact congrArg AV.bool (by rw [Bool.eq_iff_iff]; simp)))
      | with_reducible refine mI h (fun hc h => ?_)
      | with_reducible refine mE h (fun hc h => ?_)
      | with_reducible refine mS h (fun h => ?_)
      | refine mT h (fun h => ?_)
      | refine mF h (fun h => ?_)
      | (cases h; done)
theorem locate_styleAt.does {k : Nat} {l0 : List (S89)} {a1 : Int} {r : (Int)} (h : locate_styleAt.f k l0 a1 = some r) (G : Objs) : Does Try.prog true 72 [.sl (l0.map Enc.enc), .int .i64 a1] G (fun x _ => x = .int .i64 r) := by
  unfold locate_styleAt.f at h
  try simp only [rdc124, rdc124', rq_T134, rq_L2, rq_T87, rq_L5, rq_T124, rq_T89, rq_T99, rq_T38, rq_T90, rq_T56, rq_I, rq_bt, wrap64, bl, tl_eq, tl_lit, tl_nil, Bool.false_eq_true, if_false, if_true] at h
  refine does_walk 2 (F := cfg []) tb_ok mixed Try.func72 rfl (fun T hT => ?_)
  repeat' first
    | (show E3 _ _ _ _ _ _ _ _; first
      | refine oQ vL ?_
      | refine oQ vE ?_
      | refine oLd ?_
      | refine oW ?_
      | refine n_reg [0, 1, 4, 6, 7, 8, 9, 10, 15, 19] ?_
      | with_reducible refine mI h (fun hc h => ?_)
      | with_reducible refine mE h (fun hc h => ?_)
      | with_reducible refine mS h (fun h => ?_)
      | refine oWs ?_
      | refine oWl ?_)
    | (show E1 _ _ _ _ _ _ _; first
      | refine c_seq ?_
      | refine c_reg ?_
      | refine c_blk ?_
      | refine c_exit ?_
      | refine c_ret ?_
      | refine c_skip ?_
      | refine c_tt ?_
      | refine c_ff ?_
      | refine c_if h (fun hc h => ?_) (fun hc h => ?_)
      | refine c_fi h (fun hc h => ?_) (fun hc h => ?_)
      | with_reducible refine mI h (fun hc h => ?_)
      | with_reducible refine mE h (fun hc h => ?_)
      | with_reducible refine mS h (fun h => ?_)
      | refine c_ifs h (fun hc h => ?_) (fun hc h => ?_)
      | refine c_fis h (fun hc h => ?_) (fun hc h => ?_)
      | (refine lp4 (fun x1 x7 x8 x9 => [(1, .int .i64 x1), (7, .sl (x7.map Enc.enc)), (8, .int .i64 x8), (9, .int .i64 x9)]) (fun x1 x7 x8 x9 => []) (fun k_ x1 x7 x8 x9 => k_ ≤ k ∧ locate_styleAt.l0 k_ x1 x7 x8 x9 = some r) ⟨Nat.le_refl _, h⟩ ?_; intro k x1 x7 x8 x9 h; obtain ⟨hk, h⟩ := h; rcases k with _ | k; (simp only [locate_styleAt.l0] at h; cases h); simp only [locate_styleAt.l0, rdc124, rdc124', rq_T134, rq_L2, rq_T87, rq_L5, rq_T124, rq_T89, rq_T99, rq_T38, rq_T90, rq_T56, rq_I, rq_bt, wrap64, bl, tl_eq, tl_lit, tl_nil, Bool.false_eq_true, if_false, if_true] at h)
      | refine c_dt ?_
      | refine c_df ?_)
    | (show E2 _ _ _ _ _ _ _; first
      | refine n_seq ?_
      | (refine n_end hT ?_; cases h; first | rfl | exact congrArg AV.bool (by rw [Bool.eq_iff_iff]; simp))
      | refine ag4 rfl ⟨by omega, h⟩)
    | with_reducible refine mI h (fun hc h => ?_)
    | with_reducible refine mE h (fun hc h => ?_)
    | with_reducible refine mS h (fun h => ?_)
    | refine mT h (fun h => ?_)
    | refine mF h (fun h => ?_)
    | (cases h; done)
theorem metrics_Table_Check.does {l0 : S124} {l0s : List S124} {a1 : Int} {r : (Int)} (h : metrics_Table_Check.f (l0 :: l0s) a1 = some r) (G : Objs) : Does Try.prog true 93 [.ptrF (Enc.enc l0), .int .i64 a1] G (fun x _ => x = .int .i64 r) := by
  unfold metrics_Table_Check.f at h
  try simp only [rdc124, rdc124', rq_T134, rq_L2, rq_T87, rq_L5, rq_T124, rq_T89, rq_T99, rq_T38, rq_T90, rq_T56, rq_I, rq_bt, wrap64, bl, tl_eq, tl_lit, tl_nil, Bool.false_eq_true, if_false, if_true] at h
  refine does_walk 2 (F := cfg []) tb_ok mixed Try.func93 rfl (fun T hT => ?_)
  repeat' first
    | (show E3 _ _ _ _ _ _ _ _; first
      | refine oQ vL ?_
      | refine oQ vpt ?_
      | refine oQ vpf ?_
      | refine oW ?_
      | refine n_reg [0, 1, 4, 15] ?_
      | refine gYq vL ?_
      | refine gYq vpt ?_
      | refine gYq vpf ?_
      | refine gN ?_
      | refine gNf ?_
      | refine gY ?_
      | refine gT ?_
      | refine gif h (fun hc h => ?_) (fun hc h => ?_)
      | refine gfi h (fun hc h => ?_) (fun hc h => ?_)
      | with_reducible refine mI h (fun hc h => ?_)
      | with_reducible refine mE h (fun hc h => ?_)
      | with_reducible refine mS h (fun h => ?_)
      | refine oWs ?_
      | refine gYs ?_
      | refine gifs h (fun hc h => ?_) (fun hc h => ?_)
      | refine gfis h (fun hc h => ?_) (fun hc h => ?_)
      | (fail_if_success (refine g_lit ?_)); refine g_dt ?_
      | (fail_if_success (refine g_lit ?_)); refine g_df ?_)
    | (show E1 _ _ _ _ _ _ _; first
      | refine c_seq ?_
      | refine c_reg ?_
      | refine c_ret ?_
      | refine c_skip ?_
      | refine c_tt ?_
      | refine c_ff ?_
      | refine c_if h (fun hc h => ?_) (fun hc h => ?_)
      | refine c_fi h (fun hc h => ?_) (fun hc h => ?_)
      | with_reducible refine mI h (fun hc h => ?_)
      | with_reducible refine mE h (fun hc h => ?_)
      | with_reducible refine mS h (fun h => ?_)
      | refine c_ifs h (fun hc h => ?_) (fun hc h => ?_)
      | refine c_fis h (fun hc h => ?_) (fun hc h => ?_)
      | refine c_dt ?_
      | refine c_df ?_)
    | (show E2 _ _ _ _ _ _ _; first
      | refine n_seq ?_
      | (refine n_end hT ?_; cases h; first | rfl | exact congrArg AV.bool (by rw [Bool.eq_iff_iff]; simp)))
    | with_reducible refine mI h (fun hc h => ?_)
    | with_reducible refine mE h (fun hc h => ?_)
    | with_reducible refine mS h (fun h => ?_)
    | refine mT h (fun h => ?_)
    | refine mF h (fun h => ?_)
    | (cases h; done)
theorem metrics_lookup.does {k : Nat} {a0_0 : Int} {a0_1 : Int} {a0_2 : Int} {a0_3 : Int} {a0_4 : Int} {a0_5 : Int} {l0_6 : List (S134)} {a0_7 : Bool} {a1 : Int} {r : (Int)} (h : metrics_lookup.f k a0_0 a0_1 a0_2 a0_3 a0_4 a0_5 l0_6 a0_7 a1 = some r) (G : Objs) : Does Try.prog true 90 [.agg [.int .i64 a0_0, .int .i64 a0_1, .int .i64 a0_2, .int .i64 a0_3, .int .i64 a0_4, .int .i64 a0_5, .sl (l0_6.map Enc.enc), .bool a0_7], .int .i64 a1] G (fun x _ => x = .int .i64 r) := by
  unfold metrics_lookup.f at h
  try simp only [rdc124, rdc124', rq_T134, rq_L2, rq_T87, rq_L5, rq_T124, rq_T89, rq_T99, rq_T38, rq_T90, rq_T56, rq_I, rq_bt, wrap64, bl, tl_eq, tl_lit, tl_nil, Bool.false_eq_true, if_false, if_true] at h
  refine does_walk 2 (F := cfg [(1, 4)]) tb_ok mixed Try.func90 rfl (fun T hT => ?_)
  repeat' first
    | (show E3 _ _ _ _ _ _ _ _; first
      | refine oQ vL ?_
      | refine oQ vE ?_
      | refine oQ vpt ?_
      | refine oQ vpf ?_
      | refine oW ?_
      | refine n_reg [0, 1, 2, 4, 5, 6, 7, 13, 25, 43] ?_
      | refine gYq vL ?_
      | refine gYq vE ?_
      | refine gYq vpt ?_
      | refine gYq vpf ?_
      | refine gN ?_
      | refine gNf ?_
      | refine gY ?_
      | refine gT ?_
      | refine gif h (fun hc h => ?_) (fun hc h => ?_)
      | refine gfi h (fun hc h => ?_) (fun hc h => ?_)
      | with_reducible refine mI h (fun hc h => ?_)
      | with_reducible refine mE h (fun hc h => ?_)
      | with_reducible refine mS h (fun h => ?_)
      | refine oWs ?_
      | refine oWl ?_
      | refine gYs ?_
      | refine gifs h (fun hc h => ?_) (fun hc h => ?_)
      | refine gfis h (fun hc h => ?_) (fun hc h => ?_)
      | (fail_if_success (refine g_lit ?_)); refine g_dt ?_
      | (fail_if_success (refine g_lit ?_)); refine g_df ?_)
    | (show E1 _ _ _ _ _ _ _; first
      | refine c_seq ?_
      | refine c_reg ?_
      | refine c_drwf ?_
      | refine c_drw ?_
      | refine c_blk ?_
      | refine c_exit ?_
      | refine c_ret ?_
      | refine c_skip ?_
      | refine c_tt ?_
      | refine c_ff ?_
      | refine c_if h (fun hc h => ?_) (fun hc h => ?_)
      | refine c_fi h (fun hc h => ?_) (fun hc h => ?_)
      | with_reducible refine mI h (fun hc h => ?_)
      | with_reducible refine mE h (fun hc h => ?_)
      | with_reducible refine mS h (fun h => ?_)
      | refine c_ifs h (fun hc h => ?_) (fun hc h => ?_)
      | refine c_fis h (fun hc h => ?_) (fun hc h => ?_)
      | (refine lp11 (fun x1 x5 x6 x168000 x168001 x168002 x168003 x168004 x168005 x168006 x168007 => [(1, .int .i64 x1), (5, .int .i64 x5), (6, .int .i64 x6), (2, .lptr 2 0)]) (fun x1 x5 x6 x168000 x168001 x168002 x168003 x168004 x168005 x168006 x168007 => [(2, [.int .i64 x168000, .int .i64 x168001, .int .i64 x168002, .int .i64 x168003, .int .i64 x168004, .int .i64 x168005, .sl (x168006.map Enc.enc), .bool x168007])]) (fun k_ x1 x5 x6 x168000 x168001 x168002 x168003 x168004 x168005 x168006 x168007 => k_ ≤ k ∧ metrics_lookup.l0 k_ x1 x5 x6 x168000 x168001 x168002 x168003 x168004 x168005 x168006 x168007 = some r) ⟨Nat.le_refl _, h⟩ ?_; intro k x1 x5 x6 x168000 x168001 x168002 x168003 x168004 x168005 x168006 x168007 h; obtain ⟨hk, h⟩ := h; rcases k with _ | k; (simp only [metrics_lookup.l0] at h; cases h); simp only [metrics_lookup.l0, rdc124, rdc124', rq_T134, rq_L2, rq_T87, rq_L5, rq_T124, rq_T89, rq_T99, rq_T38, rq_T90, rq_T56, rq_I, rq_bt, wrap64, bl, tl_eq, tl_lit, tl_nil, Bool.false_eq_true, if_false, if_true] at h)
      | refine c_dt ?_
      | refine c_df ?_)
    | (show E2 _ _ _ _ _ _ _; first
      | refine n_seq ?_
      | (refine n_end hT ?_; cases h; first | rfl | exact congrArg AV.bool (by rw [Bool.eq_iff_iff]; simp))
      | refine ag11 rfl ⟨by omega, h⟩)
    | (show E4 _ _ _ _ _ _ _; first
      | refine dQ vL ?_
      | refine dQ vE ?_
      | refine dQ vpt ?_
      | refine dQ vpf ?_
      | refine dW ?_
      | refine dE ?_)
    | (show E5 _ _ _ _ _ _ _; first
      | refine tQ vL ?_
      | refine tQ vE ?_
      | refine tQ vpt ?_
      | refine tQ vpf ?_
      | refine tW ?_
      | refine n_drw [0, 1, 2, 4, 5, 6, 7, 13, 25, 43] ?_)
    | with_reducible refine mI h (fun hc h => ?_)
    | with_reducible refine mE h (fun hc h => ?_)
    | with_reducible refine mS h (fun h => ?_)
    | refine mT h (fun h => ?_)
    | refine mF h (fun h => ?_)
    | (cases h; done)
theorem bits_Mul64.does {a0 : Int} {a1 : Int} {r : (Int × Int)} (h : bits_Mul64.f a0 a1 = some r) (G : Objs) : Does Try.prog true 117 [.int .u64 a0, .int .u64 a1] G (fun x _ => x = .tup [.int .u64 r.1, .int .u64 r.2]) := by
  unfold bits_Mul64.f at h
  try simp only [rdc124, rdc124', rq_T134, rq_L2, rq_T87, rq_L5, rq_T124, rq_T89, rq_T99, rq_T38, rq_T90, rq_T56, rq_I, rq_bt, wrap64, bl, tl_eq, tl_lit, tl_nil, Bool.false_eq_true, if_false, if_true] at h
  refine does_walk 2 (F := cfg []) tb_ok mixed Try.func117 rfl (fun T hT => ?_)
  repeat' first
    | (show E3 _ _ _ _ _ _ _ _; first
      | refine oQ (vShr 4294967296) ?_
      | refine oW ?_
      | refine n_reg [0, 1, 4, 5, 6, 7, 8, 9, 10, 11, 12, 13] ?_
      | with_reducible refine mI h (fun hc h => ?_)
      | with_reducible refine mE h (fun hc h => ?_)
      | with_reducible refine mS h (fun h => ?_)
      | refine oWs ?_)
    | (show E1 _ _ _ _ _ _ _; first
      | refine c_seq ?_
      | refine c_reg ?_
      | refine c_ret ?_)
    | (show E2 _ _ _ _ _ _ _; first
      | refine n_seq ?_
      | (refine n_ends hT ?_; cases h; first | rfl | exact congrArg AV.bool (by rw [Bool.eq_iff_iff]; simp)))
    | with_reducible refine mI h (fun hc h => ?_)
    | with_reducible refine mE h (fun hc h => ?_)
    | with_reducible refine mS h (fun h => ?_)
    | refine mT h (fun h => ?_)
    | refine mF h (fun h => ?_)
    | (cases h; done)
end Go.AL.X
