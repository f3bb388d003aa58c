/- What each function does: it answers as its model tells, and changes nothing (in 11 texts, numbered 5). -/
import Derived.Test.YtblmcdpfhdamjaaC0PaintEnough
import Derived.Test.YtblmcdpfhdamjaaC1PaintEnough
import Derived.Test.YtblmcdpfhdamjaaC2PaintEnough
import Derived.Test.YtblmcdpfhdamjaaC3PaintEnough
import Derived.Test.YtblmcdpfhdamjaaTPaintEnough
namespace Go.AL.X
open Go.Proofs Go.Proofs.Ytblmcdpfhdamjaa.PPaintEnough
set_option linter.unusedVariables false
set_option linter.unusedSimpArgs false
set_option maxRecDepth 100000
set_option maxHeartbeats 16000000
theorem paint_Window_At.does {k : Nat} {a0_0 : Int} {a0_1 : Int} {a0_2 : Int} {a1 : Int} {r : (Int × Int × Bool)} (h : paint_Window_At.f k a0_0 a0_1 a0_2 a1 = some r) (G : Objs) : Does Try.prog true 25 [.agg [.int .i64 a0_0, .int .i64 a0_1, .int .i64 a0_2], .int .i64 a1] G (fun x _ => x = .tup [.int .i64 r.1, .int .i64 r.2.1, .bool r.2.2]) := by
  unfold paint_Window_At.f at h
  try simp only [rdc124, rdc124', rq_T134, rq_L2, rq_T87, rq_L5, rq_T124, rq_T89, rq_T99, rq_T38, rq_T90, rq_T56, rq_L13, rq_T25, rq_L15, rq_T66, rq_T113, rq_L18, rq_I, rq_bt, wrap64, bl, tl_eq, tl_lit, tl_nil, Bool.false_eq_true, if_false, if_true] at h
  refine does_walk 2 (F := cfg [(3, 15)]) tb_ok mixed Try.func25 rfl (fun T hT => ?_)
  repeat' first
    | (show E3 _ _ _ _ _ _ _ _; first
      | refine oQ vpt ?_
      | refine oQ vpf ?_
      | refine oLd ?_
      | refine oW ?_
      | refine n_reg [0, 1, 2, 4, 5, 6, 7, 8, 16, 34] ?_
      | refine gYq vpt ?_
      | refine gYq vpf ?_
      | refine gLd ?_
      | refine gN ?_
      | refine gNf ?_
      | refine gY ?_
      | refine gT ?_
      | refine mB h (fun t ht h => gC (vC (fun G => paint_Window_Size.does ht G)) ?_)
      | refine gif h (fun hc h => ?_) (fun hc h => ?_)
      | refine gfi h (fun hc h => ?_) (fun hc h => ?_)
      | with_reducible refine mI h (fun hc h => ?_)
      | with_reducible refine mE h (fun hc h => ?_)
      | with_reducible refine mS h (fun h => ?_)
      | refine oWs ?_
      | refine oWl ?_
      | refine gYs ?_
      | refine gifs h (fun hc h => ?_) (fun hc h => ?_)
      | refine gfis h (fun hc h => ?_) (fun hc h => ?_)
      | (fail_if_success (refine g_lit ?_)); refine g_dt ?_
      | (fail_if_success (refine g_lit ?_)); refine g_df ?_)
    | (show E1 _ _ _ _ _ _ _; first
      | refine c_seq ?_
      | refine c_reg ?_
      | refine c_drwf ?_
      | refine c_drw ?_
      | refine c_ret ?_
      | refine c_skip ?_
      | refine c_tt ?_
      | refine c_ff ?_
      | refine c_if h (fun hc h => ?_) (fun hc h => ?_)
      | refine c_fi h (fun hc h => ?_) (fun hc h => ?_)
      | with_reducible refine mI h (fun hc h => ?_)
      | with_reducible refine mE h (fun hc h => ?_)
      | with_reducible refine mS h (fun h => ?_)
      | refine c_ifs h (fun hc h => ?_) (fun hc h => ?_)
      | refine c_fis h (fun hc h => ?_) (fun hc h => ?_)
      | refine c_dt ?_
      | refine c_df ?_)
    | (show E2 _ _ _ _ _ _ _; first
      | refine n_seq ?_
      | (refine n_ends hT ?_; cases h; first | rfl | exact congrArg AV.bool (by rw [Bool.eq_iff_iff]; simp)))
    | (show E4 _ _ _ _ _ _ _; first
      | refine dQ vpt ?_
      | refine dQ vpf ?_
      | refine dW ?_
      | refine dE ?_)
    | (show E5 _ _ _ _ _ _ _; first
      | refine tQ vpt ?_
      | refine tQ vpf ?_
      | refine tW ?_
      | refine n_drw [0, 1, 2, 4, 5, 6, 7, 8, 16, 34] ?_)
    | with_reducible refine mI h (fun hc h => ?_)
    | with_reducible refine mE h (fun hc h => ?_)
    | with_reducible refine mS h (fun h => ?_)
    | (rcases k with _ | k; (simp only [paint_Window_At.j0] at h; cases h); simp only [paint_Window_At.j0, rdc124, rdc124', rq_T134, rq_L2, rq_T87, rq_L5, rq_T124, rq_T89, rq_T99, rq_T38, rq_T90, rq_T56, rq_L13, rq_T25, rq_L15, rq_T66, rq_T113, rq_L18, rq_I, rq_bt, wrap64, bl, tl_eq, tl_lit, tl_nil, Bool.false_eq_true, if_false, if_true] at h)
    | refine mT h (fun h => ?_)
    | refine mF h (fun h => ?_)
    | (cases h; done)
theorem regletlaw21_few.does {k : Nat} {l0 : List (S66)} {l1 : List (S113)} {r : (Bool)} (h : regletlaw21_few.f k l0 l1 = some r) (G : Objs) : Does Try.prog true 29 [.sl (l0.map Enc.enc), .sl (l1.map Enc.enc)] G (fun x _ => x = .bool r) := by
  unfold regletlaw21_few.f at h
  try simp only [rdc124, rdc124', rq_T134, rq_L2, rq_T87, rq_L5, rq_T124, rq_T89, rq_T99, rq_T38, rq_T90, rq_T56, rq_L13, rq_T25, rq_L15, rq_T66, rq_T113, rq_L18, rq_I, rq_bt, wrap64, bl, tl_eq, tl_lit, tl_nil, Bool.false_eq_true, if_false, if_true] at h
  refine does_walk 2 (F := cfg []) tb_ok mixed Try.func29 rfl (fun T hT => ?_)
  repeat' first
    | (show E3 _ _ _ _ _ _ _ _; first
      | refine oQ vL ?_
      | refine oQ vE ?_
      | refine oQ vpt ?_
      | refine oQ vpf ?_
      | refine oW ?_
      | refine n_reg [0, 1, 4, 5, 6, 14, 18, 36, 40, 58] ?_
      | refine gYq vL ?_
      | refine gYq vE ?_
      | refine gYq vpt ?_
      | refine gYq vpf ?_
      | refine gN ?_
      | refine gNf ?_
      | refine gY ?_
      | refine gT ?_
      | refine mB h (fun t ht h => gC (vC (fun G => regletlaw21_heights.does ht G)) ?_)
      | refine gif h (fun hc h => ?_) (fun hc h => ?_)
      | refine gfi h (fun hc h => ?_) (fun hc h => ?_)
      | with_reducible refine mI h (fun hc h => ?_)
      | with_reducible refine mE h (fun hc h => ?_)
      | with_reducible refine mS h (fun h => ?_)
      | refine oWs ?_
      | refine gYs ?_
      | refine gifs h (fun hc h => ?_) (fun hc h => ?_)
      | refine gfis h (fun hc h => ?_) (fun hc h => ?_)
      | (fail_if_success (refine g_lit ?_)); refine g_dt ?_
      | (fail_if_success (refine g_lit ?_)); refine g_df ?_)
    | (show E1 _ _ _ _ _ _ _; first
      | refine c_seq ?_
      | refine c_reg ?_
      | refine c_blk ?_
      | refine c_exit ?_
      | refine c_ret ?_
      | refine c_skip ?_
      | refine c_tt ?_
      | refine c_ff ?_
      | refine c_if h (fun hc h => ?_) (fun hc h => ?_)
      | refine c_fi h (fun hc h => ?_) (fun hc h => ?_)
      | with_reducible refine mI h (fun hc h => ?_)
      | with_reducible refine mE h (fun hc h => ?_)
      | with_reducible refine mS h (fun h => ?_)
      | refine c_ifs h (fun hc h => ?_) (fun hc h => ?_)
      | refine c_fis h (fun hc h => ?_) (fun hc h => ?_)
      | (refine lp3 (fun x0 x1 x5 => [(0, .sl (x0.map Enc.enc)), (1, .sl (x1.map Enc.enc)), (5, .int .i64 x5)]) (fun x0 x1 x5 => []) (fun k_ x0 x1 x5 => k_ ≤ k ∧ regletlaw21_few.l0 k_ x0 x1 x5 = some r) ⟨Nat.le_refl _, h⟩ ?_; intro k x0 x1 x5 h; obtain ⟨hk, h⟩ := h; rcases k with _ | k; (simp only [regletlaw21_few.l0] at h; cases h); simp only [regletlaw21_few.l0, rdc124, rdc124', rq_T134, rq_L2, rq_T87, rq_L5, rq_T124, rq_T89, rq_T99, rq_T38, rq_T90, rq_T56, rq_L13, rq_T25, rq_L15, rq_T66, rq_T113, rq_L18, rq_I, rq_bt, wrap64, bl, tl_eq, tl_lit, tl_nil, Bool.false_eq_true, if_false, if_true] at h)
      | (refine lp2 (fun x1 x6 => [(1, .sl (x1.map Enc.enc)), (6, .int .i64 x6)]) (fun x1 x6 => []) (fun k_ x1 x6 => k_ ≤ k ∧ regletlaw21_few.l1 k_ x1 x6 = some r) ⟨Nat.le_refl _, h⟩ ?_; intro k x1 x6 h; obtain ⟨hk, h⟩ := h; rcases k with _ | k; (simp only [regletlaw21_few.l1] at h; cases h); simp only [regletlaw21_few.l1, rdc124, rdc124', rq_T134, rq_L2, rq_T87, rq_L5, rq_T124, rq_T89, rq_T99, rq_T38, rq_T90, rq_T56, rq_L13, rq_T25, rq_L15, rq_T66, rq_T113, rq_L18, rq_I, rq_bt, wrap64, bl, tl_eq, tl_lit, tl_nil, Bool.false_eq_true, if_false, if_true] at h)
      | refine c_dt ?_
      | refine c_df ?_)
    | (show E2 _ _ _ _ _ _ _; first
      | refine n_seq ?_
      | (refine n_end hT ?_; cases h; first | rfl | exact congrArg AV.bool (by rw [Bool.eq_iff_iff]; simp))
      | refine ag2 rfl ⟨by omega, h⟩
      | refine ag3 rfl ⟨by omega, h⟩)
    | with_reducible refine mI h (fun hc h => ?_)
    | with_reducible refine mE h (fun hc h => ?_)
    | with_reducible refine mS h (fun h => ?_)
    | (rcases k with _ | k; (simp only [regletlaw21_few.j0] at h; cases h); simp only [regletlaw21_few.j0, rdc124, rdc124', rq_T134, rq_L2, rq_T87, rq_L5, rq_T124, rq_T89, rq_T99, rq_T38, rq_T90, rq_T56, rq_L13, rq_T25, rq_L15, rq_T66, rq_T113, rq_L18, rq_I, rq_bt, wrap64, bl, tl_eq, tl_lit, tl_nil, Bool.false_eq_true, if_false, if_true] at h)
    | refine mT h (fun h => ?_)
    | refine mF h (fun h => ?_)
    | (cases h; done)
theorem regletref10_Same.does {k : Nat} {a0_0 : ByteArray} {l0_1 : List (S89)} {a0_2 : Int} {a0_3 : Int} {a0_4 : Int} {a0_5 : Bool} {a0_6 : Int} {a0_7 : Bool} {a0_8 : Bool} {a1_0 : ByteArray} {l1_1 : List (S89)} {a1_2 : Int} {a1_3 : Int} {a1_4 : Int} {a1_5 : Bool} {a1_6 : Int} {a1_7 : Bool} {a1_8 : Bool} {r : (Bool)} (h : regletref10_Same.f k a0_0 l0_1 a0_2 a0_3 a0_4 a0_5 a0_6 a0_7 a0_8 a1_0 l1_1 a1_2 a1_3 a1_4 a1_5 a1_6 a1_7 a1_8 = some r) (G : Objs) : Does Try.prog true 63 [.agg [.str a0_0, .sl (l0_1.map Enc.enc), .int .i64 a0_2, .int .i64 a0_3, .int .i64 a0_4, .bool a0_5, .int .i64 a0_6, .bool a0_7, .bool a0_8], .agg [.str a1_0, .sl (l1_1.map Enc.enc), .int .i64 a1_2, .int .i64 a1_3, .int .i64 a1_4, .bool a1_5, .int .i64 a1_6, .bool a1_7, .bool a1_8]] G (fun x _ => x = .bool r) := by
  unfold regletref10_Same.f at h
  try simp only [rdc124, rdc124', rq_T134, rq_L2, rq_T87, rq_L5, rq_T124, rq_T89, rq_T99, rq_T38, rq_T90, rq_T56, rq_L13, rq_T25, rq_L15, rq_T66, rq_T113, rq_L18, rq_I, rq_bt, wrap64, bl, tl_eq, tl_lit, tl_nil, Bool.false_eq_true, if_false, if_true] at h
  refine does_walk 2 (F := cfg []) tb_ok mixed Try.func63 rfl (fun T hT => ?_)
  repeat' first
    | (show E3 _ _ _ _ _ _ _ _; first
      | refine oQ vpt ?_
      | refine oQ vpf ?_
      | refine oW ?_
      | refine n_reg [0, 1, 2, 3, 4] ?_
      | refine gYq vpt ?_
      | refine gYq vpf ?_
      | refine gN ?_
      | refine gNf ?_
      | refine gY ?_
      | refine gT ?_
      | refine mB h (fun t ht h => gC (vC (fun G => regletref05_Same.does ht G)) ?_)
      | refine gif h (fun hc h => ?_) (fun hc h => ?_)
      | refine gfi h (fun hc h => ?_) (fun hc h => ?_)
      | with_reducible refine mI h (fun hc h => ?_)
      | with_reducible refine mE h (fun hc h => ?_)
      | with_reducible refine mS h (fun h => ?_)
      | refine oWs ?_
      | refine oWl ?_
      | refine gYs ?_
      | refine gifs h (fun hc h => ?_) (fun hc h => ?_)
      | refine gfis h (fun hc h => ?_) (fun hc h => ?_)
      | (fail_if_success (refine g_lit ?_)); refine g_dt ?_
      | (fail_if_success (refine g_lit ?_)); refine g_df ?_)
    | (show E1 _ _ _ _ _ _ _; first
      | refine c_seq ?_
      | refine c_reg ?_
      | refine c_ret ?_)
    | (show E2 _ _ _ _ _ _ _; first
      | refine n_seq ?_
      | (refine n_end hT ?_; cases h; first | rfl | exact congrArg AV.bool (by rw [Bool.eq_iff_iff]; simp)))
    | with_reducible refine mI h (fun hc h => ?_)
    | with_reducible refine mE h (fun hc h => ?_)
    | with_reducible refine mS h (fun h => ?_)
    | refine mT h (fun h => ?_)
    | refine mF h (fun h => ?_)
    | (cases h; done)
theorem regletref04_Check.does {k : Nat} {l0 : List (S87)} {r : (Int × Int)} (h : regletref04_Check.f k l0 = some r) (G : Objs) : Does Try.prog true 38 [.sl (l0.map Enc.enc)] G (fun x _ => x = .tup [.int .i64 r.1, .int .i64 r.2]) := by
  unfold regletref04_Check.f at h
  try simp only [rdc124, rdc124', rq_T134, rq_L2, rq_T87, rq_L5, rq_T124, rq_T89, rq_T99, rq_T38, rq_T90, rq_T56, rq_L13, rq_T25, rq_L15, rq_T66, rq_T113, rq_L18, rq_I, rq_bt, wrap64, bl, tl_eq, tl_lit, tl_nil, Bool.false_eq_true, if_false, if_true] at h
  refine does_walk 1 (F := cfg []) tb_ok mixed Try.func38 rfl (fun T hT => ?_)
  repeat' first
    | (show E3 _ _ _ _ _ _ _ _; first
      | refine oQ vL ?_
      | refine oQ vE ?_
      | refine oQ vpt ?_
      | refine oQ vpf ?_
      | refine oLd ?_
      | refine oW ?_
      | refine n_reg [0, 2, 3, 4, 5, 13, 17, 26] ?_
      | refine gYq vL ?_
      | refine gYq vE ?_
      | refine gYq vpt ?_
      | refine gYq vpf ?_
      | refine gN ?_
      | refine gNf ?_
      | refine gY ?_
      | refine gT ?_
      | refine mB h (fun t ht h => oC (vC (fun G => regletref04_Style.does ht G)) ?_)
      | refine gif h (fun hc h => ?_) (fun hc h => ?_)
      | refine gfi h (fun hc h => ?_) (fun hc h => ?_)
      | with_reducible refine mI h (fun hc h => ?_)
      | with_reducible refine mE h (fun hc h => ?_)
      | with_reducible refine mS h (fun h => ?_)
      | refine oWs ?_
      | refine gYs ?_
      | refine gifs h (fun hc h => ?_) (fun hc h => ?_)
      | refine gfis h (fun hc h => ?_) (fun hc h => ?_)
      | (fail_if_success (refine g_lit ?_)); refine g_dt ?_
      | (fail_if_success (refine g_lit ?_)); refine g_df ?_)
    | (show E1 _ _ _ _ _ _ _; first
      | refine c_seq ?_
      | refine c_reg ?_
      | refine c_blk ?_
      | refine c_exit ?_
      | refine c_ret ?_
      | refine c_skip ?_
      | refine c_tt ?_
      | refine c_ff ?_
      | refine c_if h (fun hc h => ?_) (fun hc h => ?_)
      | refine c_fi h (fun hc h => ?_) (fun hc h => ?_)
      | with_reducible refine mI h (fun hc h => ?_)
      | with_reducible refine mE h (fun hc h => ?_)
      | with_reducible refine mS h (fun h => ?_)
      | refine c_ifs h (fun hc h => ?_) (fun hc h => ?_)
      | refine c_fis h (fun hc h => ?_) (fun hc h => ?_)
      | (refine lp2 (fun x0 x4 => [(0, .sl (x0.map Enc.enc)), (4, .int .i64 x4)]) (fun x0 x4 => []) (fun k_ x0 x4 => k_ ≤ k ∧ regletref04_Check.l0 k_ x0 x4 = some r) ⟨Nat.le_refl _, h⟩ ?_; intro k x0 x4 h; obtain ⟨hk, h⟩ := h; rcases k with _ | k; (simp only [regletref04_Check.l0] at h; cases h); simp only [regletref04_Check.l0, rdc124, rdc124', rq_T134, rq_L2, rq_T87, rq_L5, rq_T124, rq_T89, rq_T99, rq_T38, rq_T90, rq_T56, rq_L13, rq_T25, rq_L15, rq_T66, rq_T113, rq_L18, rq_I, rq_bt, wrap64, bl, tl_eq, tl_lit, tl_nil, Bool.false_eq_true, if_false, if_true] at h)
      | refine c_dt ?_
      | refine c_df ?_)
    | (show E2 _ _ _ _ _ _ _; first
      | refine n_seq ?_
      | (refine n_ends hT ?_; cases h; first | rfl | exact congrArg AV.bool (by rw [Bool.eq_iff_iff]; simp))
      | refine ag2 rfl ⟨by omega, h⟩)
    | with_reducible refine mI h (fun hc h => ?_)
    | with_reducible refine mE h (fun hc h => ?_)
    | with_reducible refine mS h (fun h => ?_)
    | (rcases k with _ | k; (simp only [regletref04_Check.j0] at h; cases h); simp only [regletref04_Check.j0, rdc124, rdc124', rq_T134, rq_L2, rq_T87, rq_L5, rq_T124, rq_T89, rq_T99, rq_T38, rq_T90, rq_T56, rq_L13, rq_T25, rq_L15, rq_T66, rq_T113, rq_L18, rq_I, rq_bt, wrap64, bl, tl_eq, tl_lit, tl_nil, Bool.false_eq_true, if_false, if_true] at h)
    | refine mT h (fun h => ?_)
    | refine mF h (fun h => ?_)
    | (cases h; done)
theorem metrics_New.does {k : Nat} {l0 : List (S87)} {r : ((List (S124)) × Int × Int)} (h : metrics_New.f k l0 = some r) (G : Objs) : Does Try.prog true 39 [.sl (l0.map Enc.enc)] G (fun x _ => x = .tup [pv r.1, .int .i64 r.2.1, .int .i64 r.2.2]) := by
  unfold metrics_New.f at h
  try simp only [rdc124, rdc124', rq_T134, rq_L2, rq_T87, rq_L5, rq_T124, rq_T89, rq_T99, rq_T38, rq_T90, rq_T56, rq_L13, rq_T25, rq_L15, rq_T66, rq_T113, rq_L18, rq_I, rq_bt, wrap64, bl, tl_eq, tl_lit, tl_nil, Bool.false_eq_true, if_false, if_true] at h
  refine does_walk 1 (F := cfg [(11, 1007)]) tb_ok mixed Try.func39 rfl (fun T hT => ?_)
  repeat' first
    | (show E3 _ _ _ _ _ _ _ _; first
      | refine oQ vL ?_
      | refine oQ vLv ?_
      | refine oQ vE ?_
      | refine oQ vEv ?_
      | refine oQ vEo ?_
      | refine oQ vpt ?_
      | refine oQ vpf ?_
      | refine oLe vLe ?_
      | refine oBS ?_
      | refine oB ?_
      | refine oLd ?_
      | refine oW ?_
      | refine n_reg [0, 2, 3, 4, 5, 6, 7, 8, 16, 19, 20, 21, 22, 29] ?_
      | refine gYq vL ?_
      | refine gYq vLv ?_
      | refine gYq vE ?_
      | refine gYq vEv ?_
      | refine gYq vEo ?_
      | refine gYq vpt ?_
      | refine gYq vpf ?_
      | refine gLe vLe ?_
      | refine gN ?_
      | refine gNf ?_
      | refine gY ?_
      | refine gT ?_
      | refine oAv (⟨_, _, _⟩ : S134) ?_
      | refine oA (⟨_, _, _⟩ : S134) ?_
      | refine oAe (⟨_, _, _⟩ : S134) ?_
      | refine oAl (⟨_, _, _⟩ : S134) ?_
      | refine oAv (⟨_, _, _, _, _, _, _, _⟩ : S87) ?_
      | refine oA (⟨_, _, _, _, _, _, _, _⟩ : S87) ?_
      | refine oAe (⟨_, _, _, _, _, _, _, _⟩ : S87) ?_
      | refine oAl (⟨_, _, _, _, _, _, _, _⟩ : S87) ?_
      | refine oMv ?_
      | refine oM ?_
      | refine oMe ?_
      | refine oMl ?_
      | refine mB h (fun t ht h => oC (vC (fun G => metrics_check.does ht G)) ?_)
      | refine fz 26 ?_
      | refine gif h (fun hc h => ?_) (fun hc h => ?_)
      | refine gfi h (fun hc h => ?_) (fun hc h => ?_)
      | with_reducible refine mI h (fun hc h => ?_)
      | with_reducible refine mE h (fun hc h => ?_)
      | with_reducible refine mS h (fun h => ?_)
      | refine oWs ?_
      | refine oWl ?_
      | refine gYs ?_
      | refine gifs h (fun hc h => ?_) (fun hc h => ?_)
      | refine gfis h (fun hc h => ?_) (fun hc h => ?_)
      | (fail_if_success (refine g_lit ?_)); refine g_dt ?_
      | (fail_if_success (refine g_lit ?_)); refine g_df ?_)
    | (show E1 _ _ _ _ _ _ _; first
      | refine c_seq ?_
      | refine c_reg ?_
      | (show E1 _ _ _ (.region 11 _ _) _ _ _; refine fzo (.l 7 6) ?_)
      | refine c_drwf ?_
      | refine c_drw ?_
      | refine c_blk ?_
      | refine c_exit ?_
      | refine c_ret ?_
      | refine c_skip ?_
      | refine c_tt ?_
      | refine c_ff ?_
      | refine c_if h (fun hc h => ?_) (fun hc h => ?_)
      | refine c_fi h (fun hc h => ?_) (fun hc h => ?_)
      | with_reducible refine mI h (fun hc h => ?_)
      | with_reducible refine mE h (fun hc h => ?_)
      | with_reducible refine mS h (fun h => ?_)
      | refine c_ifs h (fun hc h => ?_) (fun hc h => ?_)
      | refine c_fis h (fun hc h => ?_) (fun hc h => ?_)
      | (refine lp4 (fun x19 x20 x21 x126000 => [(19, .sl (x19.map Enc.enc)), (20, .int .i64 x20), (21, .int .i64 x21), (5, .lptr 18 0)]) (fun x19 x20 x21 x126000 => [(18, [.own 8 (x126000.map Enc.enc)])]) (fun k_ x19 x20 x21 x126000 => k_ ≤ k ∧ metrics_New.l0 k_ x19 x20 x21 x126000 = some r) ⟨Nat.le_refl _, h⟩ ?_; intro k x19 x20 x21 x126000 h; obtain ⟨hk, h⟩ := h; rcases k with _ | k; (simp only [metrics_New.l0] at h; cases h); simp only [metrics_New.l0, rdc124, rdc124', rq_T134, rq_L2, rq_T87, rq_L5, rq_T124, rq_T89, rq_T99, rq_T38, rq_T90, rq_T56, rq_L13, rq_T25, rq_L15, rq_T66, rq_T113, rq_L18, rq_I, rq_bt, wrap64, bl, tl_eq, tl_lit, tl_nil, Bool.false_eq_true, if_false, if_true] at h)
      | refine c_dt ?_
      | refine c_df ?_)
    | (show E2 _ _ _ _ _ _ _; first
      | refine n_seq ?_
      | (refine n_ends hT ?_; cases h; first | rfl | exact congrArg AV.bool (by rw [Bool.eq_iff_iff]; simp))
      | refine ag4 rfl ⟨by omega, h⟩)
    | (show E4 _ _ _ _ _ _ _; first
      | refine dQ vLe ?_
      | refine dQ vL ?_
      | refine dQ vLv ?_
      | refine dQ vE ?_
      | refine dQ vEv ?_
      | refine dQ vEo ?_
      | refine dQ vpt ?_
      | refine dQ vpf ?_
      | refine dQ vBS ?_
      | refine dW ?_
      | refine dE ?_
      | refine dEl ?_ ?_)
    | (show E5 _ _ _ _ _ _ _; first
      | refine tAl (⟨_, _, _⟩ : S134) ?_
      | refine tA (⟨_, _, _⟩ : S134) ?_
      | refine tAe (⟨_, _, _⟩ : S134) ?_
      | refine tAl (⟨_, _, _, _, _, _, _, _⟩ : S87) ?_
      | refine tA (⟨_, _, _, _, _, _, _, _⟩ : S87) ?_
      | refine tAe (⟨_, _, _, _, _, _, _, _⟩ : S87) ?_
      | refine tMl ?_
      | refine tM ?_
      | refine tMe ?_
      | refine tQ vL ?_
      | refine tQ vLv ?_
      | refine tQ vE ?_
      | refine tQ vEv ?_
      | refine tQ vEo ?_
      | refine tQ vpt ?_
      | refine tQ vpf ?_
      | refine tW ?_
      | refine n_drw [0, 2, 3, 4, 5, 6, 7, 8, 16, 19, 20, 21, 22, 29] ?_)
    | with_reducible refine mI h (fun hc h => ?_)
    | with_reducible refine mE h (fun hc h => ?_)
    | with_reducible refine mS h (fun h => ?_)
    | refine mT h (fun h => ?_)
    | refine mF h (fun h => ?_)
    | (cases h; done)
theorem locate_shown.does {k : Nat} {a0 : ByteArray} {r : (Int)} (h : locate_shown.f k a0 = some r) (G : Objs) : Does Try.prog true 71 [.str a0] G (fun x _ => x = .int .i64 r) := by
  unfold locate_shown.f at h
  try simp only [rdc124, rdc124', rq_T134, rq_L2, rq_T87, rq_L5, rq_T124, rq_T89, rq_T99, rq_T38, rq_T90, rq_T56, rq_L13, rq_T25, rq_L15, rq_T66, rq_T113, rq_L18, rq_I, rq_bt, wrap64, bl, tl_eq, tl_lit, tl_nil, Bool.false_eq_true, if_false, if_true] at h
  refine does_walk 1 (F := cfg []) tb_ok mixed Try.func71 rfl (fun T hT => ?_)
  repeat' first
    | (show E3 _ _ _ _ _ _ _ _; first
      | refine oW ?_
      | refine n_reg [0, 2, 3, 4, 5, 7, 9, 10, 11, 15, 16] ?_
      | refine mB h (fun t ht h => oC (vC (fun G => runes_Kind.does ht G)) ?_)
      | refine mB h (fun t ht h => oC (vC (fun G => runes_First.does ht G)) ?_)
      | refine oNx h (fun hc h => ?_) (fun hc h => ?_)
      | with_reducible refine mI h (fun hc h => ?_)
      | with_reducible refine mE h (fun hc h => ?_)
      | with_reducible refine mS h (fun h => ?_)
      | refine oWs ?_)
    | (show E1 _ _ _ _ _ _ _; first
      | refine c_seq ?_
      | refine c_reg ?_
      | refine c_blk ?_
      | refine c_exit ?_
      | refine c_ret ?_
      | refine c_skip ?_
      | refine c_tt ?_
      | refine c_ff ?_
      | refine c_if h (fun hc h => ?_) (fun hc h => ?_)
      | refine c_fi h (fun hc h => ?_) (fun hc h => ?_)
      | with_reducible refine mI h (fun hc h => ?_)
      | with_reducible refine mE h (fun hc h => ?_)
      | with_reducible refine mS h (fun h => ?_)
      | refine c_ifs h (fun hc h => ?_) (fun hc h => ?_)
      | refine c_fis h (fun hc h => ?_) (fun hc h => ?_)
      | (refine lp4 (fun x0 x3 x153000 x153001 => [(0, .str x0), (3, .int .i64 x3), (9, .iter x153000 x153001.toNat)]) (fun x0 x3 x153000 x153001 => []) (fun k_ x0 x3 x153000 x153001 => k_ ≤ k ∧ locate_shown.l0 k_ x0 x3 x153000 x153001 = some r) ⟨Nat.le_refl _, h⟩ ?_; intro k x0 x3 x153000 x153001 h; obtain ⟨hk, h⟩ := h; rcases k with _ | k; (simp only [locate_shown.l0] at h; cases h); simp only [locate_shown.l0, rdc124, rdc124', rq_T134, rq_L2, rq_T87, rq_L5, rq_T124, rq_T89, rq_T99, rq_T38, rq_T90, rq_T56, rq_L13, rq_T25, rq_L15, rq_T66, rq_T113, rq_L18, rq_I, rq_bt, wrap64, bl, tl_eq, tl_lit, tl_nil, Bool.false_eq_true, if_false, if_true, itP_] at h)
      | refine c_dt ?_
      | refine c_df ?_)
    | (show E2 _ _ _ _ _ _ _; first
      | refine n_seq ?_
      | (refine n_end hT ?_; cases h; first | rfl | exact congrArg AV.bool (by rw [Bool.eq_iff_iff]; simp))
      | refine ag4 rfl ⟨by omega, h⟩)
    | with_reducible refine mI h (fun hc h => ?_)
    | with_reducible refine mE h (fun hc h => ?_)
    | with_reducible refine mS h (fun h => ?_)
    | refine mT h (fun h => ?_)
    | refine mF h (fun h => ?_)
    | (cases h; done)
theorem metrics_Table_Width.does {k : Nat} {l0 : S124} {l0s : List S124} {a1 : Int} {a2 : Int} {r : (Int)} (h : metrics_Table_Width.f k (l0 :: l0s) a1 a2 = some r) (G : Objs) : Does Try.prog true 73 [.ptrF (Enc.enc l0), .int .i64 a1, .int .i32 a2] G (fun x _ => x = .int .i64 r) := by
  unfold metrics_Table_Width.f at h
  try simp only [rdc124, rdc124', rq_T134, rq_L2, rq_T87, rq_L5, rq_T124, rq_T89, rq_T99, rq_T38, rq_T90, rq_T56, rq_L13, rq_T25, rq_L15, rq_T66, rq_T113, rq_L18, rq_I, rq_bt, wrap64, bl, tl_eq, tl_lit, tl_nil, Bool.false_eq_true, if_false, if_true] at h
  refine does_walk 3 (F := cfg []) tb_ok mixed Try.func73 rfl (fun T hT => ?_)
  repeat' first
    | (show E3 _ _ _ _ _ _ _ _; first
      | refine oLd ?_
      | refine oW ?_
      | refine n_reg [0, 1, 2, 6, 7, 12, 13, 18] ?_
      | refine mB h (fun t ht h => oC (vC (fun G => runes_Kind.does ht G)) ?_)
      | refine mB h (fun t ht h => oC (vC (fun G => metrics_Table_of.does ht G)) ?_)
      | refine mB h (fun t ht h => oC (vC (fun G => metrics_lookup.does ht G)) ?_)
      | with_reducible refine mI h (fun hc h => ?_)
      | with_reducible refine mE h (fun hc h => ?_)
      | with_reducible refine mS h (fun h => ?_)
      | refine oWs ?_
      | refine oWl ?_)
    | (show E1 _ _ _ _ _ _ _; first
      | refine c_seq ?_
      | refine c_reg ?_
      | refine c_blk ?_
      | refine c_ret ?_
      | refine c_skip ?_
      | refine c_tt ?_
      | refine c_ff ?_
      | refine c_if h (fun hc h => ?_) (fun hc h => ?_)
      | refine c_fi h (fun hc h => ?_) (fun hc h => ?_)
      | with_reducible refine mI h (fun hc h => ?_)
      | with_reducible refine mE h (fun hc h => ?_)
      | with_reducible refine mS h (fun h => ?_)
      | refine c_ifs h (fun hc h => ?_) (fun hc h => ?_)
      | refine c_fis h (fun hc h => ?_) (fun hc h => ?_)
      | refine c_dt ?_
      | refine c_df ?_)
    | (show E2 _ _ _ _ _ _ _; first
      | refine n_seq ?_
      | (refine n_end hT ?_; cases h; first | rfl | exact congrArg AV.bool (by rw [Bool.eq_iff_iff]; simp)))
    | with_reducible refine mI h (fun hc h => ?_)
    | with_reducible refine mE h (fun hc h => ?_)
    | with_reducible refine mS h (fun h => ?_)
    | (rcases k with _ | k; (simp only [metrics_Table_Width.j0] at h; cases h); simp only [metrics_Table_Width.j0, rdc124, rdc124', rq_T134, rq_L2, rq_T87, rq_L5, rq_T124, rq_T89, rq_T99, rq_T38, rq_T90, rq_T56, rq_L13, rq_T25, rq_L15, rq_T66, rq_T113, rq_L18, rq_I, rq_bt, wrap64, bl, tl_eq, tl_lit, tl_nil, Bool.false_eq_true, if_false, if_true] at h)
    | refine mT h (fun h => ?_)
    | refine mF h (fun h => ?_)
    | (cases h; done)
end Go.AL.X
