/- What each function does: it answers as its model tells, and changes nothing (in 11 texts, numbered 3). -/
import Derived.Test.YtblmcdpfhdamjaaC0PaintEnough
import Derived.Test.YtblmcdpfhdamjaaTPaintEnough
namespace Go.AL.X
open Go.Proofs Go.Proofs.Ytblmcdpfhdamjaa.PPaintEnough
set_option linter.unusedVariables false
set_option linter.unusedSimpArgs false
set_option maxRecDepth 100000
set_option maxHeartbeats 16000000
theorem regletref05_Merged.does {k : Nat} {l0 : List (S89)} {r : ((List (S89)))} (h : regletref05_Merged.f k l0 = some r) (G : Objs) : Does Try.prog true 62 [.sl (l0.map Enc.enc)] G (fun x _ => x = .sl (r.map Enc.enc)) := by
  unfold regletref05_Merged.f at h
  try simp only [rdc124, rdc124', rq_T134, rq_L2, rq_T87, rq_L5, rq_T124, rq_T89, rq_T99, rq_T38, rq_T90, rq_T56, rq_L13, rq_T25, rq_L15, rq_T66, rq_T113, rq_L18, rq_I, rq_bt, wrap64, bl, tl_eq, tl_lit, tl_nil, Bool.false_eq_true, if_false, if_true] at h
  refine does_walk 1 (F := cfg [(6, 16), (7, 17)]) tb_ok mixed Try.func62 rfl (fun T hT => ?_)
  repeat' first
    | (show E3 _ _ _ _ _ _ _ _; first
      | refine oQ vL ?_
      | refine oQ vLv ?_
      | refine oQ vE ?_
      | refine oQ vEv ?_
      | refine oQ vEo ?_
      | refine oQ vpt ?_
      | refine oQ vpf ?_
      | refine oLe vLe ?_
      | refine oBS ?_
      | refine oLd ?_
      | refine oW ?_
      | refine n_reg [0, 2, 3, 4, 8, 16, 34] ?_
      | refine gYq vL ?_
      | refine gYq vLv ?_
      | refine gYq vE ?_
      | refine gYq vEv ?_
      | refine gYq vEo ?_
      | refine gYq vpt ?_
      | refine gYq vpf ?_
      | refine gLe vLe ?_
      | refine gN ?_
      | refine gNf ?_
      | refine gY ?_
      | refine gT ?_
      | refine oAv (⟨_, _⟩ : S89) ?_
      | refine oA (⟨_, _⟩ : S89) ?_
      | refine oAe (⟨_, _⟩ : S89) ?_
      | refine oMv ?_
      | refine oM ?_
      | refine oMe ?_
      | refine gif h (fun hc h => ?_) (fun hc h => ?_)
      | refine gfi h (fun hc h => ?_) (fun hc h => ?_)
      | with_reducible refine mI h (fun hc h => ?_)
      | with_reducible refine mE h (fun hc h => ?_)
      | with_reducible refine mS h (fun h => ?_)
      | refine oSf (α := S89) (β := Int) (fun y z => { y with f0 := z }) (fun z => AV.int .i64 z) ?_
      | refine oWs ?_
      | refine oWl ?_
      | refine gYs ?_
      | refine gifs h (fun hc h => ?_) (fun hc h => ?_)
      | refine gfis h (fun hc h => ?_) (fun hc h => ?_)
      | (fail_if_success (refine g_lit ?_)); refine g_dt ?_
      | (fail_if_success (refine g_lit ?_)); refine g_df ?_)
    | (show E1 _ _ _ _ _ _ _; first
      | refine c_seq ?_
      | refine c_reg ?_
      | refine c_drwf ?_
      | refine c_drw ?_
      | refine c_blk ?_
      | refine c_exit ?_
      | refine c_ret ?_
      | refine c_skip ?_
      | refine c_tt ?_
      | refine c_ff ?_
      | refine c_if h (fun hc h => ?_) (fun hc h => ?_)
      | refine c_fi h (fun hc h => ?_) (fun hc h => ?_)
      | with_reducible refine mI h (fun hc h => ?_)
      | with_reducible refine mE h (fun hc h => ?_)
      | with_reducible refine mS h (fun h => ?_)
      | refine c_ifs h (fun hc h => ?_) (fun hc h => ?_)
      | refine c_fis h (fun hc h => ?_) (fun hc h => ?_)
      | (refine lp3 (fun x0 x3 x4 => [(0, .sl (x0.map Enc.enc)), (3, .own 2 (x3.map Enc.enc)), (4, .int .i64 x4)]) (fun x0 x3 x4 => []) (fun k_ x0 x3 x4 => k_ ≤ k ∧ regletref05_Merged.l0 k_ x0 x3 x4 = some r) ⟨Nat.le_refl _, h⟩ ?_; intro k x0 x3 x4 h; obtain ⟨hk, h⟩ := h; rcases k with _ | k; (simp only [regletref05_Merged.l0] at h; cases h); simp only [regletref05_Merged.l0, rdc124, rdc124', rq_T134, rq_L2, rq_T87, rq_L5, rq_T124, rq_T89, rq_T99, rq_T38, rq_T90, rq_T56, rq_L13, rq_T25, rq_L15, rq_T66, rq_T113, rq_L18, rq_I, rq_bt, wrap64, bl, tl_eq, tl_lit, tl_nil, Bool.false_eq_true, if_false, if_true] at h)
      | refine c_dt ?_
      | refine c_df ?_)
    | (show E2 _ _ _ _ _ _ _; first
      | refine n_seq ?_
      | (refine n_end hT ?_; cases h; first | rfl | exact congrArg AV.bool (by rw [Bool.eq_iff_iff]; simp))
      | refine ag3 rfl ⟨by omega, h⟩)
    | (show E4 _ _ _ _ _ _ _; first
      | refine dQ vLe ?_
      | refine dQ vL ?_
      | refine dQ vLv ?_
      | refine dQ vE ?_
      | refine dQ vEv ?_
      | refine dQ vEo ?_
      | refine dQ vpt ?_
      | refine dQ vpf ?_
      | refine dW ?_
      | refine dE ?_
      | refine dYq vL ?_
      | refine dYq vLv ?_
      | refine dYq vE ?_
      | refine dYq vEv ?_
      | refine dYq vEo ?_
      | refine dYq vpt ?_
      | refine dYq vpf ?_
      | refine dYq vLe ?_
      | refine dN ?_
      | refine dNf ?_
      | refine dY ?_
      | refine dT ?_
      | refine dif_ h (fun hc h => ?_) (fun hc h => ?_)
      | refine dfi h (fun hc h => ?_) (fun hc h => ?_)
      | with_reducible refine mI h (fun hc h => ?_)
      | with_reducible refine mE h (fun hc h => ?_)
      | with_reducible refine mS h (fun h => ?_)
      | refine dif_s h (fun hc h => ?_) (fun hc h => ?_)
      | refine dfis h (fun hc h => ?_) (fun hc h => ?_))
    | (show E5 _ _ _ _ _ _ _; first
      | refine tSf (α := S89) (β := Int) (fun y z => { y with f0 := z }) (fun z => AV.int .i64 z) ?_
      | refine tQ vL ?_
      | refine tQ vLv ?_
      | refine tQ vE ?_
      | refine tQ vEv ?_
      | refine tQ vEo ?_
      | refine tQ vpt ?_
      | refine tQ vpf ?_
      | refine tYq vL ?_
      | refine tYq vLv ?_
      | refine tYq vE ?_
      | refine tYq vEv ?_
      | refine tYq vEo ?_
      | refine tYq vpt ?_
      | refine tYq vpf ?_
      | refine tN ?_
      | refine tNf ?_
      | refine tY ?_
      | refine tT ?_
      | refine tW ?_
      | refine n_drw [0, 2, 3, 4, 8, 16, 34] ?_
      | refine tif h (fun hc h => ?_) (fun hc h => ?_)
      | refine tfi h (fun hc h => ?_) (fun hc h => ?_)
      | with_reducible refine mI h (fun hc h => ?_)
      | with_reducible refine mE h (fun hc h => ?_)
      | with_reducible refine mS h (fun h => ?_))
    | with_reducible refine mI h (fun hc h => ?_)
    | with_reducible refine mE h (fun hc h => ?_)
    | with_reducible refine mS h (fun h => ?_)
    | refine mT h (fun h => ?_)
    | refine mF h (fun h => ?_)
    | (cases h; done)
theorem regletref05_Same.does {k : Nat} {l0 : List (S89)} {l1 : List (S89)} {r : (Bool)} (h : regletref05_Same.f k l0 l1 = some r) (G : Objs) : Does Try.prog true 83 [.sl (l0.map Enc.enc), .sl (l1.map Enc.enc)] G (fun x _ => x = .bool r) := by
  unfold regletref05_Same.f at h
  try simp only [rdc124, rdc124', rq_T134, rq_L2, rq_T87, rq_L5, rq_T124, rq_T89, rq_T99, rq_T38, rq_T90, rq_T56, rq_L13, rq_T25, rq_L15, rq_T66, rq_T113, rq_L18, rq_I, rq_bt, wrap64, bl, tl_eq, tl_lit, tl_nil, Bool.false_eq_true, if_false, if_true] at h
  refine does_walk 2 (F := cfg [(6, 8)]) tb_ok mixed Try.func83 rfl (fun T hT => ?_)
  repeat' first
    | (show E3 _ _ _ _ _ _ _ _; first
      | refine oQ vL ?_
      | refine oQ vE ?_
      | refine oLd ?_
      | refine oW ?_
      | refine n_reg [0, 1, 4, 5, 10, 14, 25] ?_
      | with_reducible refine mI h (fun hc h => ?_)
      | with_reducible refine mE h (fun hc h => ?_)
      | with_reducible refine mS h (fun h => ?_)
      | refine oWs ?_)
    | (show E1 _ _ _ _ _ _ _; first
      | refine c_seq ?_
      | refine c_reg ?_
      | refine c_drwf ?_
      | refine c_drw ?_
      | refine c_blk ?_
      | refine c_exit ?_
      | refine c_ret ?_
      | refine c_skip ?_
      | refine c_tt ?_
      | refine c_ff ?_
      | refine c_if h (fun hc h => ?_) (fun hc h => ?_)
      | refine c_fi h (fun hc h => ?_) (fun hc h => ?_)
      | with_reducible refine mI h (fun hc h => ?_)
      | with_reducible refine mE h (fun hc h => ?_)
      | with_reducible refine mS h (fun h => ?_)
      | refine c_ifs h (fun hc h => ?_) (fun hc h => ?_)
      | refine c_fis h (fun hc h => ?_) (fun hc h => ?_)
      | (refine lp3 (fun x0 x1 x5 => [(0, .sl (x0.map Enc.enc)), (1, .sl (x1.map Enc.enc)), (5, .int .i64 x5)]) (fun x0 x1 x5 => []) (fun k_ x0 x1 x5 => k_ ≤ k ∧ regletref05_Same.l0 k_ x0 x1 x5 = some r) ⟨Nat.le_refl _, h⟩ ?_; intro k x0 x1 x5 h; obtain ⟨hk, h⟩ := h; rcases k with _ | k; (simp only [regletref05_Same.l0] at h; cases h); simp only [regletref05_Same.l0, rdc124, rdc124', rq_T134, rq_L2, rq_T87, rq_L5, rq_T124, rq_T89, rq_T99, rq_T38, rq_T90, rq_T56, rq_L13, rq_T25, rq_L15, rq_T66, rq_T113, rq_L18, rq_I, rq_bt, wrap64, bl, tl_eq, tl_lit, tl_nil, Bool.false_eq_true, if_false, if_true] at h)
      | refine c_dt ?_
      | refine c_df ?_)
    | (show E2 _ _ _ _ _ _ _; first
      | refine n_seq ?_
      | (refine n_end hT ?_; cases h; first | rfl | exact congrArg AV.bool (by rw [Bool.eq_iff_iff]; simp))
      | refine ag3 rfl ⟨by omega, h⟩)
    | (show E4 _ _ _ _ _ _ _; first
      | refine dQ vL ?_
      | refine dQ vE ?_
      | refine dW ?_
      | refine dE ?_)
    | (show E5 _ _ _ _ _ _ _; first
      | refine tQ vL ?_
      | refine tQ vE ?_
      | refine tW ?_
      | refine n_drw [0, 1, 4, 5, 10, 14, 25] ?_)
    | with_reducible refine mI h (fun hc h => ?_)
    | with_reducible refine mE h (fun hc h => ?_)
    | with_reducible refine mS h (fun h => ?_)
    | refine mT h (fun h => ?_)
    | refine mF h (fun h => ?_)
    | (cases h; done)
theorem regletlaw21_touched.does {k : Nat} {l0 : List (S56)} {a1 : Int} {a2_0 : ByteArray} {l2_1 : List (S89)} {a2_2 : Int} {a2_3 : Int} {a2_4 : Int} {a2_5 : Bool} {a2_6 : Int} {a2_7 : Bool} {a2_8 : Bool} {r : (Bool)} (h : regletlaw21_touched.f k l0 a1 a2_0 l2_1 a2_2 a2_3 a2_4 a2_5 a2_6 a2_7 a2_8 = some r) (G : Objs) : Does Try.prog true 32 [.sl (l0.map Enc.enc), .int .i64 a1, .agg [.str a2_0, .sl (l2_1.map Enc.enc), .int .i64 a2_2, .int .i64 a2_3, .int .i64 a2_4, .bool a2_5, .int .i64 a2_6, .bool a2_7, .bool a2_8]] G (fun x _ => x = .bool r) := by
  unfold regletlaw21_touched.f at h
  try simp only [rdc124, rdc124', rq_T134, rq_L2, rq_T87, rq_L5, rq_T124, rq_T89, rq_T99, rq_T38, rq_T90, rq_T56, rq_L13, rq_T25, rq_L15, rq_T66, rq_T113, rq_L18, rq_I, rq_bt, wrap64, bl, tl_eq, tl_lit, tl_nil, Bool.false_eq_true, if_false, if_true] at h
  refine does_walk 3 (F := cfg [(4, 28)]) tb_ok mixed Try.func32 rfl (fun T hT => ?_)
  repeat' first
    | (show E3 _ _ _ _ _ _ _ _; first
      | refine oQ vL ?_
      | refine oQ vE ?_
      | refine oQ vpt ?_
      | refine oQ vpf ?_
      | refine oW ?_
      | refine n_reg [0, 1, 2, 5, 6, 7, 11, 43] ?_
      | refine gYq vL ?_
      | refine gYq vE ?_
      | refine gYq vpt ?_
      | refine gYq vpf ?_
      | refine gN ?_
      | refine gNf ?_
      | refine gY ?_
      | refine gT ?_
      | refine gif h (fun hc h => ?_) (fun hc h => ?_)
      | refine gfi h (fun hc h => ?_) (fun hc h => ?_)
      | with_reducible refine mI h (fun hc h => ?_)
      | with_reducible refine mE h (fun hc h => ?_)
      | with_reducible refine mS h (fun h => ?_)
      | refine oWs ?_
      | refine oWl ?_
      | refine gYs ?_
      | refine gifs h (fun hc h => ?_) (fun hc h => ?_)
      | refine gfis h (fun hc h => ?_) (fun hc h => ?_)
      | (fail_if_success (refine g_lit ?_)); refine g_dt ?_
      | (fail_if_success (refine g_lit ?_)); refine g_df ?_)
    | (show E1 _ _ _ _ _ _ _; first
      | refine c_seq ?_
      | refine c_reg ?_
      | refine c_drwf ?_
      | refine c_drw ?_
      | refine c_blk ?_
      | refine c_exit ?_
      | refine c_ret ?_
      | refine c_skip ?_
      | refine c_tt ?_
      | refine c_ff ?_
      | refine c_if h (fun hc h => ?_) (fun hc h => ?_)
      | refine c_fi h (fun hc h => ?_) (fun hc h => ?_)
      | with_reducible refine mI h (fun hc h => ?_)
      | with_reducible refine mE h (fun hc h => ?_)
      | with_reducible refine mS h (fun h => ?_)
      | refine c_ifs h (fun hc h => ?_) (fun hc h => ?_)
      | refine c_fis h (fun hc h => ?_) (fun hc h => ?_)
      | (refine lp12 (fun x0 x1 x7 x424000 x424001 x424002 x424003 x424004 x424005 x424006 x424007 x424008 => [(0, .sl (x0.map Enc.enc)), (1, .int .i64 x1), (7, .int .i64 x7), (5, .lptr 5 0)]) (fun x0 x1 x7 x424000 x424001 x424002 x424003 x424004 x424005 x424006 x424007 x424008 => [(5, [.str x424000, .sl (x424001.map Enc.enc), .int .i64 x424002, .int .i64 x424003, .int .i64 x424004, .bool x424005, .int .i64 x424006, .bool x424007, .bool x424008])]) (fun k_ x0 x1 x7 x424000 x424001 x424002 x424003 x424004 x424005 x424006 x424007 x424008 => k_ ≤ k ∧ regletlaw21_touched.l0 k_ x0 x1 x7 x424000 x424001 x424002 x424003 x424004 x424005 x424006 x424007 x424008 = some r) ⟨Nat.le_refl _, h⟩ ?_; intro k x0 x1 x7 x424000 x424001 x424002 x424003 x424004 x424005 x424006 x424007 x424008 h; obtain ⟨hk, h⟩ := h; rcases k with _ | k; (simp only [regletlaw21_touched.l0] at h; cases h); simp only [regletlaw21_touched.l0, rdc124, rdc124', rq_T134, rq_L2, rq_T87, rq_L5, rq_T124, rq_T89, rq_T99, rq_T38, rq_T90, rq_T56, rq_L13, rq_T25, rq_L15, rq_T66, rq_T113, rq_L18, rq_I, rq_bt, wrap64, bl, tl_eq, tl_lit, tl_nil, Bool.false_eq_true, if_false, if_true] at h)
      | refine c_dt ?_
      | refine c_df ?_)
    | (show E2 _ _ _ _ _ _ _; first
      | refine n_seq ?_
      | (refine n_end hT ?_; cases h; first | rfl | exact congrArg AV.bool (by rw [Bool.eq_iff_iff]; simp))
      | refine ag12 rfl ⟨by omega, h⟩)
    | (show E4 _ _ _ _ _ _ _; first
      | refine dQ vL ?_
      | refine dQ vE ?_
      | refine dQ vpt ?_
      | refine dQ vpf ?_
      | refine dW ?_
      | refine dE ?_
      | refine dYq vL ?_
      | refine dYq vE ?_
      | refine dYq vpt ?_
      | refine dYq vpf ?_
      | refine dN ?_
      | refine dNf ?_
      | refine dY ?_
      | refine dT ?_
      | refine dif_ h (fun hc h => ?_) (fun hc h => ?_)
      | refine dfi h (fun hc h => ?_) (fun hc h => ?_)
      | with_reducible refine mI h (fun hc h => ?_)
      | with_reducible refine mE h (fun hc h => ?_)
      | with_reducible refine mS h (fun h => ?_)
      | refine dif_s h (fun hc h => ?_) (fun hc h => ?_)
      | refine dfis h (fun hc h => ?_) (fun hc h => ?_))
    | (show E5 _ _ _ _ _ _ _; first
      | refine tQ vL ?_
      | refine tQ vE ?_
      | refine tQ vpt ?_
      | refine tQ vpf ?_
      | refine tYq vL ?_
      | refine tYq vE ?_
      | refine tYq vpt ?_
      | refine tYq vpf ?_
      | refine tN ?_
      | refine tNf ?_
      | refine tY ?_
      | refine tT ?_
      | refine tW ?_
      | refine n_drw [0, 1, 2, 5, 6, 7, 11, 43] ?_
      | refine tif h (fun hc h => ?_) (fun hc h => ?_)
      | refine tfi h (fun hc h => ?_) (fun hc h => ?_)
      | with_reducible refine mI h (fun hc h => ?_)
      | with_reducible refine mE h (fun hc h => ?_)
      | with_reducible refine mS h (fun h => ?_))
    | with_reducible refine mI h (fun hc h => ?_)
    | with_reducible refine mE h (fun hc h => ?_)
    | with_reducible refine mS h (fun h => ?_)
    | refine mT h (fun h => ?_)
    | refine mF h (fun h => ?_)
    | (cases h; done)
theorem regletref04_Style.does {k : Nat} {a0_0 : Int} {a0_1 : Int} {a0_2 : Int} {a0_3 : Int} {a0_4 : Int} {a0_5 : Int} {l0_6 : List (S134)} {a0_7 : Bool} {r : (Int)} (h : regletref04_Style.f k a0_0 a0_1 a0_2 a0_3 a0_4 a0_5 l0_6 a0_7 = some r) (G : Objs) : Does Try.prog true 69 [.agg [.int .i64 a0_0, .int .i64 a0_1, .int .i64 a0_2, .int .i64 a0_3, .int .i64 a0_4, .int .i64 a0_5, .sl (l0_6.map Enc.enc), .bool a0_7]] G (fun x _ => x = .int .i64 r) := by
  unfold regletref04_Style.f at h
  try simp only [rdc124, rdc124', rq_T134, rq_L2, rq_T87, rq_L5, rq_T124, rq_T89, rq_T99, rq_T38, rq_T90, rq_T56, rq_L13, rq_T25, rq_L15, rq_T66, rq_T113, rq_L18, rq_I, rq_bt, wrap64, bl, tl_eq, tl_lit, tl_nil, Bool.false_eq_true, if_false, if_true] at h
  refine does_walk 1 (F := cfg [(15, 28)]) tb_ok mixed Try.func69 rfl (fun T hT => ?_)
  repeat' first
    | (show E3 _ _ _ _ _ _ _ _; first
      | refine oQ vL ?_
      | refine oQ vE ?_
      | refine oQ vpt ?_
      | refine oQ vpf ?_
      | refine oBS ?_
      | refine oLd ?_
      | refine oW ?_
      | refine n_reg [0, 1, 2, 3, 4, 5, 6, 21, 29, 40, 44, 49, 91, 95] ?_
      | refine gYq vL ?_
      | refine gYq vE ?_
      | refine gYq vpt ?_
      | refine gYq vpf ?_
      | refine gN ?_
      | refine gNf ?_
      | refine gY ?_
      | refine gT ?_
      | refine mB h (fun t ht h => oC (vC (fun G => regletref04_fits.does ht G)) ?_)
      | refine gif h (fun hc h => ?_) (fun hc h => ?_)
      | refine gfi h (fun hc h => ?_) (fun hc h => ?_)
      | with_reducible refine mI h (fun hc h => ?_)
      | with_reducible refine mE h (fun hc h => ?_)
      | with_reducible refine mS h (fun h => ?_)
      | refine oWs ?_
      | refine oWl ?_
      | refine gYs ?_
      | refine gifs h (fun hc h => ?_) (fun hc h => ?_)
      | refine gfis h (fun hc h => ?_) (fun hc h => ?_)
      | (fail_if_success (refine g_lit ?_)); refine g_dt ?_
      | (fail_if_success (refine g_lit ?_)); refine g_df ?_)
    | (show E1 _ _ _ _ _ _ _; first
      | refine c_seq ?_
      | refine c_reg ?_
      | refine c_drwf ?_
      | refine c_drw ?_
      | refine c_blk ?_
      | refine c_exit ?_
      | refine c_ret ?_
      | refine c_skip ?_
      | refine c_tt ?_
      | refine c_ff ?_
      | refine c_if h (fun hc h => ?_) (fun hc h => ?_)
      | refine c_fi h (fun hc h => ?_) (fun hc h => ?_)
      | with_reducible refine mI h (fun hc h => ?_)
      | with_reducible refine mE h (fun hc h => ?_)
      | with_reducible refine mS h (fun h => ?_)
      | refine c_ifs h (fun hc h => ?_) (fun hc h => ?_)
      | refine c_fis h (fun hc h => ?_) (fun hc h => ?_)
      | (refine lp10 (fun x3 x4 x102000 x102001 x102002 x102003 x102004 x102005 x102006 x102007 => [(3, .sl (x3.map Enc.enc)), (4, .int .i64 x4), (1, .lptr 1 0)]) (fun x3 x4 x102000 x102001 x102002 x102003 x102004 x102005 x102006 x102007 => [(1, [.int .i64 x102000, .int .i64 x102001, .int .i64 x102002, .int .i64 x102003, .int .i64 x102004, .int .i64 x102005, .sl (x102006.map Enc.enc), .bool x102007])]) (fun k_ x3 x4 x102000 x102001 x102002 x102003 x102004 x102005 x102006 x102007 => k_ ≤ k ∧ regletref04_Style.l0 k_ x3 x4 x102000 x102001 x102002 x102003 x102004 x102005 x102006 x102007 = some r) ⟨Nat.le_refl _, h⟩ ?_; intro k x3 x4 x102000 x102001 x102002 x102003 x102004 x102005 x102006 x102007 h; obtain ⟨hk, h⟩ := h; rcases k with _ | k; (simp only [regletref04_Style.l0] at h; cases h); simp only [regletref04_Style.l0, rdc124, rdc124', rq_T134, rq_L2, rq_T87, rq_L5, rq_T124, rq_T89, rq_T99, rq_T38, rq_T90, rq_T56, rq_L13, rq_T25, rq_L15, rq_T66, rq_T113, rq_L18, rq_I, rq_bt, wrap64, bl, tl_eq, tl_lit, tl_nil, Bool.false_eq_true, if_false, if_true] at h)
      | (refine lp9 (fun x5 x102000 x102001 x102002 x102003 x102004 x102005 x102006 x102007 => [(5, .int .i64 x5), (1, .lptr 1 0)]) (fun x5 x102000 x102001 x102002 x102003 x102004 x102005 x102006 x102007 => [(1, [.int .i64 x102000, .int .i64 x102001, .int .i64 x102002, .int .i64 x102003, .int .i64 x102004, .int .i64 x102005, .sl (x102006.map Enc.enc), .bool x102007])]) (fun k_ x5 x102000 x102001 x102002 x102003 x102004 x102005 x102006 x102007 => k_ ≤ k ∧ regletref04_Style.l1 k_ x5 x102000 x102001 x102002 x102003 x102004 x102005 x102006 x102007 = some r) ⟨Nat.le_refl _, h⟩ ?_; intro k x5 x102000 x102001 x102002 x102003 x102004 x102005 x102006 x102007 h; obtain ⟨hk, h⟩ := h; rcases k with _ | k; (simp only [regletref04_Style.l1] at h; cases h); simp only [regletref04_Style.l1, rdc124, rdc124', rq_T134, rq_L2, rq_T87, rq_L5, rq_T124, rq_T89, rq_T99, rq_T38, rq_T90, rq_T56, rq_L13, rq_T25, rq_L15, rq_T66, rq_T113, rq_L18, rq_I, rq_bt, wrap64, bl, tl_eq, tl_lit, tl_nil, Bool.false_eq_true, if_false, if_true] at h)
      | refine c_dt ?_
      | refine c_df ?_)
    | (show E2 _ _ _ _ _ _ _; first
      | refine n_seq ?_
      | (refine n_end hT ?_; cases h; first | rfl | exact congrArg AV.bool (by rw [Bool.eq_iff_iff]; simp))
      | refine ag9 rfl ⟨by omega, h⟩
      | refine ag10 rfl ⟨by omega, h⟩)
    | (show E4 _ _ _ _ _ _ _; first
      | refine dQ vL ?_
      | refine dQ vE ?_
      | refine dQ vpt ?_
      | refine dQ vpf ?_
      | refine dW ?_
      | refine dE ?_
      | refine dYq vL ?_
      | refine dYq vE ?_
      | refine dYq vpt ?_
      | refine dYq vpf ?_
      | refine dN ?_
      | refine dNf ?_
      | refine dY ?_
      | refine dT ?_
      | refine dif_ h (fun hc h => ?_) (fun hc h => ?_)
      | refine dfi h (fun hc h => ?_) (fun hc h => ?_)
      | with_reducible refine mI h (fun hc h => ?_)
      | with_reducible refine mE h (fun hc h => ?_)
      | with_reducible refine mS h (fun h => ?_)
      | refine dif_s h (fun hc h => ?_) (fun hc h => ?_)
      | refine dfis h (fun hc h => ?_) (fun hc h => ?_))
    | (show E5 _ _ _ _ _ _ _; first
      | refine tQ vL ?_
      | refine tQ vE ?_
      | refine tQ vpt ?_
      | refine tQ vpf ?_
      | refine tYq vL ?_
      | refine tYq vE ?_
      | refine tYq vpt ?_
      | refine tYq vpf ?_
      | refine tN ?_
      | refine tNf ?_
      | refine tY ?_
      | refine tT ?_
      | refine tW ?_
      | refine n_drw [0, 1, 2, 3, 4, 5, 6, 21, 29, 40, 44, 49, 91, 95] ?_
      | refine tif h (fun hc h => ?_) (fun hc h => ?_)
      | refine tfi h (fun hc h => ?_) (fun hc h => ?_)
      | with_reducible refine mI h (fun hc h => ?_)
      | with_reducible refine mE h (fun hc h => ?_)
      | with_reducible refine mS h (fun h => ?_))
    | with_reducible refine mI h (fun hc h => ?_)
    | with_reducible refine mE h (fun hc h => ?_)
    | with_reducible refine mS h (fun h => ?_)
    | (rcases k with _ | k; (simp only [regletref04_Style.j1] at h; cases h); simp only [regletref04_Style.j1, rdc124, rdc124', rq_T134, rq_L2, rq_T87, rq_L5, rq_T124, rq_T89, rq_T99, rq_T38, rq_T90, rq_T56, rq_L13, rq_T25, rq_L15, rq_T66, rq_T113, rq_L18, rq_I, rq_bt, wrap64, bl, tl_eq, tl_lit, tl_nil, Bool.false_eq_true, if_false, if_true] at h)
    | (rcases k with _ | k; (simp only [regletref04_Style.j3] at h; cases h); simp only [regletref04_Style.j3, rdc124, rdc124', rq_T134, rq_L2, rq_T87, rq_L5, rq_T124, rq_T89, rq_T99, rq_T38, rq_T90, rq_T56, rq_L13, rq_T25, rq_L15, rq_T66, rq_T113, rq_L18, rq_I, rq_bt, wrap64, bl, tl_eq, tl_lit, tl_nil, Bool.false_eq_true, if_false, if_true] at h)
    | refine mT h (fun h => ?_)
    | refine mF h (fun h => ?_)
    | (cases h; done)
end Go.AL.X
