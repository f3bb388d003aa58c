/- What each function does: it answers as its model tells, and changes nothing (in 3 texts, numbered 2). -/
import Derived.Test.YtiabffkfabmlpaaC0LocateStops
namespace Go.AL.X
open Go.Proofs Go.Proofs.Ytiabffkfabmlpaa.PLocateStops
set_option linter.unusedVariables false
set_option linter.unusedSimpArgs false
set_option maxRecDepth 100000
set_option maxHeartbeats 800000
theorem locate_Stops.does {k : Nat} {l0 : S98} {l0s : List S98} {a1_0 : ByteArray} {l1_1 : List (S75)} {a1_2 : Int} {a1_3 : Int} {a1_4 : Int} {a1_5 : Bool} {a1_6 : Int} {a1_7 : Bool} {a1_8 : Bool} {r : ((List (S43)))} (h : locate_Stops.f k (l0 :: l0s) a1_0 l1_1 a1_2 a1_3 a1_4 a1_5 a1_6 a1_7 a1_8 = some r) (G : Objs) : Does Try.prog true 13 [.ptrF (Enc.enc l0), .agg [.str a1_0, .sl (l1_1.map Enc.enc), .int .i64 a1_2, .int .i64 a1_3, .int .i64 a1_4, .bool a1_5, .int .i64 a1_6, .bool a1_7, .bool a1_8]] G (fun x _ => x = .sl (r.map Enc.enc)) := by
  unfold locate_Stops.f at h
  try simp only [rdc98, rdc98', rq_T110, rq_L2, rq_T73, rq_L5, rq_T98, rq_T75, rq_T43, rq_L9, rq_T44, rq_L12, rq_T28, rq_I, rq_bt, wrap64] at h
  refine does_walk 2 (F := cfg []) tb_ok mixed Try.func13 rfl (fun T hT => ?_)
  repeat' first
    | (show E3 _ _ _ _ _ _ _ _; first
      | refine oBS ?_
      | refine oB ?_
      | refine oLd ?_
      | refine oW ?_
      | refine n_reg [0, 1, 3, 4, 5, 6, 7, 8, 9, 10, 16, 17, 18, 31, 41] ?_
      | refine oAv (⟨_, _⟩ : S43) ?_
      | refine oA (⟨_, _⟩ : S43) ?_
      | refine oAe (⟨_, _⟩ : S43) ?_
      | refine oAl (⟨_, _⟩ : S43) ?_
      | refine oMv ?_
      | refine oM ?_
      | refine oMe ?_
      | refine oMl ?_
      | refine mB h (fun t ht h => oC (vC (fun G => locate_shown.does ht G)) ?_)
      | refine mB h (fun t ht h => oC (vC (fun G => locate_styleAt.does ht G)) ?_)
      | refine mB h (fun t ht h => oC (vC (fun G => runes_Kind.does ht G)) ?_)
      | refine mB h (fun t ht h => oC (vC (fun G => scaled_Add.does ht G)) ?_)
      | refine mB h (fun t ht h => oC (vC (fun G => metrics_Table_Width.does ht G)) ?_)
      | refine mB h (fun t ht h => oC (vC (fun G => locate_space.does ht G)) ?_)
      | refine fz 12 ?_
      | refine fz 28 ?_
      | refine fz 29 ?_
      | refine fz 32 ?_
      | refine fz 36 ?_
      | refine fz 37 ?_
      | refine fz 38 ?_
      | refine fz 35 ?_
      | refine fz 39 ?_
      | refine fz 46 ?_
      | refine fz 47 ?_
      | refine fz 48 ?_
      | refine fz 45 ?_
      | refine fz 49 ?_
      | refine oNx h (fun hc h => ?_) (fun hc h => ?_)
      | with_reducible refine mI h (fun hc h => ?_)
      | with_reducible refine mE h (fun hc h => ?_)
      | with_reducible refine mS h (fun h => ?_)
      | refine oWs ?_
      | refine oWl ?_)
    | (show E1 _ _ _ _ _ _ _; first
      | refine c_seq ?_
      | refine c_reg ?_
      | refine c_blk ?_
      | refine c_exit ?_
      | refine c_ret ?_
      | refine c_skip ?_
      | refine c_tt ?_
      | refine c_ff ?_
      | refine c_if h (fun hc h => ?_) (fun hc h => ?_)
      | refine c_fi h (fun hc h => ?_) (fun hc h => ?_)
      | with_reducible refine mI h (fun hc h => ?_)
      | with_reducible refine mE h (fun hc h => ?_)
      | with_reducible refine mS h (fun h => ?_)
      | refine c_ifs h (fun hc h => ?_) (fun hc h => ?_)
      | refine c_fis h (fun hc h => ?_) (fun hc h => ?_)
      | (refine lp16 (fun x0 x0s x5 x6 x7 x220000 x220001 x220002 x220003 x220004 x220005 x220006 x220007 x220008 x222000 x222001 => [(0, .ptrF (Enc.enc x0)), (5, .own 2 (x5.map Enc.enc)), (6, .int .i64 x6), (7, .int .i64 x7), (3, .lptr 3 0), (16, .iter x222000 x222001.toNat)]) (fun x0 x0s x5 x6 x7 x220000 x220001 x220002 x220003 x220004 x220005 x220006 x220007 x220008 x222000 x222001 => [(3, [.str x220000, .sl (x220001.map Enc.enc), .int .i64 x220002, .int .i64 x220003, .int .i64 x220004, .bool x220005, .int .i64 x220006, .bool x220007, .bool x220008])]) (fun k_ x0 x0s x5 x6 x7 x220000 x220001 x220002 x220003 x220004 x220005 x220006 x220007 x220008 x222000 x222001 => k_ ≤ k ∧ locate_Stops.l0 k_ (x0 :: x0s) x5 x6 x7 x220000 x220001 x220002 x220003 x220004 x220005 x220006 x220007 x220008 x222000 x222001 = some r) ⟨Nat.le_refl _, h⟩ ?_; intro k x0 x0s x5 x6 x7 x220000 x220001 x220002 x220003 x220004 x220005 x220006 x220007 x220008 x222000 x222001 h; obtain ⟨hk, h⟩ := h; rcases k with _ | k; (simp only [locate_Stops.l0] at h; cases h); simp only [locate_Stops.l0, rdc98, rdc98', rq_T110, rq_L2, rq_T73, rq_L5, rq_T98, rq_T75, rq_T43, rq_L9, rq_T44, rq_L12, rq_T28, rq_I, rq_bt, wrap64, itP_] at h)
      | refine c_dt ?_
      | refine c_df ?_)
    | (show E2 _ _ _ _ _ _ _; first
      | refine n_seq ?_
      | (refine n_end hT ?_; cases h; first | rfl | exact congrArg AV.bool (by rw [Bool.eq_iff_iff]; simp))
      | refine ag16 rfl ⟨by omega, h⟩)
    | with_reducible refine mI h (fun hc h => ?_)
    | with_reducible refine mE h (fun hc h => ?_)
    | with_reducible refine mS h (fun h => ?_)
    | refine mT h (fun h => ?_)
    | refine mF h (fun h => ?_)
    | (cases h; done)
theorem regletlaw15_awake.does {k : Nat} {r : (Bool)} (h : regletlaw15_awake.f k = some r) (G : Objs) : Does Try.prog true 9 [] G (fun x _ => x = .bool r) := by
  unfold regletlaw15_awake.f at h
  try simp only [rdc98, rdc98', rq_T110, rq_L2, rq_T73, rq_L5, rq_T98, rq_T75, rq_T43, rq_L9, rq_T44, rq_L12, rq_T28, rq_I, rq_bt, wrap64] at h
  refine does_walk 0 (F := cfg []) tb_ok mixed Try.func9 rfl (fun T hT => ?_)
  repeat' first
    | (show E3 _ _ _ _ _ _ _ _; first
      | refine oQ vL ?_
      | refine oQ vE ?_
      | refine oQ vpt ?_
      | refine oQ vpf ?_
      | refine oBS ?_
      | refine oB ?_
      | refine oLd ?_
      | refine oW ?_
      | refine n_reg [0, 1, 2, 7] ?_
      | refine gYq vL ?_
      | refine gYq vE ?_
      | refine gYq vpt ?_
      | refine gYq vpf ?_
      | refine gLd ?_
      | refine gB ?_
      | refine gN ?_
      | refine gNf ?_
      | refine gY ?_
      | refine gT ?_
      | (refine mB h (fun t ht h => ?_); rcases t with (_ | ⟨p0, ps0⟩) <;> refine oC (vC (fun G => regletlaw15_table.does ht G)) ?_)
      | refine mB h (fun t ht h => oC (vC (fun G => locate_Stops.does ht G)) ?_)
      | refine gif h (fun hc h => ?_) (fun hc h => ?_)
      | refine gfi h (fun hc h => ?_) (fun hc h => ?_)
      | with_reducible refine mI h (fun hc h => ?_)
      | with_reducible refine mE h (fun hc h => ?_)
      | with_reducible refine mS h (fun h => ?_)
      | refine oWs ?_
      | refine gYs ?_
      | refine gifs h (fun hc h => ?_) (fun hc h => ?_)
      | refine gfis h (fun hc h => ?_) (fun hc h => ?_)
      | (fail_if_success (refine g_lit ?_)); refine g_dt ?_
      | (fail_if_success (refine g_lit ?_)); refine g_df ?_)
    | (show E1 _ _ _ _ _ _ _; first
      | refine c_seq ?_
      | refine c_reg ?_
      | refine c_ret ?_
      | refine c_skip ?_
      | refine c_tt ?_
      | refine c_ff ?_
      | refine c_if h (fun hc h => ?_) (fun hc h => ?_)
      | refine c_fi h (fun hc h => ?_) (fun hc h => ?_)
      | with_reducible refine mI h (fun hc h => ?_)
      | with_reducible refine mE h (fun hc h => ?_)
      | with_reducible refine mS h (fun h => ?_)
      | refine c_ifs h (fun hc h => ?_) (fun hc h => ?_)
      | refine c_fis h (fun hc h => ?_) (fun hc h => ?_)
      | refine c_dt ?_
      | refine c_df ?_)
    | (show E2 _ _ _ _ _ _ _; first
      | refine n_seq ?_
      | (refine n_end hT ?_; cases h; first | rfl | exact congrArg AV.bool (by rw [Bool.eq_iff_iff]; simp)))
    | with_reducible refine mI h (fun hc h => ?_)
    | with_reducible refine mE h (fun hc h => ?_)
    | with_reducible refine mS h (fun h => ?_)
    | refine mT h (fun h => ?_)
    | refine mF h (fun h => ?_)
    | (cases h; done)
theorem regletref02_value.does {k : Nat} {a0 : ByteArray} {a1 : Int} {a2 : Int} {r : (Int)} (h : regletref02_value.f k a0 a1 a2 = some r) (G : Objs) : Does Try.prog true 64 [.str a0, .int .i64 a1, .int .i64 a2] G (fun x _ => x = .int .i64 r) := by
  unfold regletref02_value.f at h
  try simp only [rdc98, rdc98', rq_T110, rq_L2, rq_T73, rq_L5, rq_T98, rq_T75, rq_T43, rq_L9, rq_T44, rq_L12, rq_T28, rq_I, rq_bt, wrap64] at h
  refine does_walk 3 (F := cfg []) tb_ok mixed Try.func64 rfl (fun T hT => ?_)
  repeat' first
    | (show E3 _ _ _ _ _ _ _ _; first
      | refine oQ vB ?_
      | refine oW ?_
      | refine n_reg [0, 1, 2, 6, 7, 8, 9, 15, 24] ?_
      | with_reducible refine mI h (fun hc h => ?_)
      | with_reducible refine mE h (fun hc h => ?_)
      | with_reducible refine mS h (fun h => ?_)
      | refine oWs ?_)
    | (show E1 _ _ _ _ _ _ _; first
      | refine c_seq ?_
      | refine c_reg ?_
      | refine c_blk ?_
      | refine c_exit ?_
      | refine c_ret ?_
      | refine c_skip ?_
      | refine c_tt ?_
      | refine c_ff ?_
      | refine c_if h (fun hc h => ?_) (fun hc h => ?_)
      | refine c_fi h (fun hc h => ?_) (fun hc h => ?_)
      | with_reducible refine mI h (fun hc h => ?_)
      | with_reducible refine mE h (fun hc h => ?_)
      | with_reducible refine mS h (fun h => ?_)
      | refine c_ifs h (fun hc h => ?_) (fun hc h => ?_)
      | refine c_fis h (fun hc h => ?_) (fun hc h => ?_)
      | (refine lp5 (fun x0 x1 x2 x8 x9 => [(0, .str x0), (1, .int .i64 x1), (2, .int .i64 x2), (8, .int .i64 x8), (9, .int .i64 x9)]) (fun x0 x1 x2 x8 x9 => []) (fun k_ x0 x1 x2 x8 x9 => k_ ≤ k ∧ regletref02_value.l0 k_ x0 x1 x2 x8 x9 = some r) ⟨Nat.le_refl _, h⟩ ?_; intro k x0 x1 x2 x8 x9 h; obtain ⟨hk, h⟩ := h; rcases k with _ | k; (simp only [regletref02_value.l0] at h; cases h); simp only [regletref02_value.l0, rdc98, rdc98', rq_T110, rq_L2, rq_T73, rq_L5, rq_T98, rq_T75, rq_T43, rq_L9, rq_T44, rq_L12, rq_T28, rq_I, rq_bt, wrap64] at h)
      | refine c_dt ?_
      | refine c_df ?_)
    | (show E2 _ _ _ _ _ _ _; first
      | refine n_seq ?_
      | (refine n_end hT ?_; cases h; first | rfl | exact congrArg AV.bool (by rw [Bool.eq_iff_iff]; simp))
      | refine ag5 rfl ⟨by omega, h⟩)
    | with_reducible refine mI h (fun hc h => ?_)
    | with_reducible refine mE h (fun hc h => ?_)
    | with_reducible refine mS h (fun h => ?_)
    | refine mT h (fun h => ?_)
    | refine mF h (fun h => ?_)
    | (cases h; done)
theorem regletref02_IsRune.does {a0 : Int} {r : (Bool)} (h : regletref02_IsRune.f a0 = some r) (G : Objs) : Does Try.prog true 74 [.int .i64 a0] G (fun x _ => x = .bool r) := by
  unfold regletref02_IsRune.f at h
  try simp only [rdc98, rdc98', rq_T110, rq_L2, rq_T73, rq_L5, rq_T98, rq_T75, rq_T43, rq_L9, rq_T44, rq_L12, rq_T28, rq_I, rq_bt, wrap64] at h
  refine does_walk 1 (F := cfg []) tb_ok mixed Try.func74 rfl (fun T hT => ?_)
  repeat' first
    | (show E3 _ _ _ _ _ _ _ _; first
      | refine oQ vpt ?_
      | refine oQ vpf ?_
      | refine oW ?_
      | refine n_reg [0, 2] ?_
      | refine gYq vpt ?_
      | refine gYq vpf ?_
      | refine gN ?_
      | refine gNf ?_
      | refine gY ?_
      | refine gT ?_
      | refine gif h (fun hc h => ?_) (fun hc h => ?_)
      | refine gfi h (fun hc h => ?_) (fun hc h => ?_)
      | with_reducible refine mI h (fun hc h => ?_)
      | with_reducible refine mE h (fun hc h => ?_)
      | with_reducible refine mS h (fun h => ?_)
      | refine oWs ?_
      | refine gYs ?_
      | refine gifs h (fun hc h => ?_) (fun hc h => ?_)
      | refine gfis h (fun hc h => ?_) (fun hc h => ?_)
      | (fail_if_success (refine g_lit ?_)); refine g_dt ?_
      | (fail_if_success (refine g_lit ?_)); refine g_df ?_)
    | (show E1 _ _ _ _ _ _ _; first
      | refine c_seq ?_
      | refine c_reg ?_
      | refine c_ret ?_)
    | (show E2 _ _ _ _ _ _ _; first
      | refine n_seq ?_
      | (refine n_end hT ?_; cases h; first | rfl | exact congrArg AV.bool (by rw [Bool.eq_iff_iff]; simp)))
    | with_reducible refine mI h (fun hc h => ?_)
    | with_reducible refine mE h (fun hc h => ?_)
    | with_reducible refine mS h (fun h => ?_)
    | refine mT h (fun h => ?_)
    | refine mF h (fun h => ?_)
    | (cases h; done)
theorem regletref02_Bytes.does {a0 : Int} {r : (List Int)} (h : regletref02_Bytes.f a0 = some r) (G : Objs) : Does Try.prog true 65 [.int .i64 a0] G (fun x _ => x = .sl (r.map Enc.enc)) := by
  unfold regletref02_Bytes.f at h
  try simp only [rdc98, rdc98', rq_T110, rq_L2, rq_T73, rq_L5, rq_T98, rq_T75, rq_T43, rq_L9, rq_T44, rq_L12, rq_T28, rq_I, rq_bt, wrap64] at h
  refine does_walk 1 (F := cfg []) tb_ok mixed Try.func65 rfl (fun T hT => ?_)
  repeat' first
    | (show E3 _ _ _ _ _ _ _ _; first
      | refine oBS ?_
      | refine oW ?_
      | refine n_reg [0, 2, 5, 7, 11, 20] ?_
      | refine mB h (fun t ht h => oC (vC (fun G => regletref02_IsRune.does ht G)) ?_)
      | with_reducible refine mI h (fun hc h => ?_)
      | with_reducible refine mE h (fun hc h => ?_)
      | with_reducible refine mS h (fun h => ?_)
      | refine oWs ?_)
    | (show E1 _ _ _ _ _ _ _; first
      | refine c_seq ?_
      | refine c_reg ?_
      | refine c_ret ?_
      | refine c_skip ?_
      | refine c_tt ?_
      | refine c_ff ?_
      | refine c_if h (fun hc h => ?_) (fun hc h => ?_)
      | refine c_fi h (fun hc h => ?_) (fun hc h => ?_)
      | with_reducible refine mI h (fun hc h => ?_)
      | with_reducible refine mE h (fun hc h => ?_)
      | with_reducible refine mS h (fun h => ?_)
      | refine c_ifs h (fun hc h => ?_) (fun hc h => ?_)
      | refine c_fis h (fun hc h => ?_) (fun hc h => ?_)
      | refine c_dt ?_
      | refine c_df ?_)
    | (show E2 _ _ _ _ _ _ _; first
      | refine n_seq ?_
      | (refine n_end hT ?_; cases h; first | rfl | exact congrArg AV.bool (by rw [Bool.eq_iff_iff]; simp)))
    | with_reducible refine mI h (fun hc h => ?_)
    | with_reducible refine mE h (fun hc h => ?_)
    | with_reducible refine mS h (fun h => ?_)
    | refine mT h (fun h => ?_)
    | refine mF h (fun h => ?_)
    | (cases h; done)
theorem regletref02_begins.does {k : Nat} {a0 : ByteArray} {a1 : Int} {l2 : List Int} {r : (Bool)} (h : regletref02_begins.f k a0 a1 l2 = some r) (G : Objs) : Does Try.prog true 66 [.str a0, .int .i64 a1, .sl (l2.map Enc.enc)] G (fun x _ => x = .bool r) := by
  unfold regletref02_begins.f at h
  try simp only [rdc98, rdc98', rq_T110, rq_L2, rq_T73, rq_L5, rq_T98, rq_T75, rq_T43, rq_L9, rq_T44, rq_L12, rq_T28, rq_I, rq_bt, wrap64] at h
  refine does_walk 3 (F := cfg [(6, 10)]) tb_ok mixed Try.func66 rfl (fun T hT => ?_)
  repeat' first
    | (show E3 _ _ _ _ _ _ _ _; first
      | refine oQ vL ?_
      | refine oQ vE ?_
      | refine oQ vB ?_
      | refine oQ vpt ?_
      | refine oQ vpf ?_
      | refine oW ?_
      | refine n_reg [0, 1, 2, 6, 7, 19, 23, 36] ?_
      | refine gYq vL ?_
      | refine gYq vE ?_
      | refine gYq vB ?_
      | refine gYq vpt ?_
      | refine gYq vpf ?_
      | refine gN ?_
      | refine gNf ?_
      | refine gY ?_
      | refine gT ?_
      | refine gif h (fun hc h => ?_) (fun hc h => ?_)
      | refine gfi h (fun hc h => ?_) (fun hc h => ?_)
      | with_reducible refine mI h (fun hc h => ?_)
      | with_reducible refine mE h (fun hc h => ?_)
      | with_reducible refine mS h (fun h => ?_)
      | refine oWs ?_
      | refine gYs ?_
      | refine gifs h (fun hc h => ?_) (fun hc h => ?_)
      | refine gfis h (fun hc h => ?_) (fun hc h => ?_)
      | (fail_if_success (refine g_lit ?_)); refine g_dt ?_
      | (fail_if_success (refine g_lit ?_)); refine g_df ?_)
    | (show E1 _ _ _ _ _ _ _; first
      | refine c_seq ?_
      | refine c_reg ?_
      | refine c_drwf ?_
      | refine c_drw ?_
      | refine c_blk ?_
      | refine c_exit ?_
      | refine c_ret ?_
      | refine c_skip ?_
      | refine c_tt ?_
      | refine c_ff ?_
      | refine c_if h (fun hc h => ?_) (fun hc h => ?_)
      | refine c_fi h (fun hc h => ?_) (fun hc h => ?_)
      | with_reducible refine mI h (fun hc h => ?_)
      | with_reducible refine mE h (fun hc h => ?_)
      | with_reducible refine mS h (fun h => ?_)
      | refine c_ifs h (fun hc h => ?_) (fun hc h => ?_)
      | refine c_fis h (fun hc h => ?_) (fun hc h => ?_)
      | (refine lp4 (fun x0 x1 x2 x7 => [(0, .str x0), (1, .int .i64 x1), (2, .sl (x2.map Enc.enc)), (7, .int .i64 x7)]) (fun x0 x1 x2 x7 => []) (fun k_ x0 x1 x2 x7 => k_ ≤ k ∧ regletref02_begins.l0 k_ x0 x1 x2 x7 = some r) ⟨Nat.le_refl _, h⟩ ?_; intro k x0 x1 x2 x7 h; obtain ⟨hk, h⟩ := h; rcases k with _ | k; (simp only [regletref02_begins.l0] at h; cases h); simp only [regletref02_begins.l0, rdc98, rdc98', rq_T110, rq_L2, rq_T73, rq_L5, rq_T98, rq_T75, rq_T43, rq_L9, rq_T44, rq_L12, rq_T28, rq_I, rq_bt, wrap64] at h)
      | refine c_dt ?_
      | refine c_df ?_)
    | (show E2 _ _ _ _ _ _ _; first
      | refine n_seq ?_
      | (refine n_end hT ?_; cases h; first | rfl | exact congrArg AV.bool (by rw [Bool.eq_iff_iff]; simp))
      | refine ag4 rfl ⟨by omega, h⟩)
    | (show E4 _ _ _ _ _ _ _ _ _; first
      | refine dQ vL ?_
      | refine dQ vE ?_
      | refine dQ vB ?_
      | refine dQ vpt ?_
      | refine dQ vpf ?_
      | refine dW ?_
      | refine dE ?_)
    | (show E5 _ _ _ _ _ _ _ _; first
      | refine tQ vL ?_
      | refine tQ vE ?_
      | refine tQ vB ?_
      | refine tQ vpt ?_
      | refine tQ vpf ?_
      | refine tW ?_
      | refine n_drw [0, 1, 2, 6, 7, 19, 23, 36] ?_)
    | with_reducible refine mI h (fun hc h => ?_)
    | with_reducible refine mE h (fun hc h => ?_)
    | with_reducible refine mS h (fun h => ?_)
    | (rcases k with _ | k; (simp only [regletref02_begins.j0] at h; cases h); simp only [regletref02_begins.j0, rdc98, rdc98', rq_T110, rq_L2, rq_T73, rq_L5, rq_T98, rq_T75, rq_T43, rq_L9, rq_T44, rq_L12, rq_T28, rq_I, rq_bt, wrap64] at h)
    | refine mT h (fun h => ?_)
    | refine mF h (fun h => ?_)
    | (cases h; done)
theorem regletref02_Read.does {k : Nat} {a0 : ByteArray} {a1 : Int} {r : (Int × Int)} (h : regletref02_Read.f k a0 a1 = some r) (G : Objs) : Does Try.prog true 55 [.str a0, .int .i64 a1] G (fun x _ => x = .tup [.int .i64 r.1, .int .i64 r.2]) := by
  unfold regletref02_Read.f at h
  try simp only [rdc98, rdc98', rq_T110, rq_L2, rq_T73, rq_L5, rq_T98, rq_T75, rq_T43, rq_L9, rq_T44, rq_L12, rq_T28, rq_I, rq_bt, wrap64] at h
  refine does_walk 2 (F := cfg []) tb_ok mixed Try.func55 rfl (fun T hT => ?_)
  repeat' first
    | (show E3 _ _ _ _ _ _ _ _; first
      | refine oQ vL ?_
      | refine oQ vpt ?_
      | refine oQ vpf ?_
      | refine oW ?_
      | refine n_reg [0, 1, 4, 5, 6, 7, 8, 18, 36] ?_
      | refine gYq vL ?_
      | refine gYq vpt ?_
      | refine gYq vpf ?_
      | refine gN ?_
      | refine gNf ?_
      | refine gY ?_
      | refine gT ?_
      | refine mB h (fun t ht h => oC (vC (fun G => regletref02_value.does ht G)) ?_)
      | refine mB h (fun t ht h => oC (vC (fun G => regletref02_Bytes.does ht G)) ?_)
      | refine mB h (fun t ht h => gC (vC (fun G => regletref02_begins.does ht G)) ?_)
      | refine gif h (fun hc h => ?_) (fun hc h => ?_)
      | refine gfi h (fun hc h => ?_) (fun hc h => ?_)
      | with_reducible refine mI h (fun hc h => ?_)
      | with_reducible refine mE h (fun hc h => ?_)
      | with_reducible refine mS h (fun h => ?_)
      | refine oWs ?_
      | refine gYs ?_
      | refine gifs h (fun hc h => ?_) (fun hc h => ?_)
      | refine gfis h (fun hc h => ?_) (fun hc h => ?_)
      | (fail_if_success (refine g_lit ?_)); refine g_dt ?_
      | (fail_if_success (refine g_lit ?_)); refine g_df ?_)
    | (show E1 _ _ _ _ _ _ _; first
      | refine c_seq ?_
      | refine c_reg ?_
      | refine c_blk ?_
      | refine c_exit ?_
      | refine c_ret ?_
      | refine c_skip ?_
      | refine c_tt ?_
      | refine c_ff ?_
      | refine c_if h (fun hc h => ?_) (fun hc h => ?_)
      | refine c_fi h (fun hc h => ?_) (fun hc h => ?_)
      | with_reducible refine mI h (fun hc h => ?_)
      | with_reducible refine mE h (fun hc h => ?_)
      | with_reducible refine mS h (fun h => ?_)
      | refine c_ifs h (fun hc h => ?_) (fun hc h => ?_)
      | refine c_fis h (fun hc h => ?_) (fun hc h => ?_)
      | (refine lp3 (fun x0 x1 x6 => [(0, .str x0), (1, .int .i64 x1), (6, .int .i64 x6)]) (fun x0 x1 x6 => []) (fun k_ x0 x1 x6 => k_ ≤ k ∧ regletref02_Read.l0 k_ x0 x1 x6 = some r) ⟨Nat.le_refl _, h⟩ ?_; intro k x0 x1 x6 h; obtain ⟨hk, h⟩ := h; rcases k with _ | k; (simp only [regletref02_Read.l0] at h; cases h); simp only [regletref02_Read.l0, rdc98, rdc98', rq_T110, rq_L2, rq_T73, rq_L5, rq_T98, rq_T75, rq_T43, rq_L9, rq_T44, rq_L12, rq_T28, rq_I, rq_bt, wrap64] at h)
      | refine c_dt ?_
      | refine c_df ?_)
    | (show E2 _ _ _ _ _ _ _; first
      | refine n_seq ?_
      | (refine n_ends hT ?_; cases h; first | rfl | exact congrArg AV.bool (by rw [Bool.eq_iff_iff]; simp))
      | refine ag3 rfl ⟨by omega, h⟩)
    | with_reducible refine mI h (fun hc h => ?_)
    | with_reducible refine mE h (fun hc h => ?_)
    | with_reducible refine mS h (fun h => ?_)
    | (rcases k with _ | k; (simp only [regletref02_Read.j1] at h; cases h); simp only [regletref02_Read.j1, rdc98, rdc98', rq_T110, rq_L2, rq_T73, rq_L5, rq_T98, rq_T75, rq_T43, rq_L9, rq_T44, rq_L12, rq_T28, rq_I, rq_bt, wrap64] at h)
    | refine mT h (fun h => ?_)
    | refine mF h (fun h => ?_)
    | (cases h; done)
theorem regletref02_Runes.does {k : Nat} {a0 : ByteArray} {r : (List Int × List Int × Int)} (h : regletref02_Runes.f k a0 = some r) (G : Objs) : Does Try.prog true 36 [.str a0] G (fun x _ => x = .tup [.sl (r.1.map Enc.enc), .sl (r.2.1.map Enc.enc), .int .i64 r.2.2]) := by
  unfold regletref02_Runes.f at h
  try simp only [rdc98, rdc98', rq_T110, rq_L2, rq_T73, rq_L5, rq_T98, rq_T75, rq_T43, rq_L9, rq_T44, rq_L12, rq_T28, rq_I, rq_bt, wrap64] at h
  refine does_walk 1 (F := cfg []) tb_ok mixed Try.func36 rfl (fun T hT => ?_)
  repeat' first
    | (show E3 _ _ _ _ _ _ _ _; first
      | refine oBS ?_
      | refine oW ?_
      | refine n_reg [0, 2, 3, 4, 5, 6, 7, 8, 9, 13, 21] ?_
      | refine oAv (_ : Int) ?_
      | refine oA (_ : Int) ?_
      | refine oAe (_ : Int) ?_
      | refine oMv ?_
      | refine oM ?_
      | refine oMe ?_
      | refine mB h (fun t ht h => oC (vC (fun G => regletref02_Read.does ht G)) ?_)
      | refine fz 15 ?_
      | refine fz 16 ?_
      | with_reducible refine mI h (fun hc h => ?_)
      | with_reducible refine mE h (fun hc h => ?_)
      | with_reducible refine mS h (fun h => ?_)
      | refine oWs ?_)
    | (show E1 _ _ _ _ _ _ _; first
      | refine c_seq ?_
      | refine c_reg ?_
      | refine c_blk ?_
      | refine c_exit ?_
      | refine c_ret ?_
      | refine c_skip ?_
      | refine c_tt ?_
      | refine c_ff ?_
      | refine c_if h (fun hc h => ?_) (fun hc h => ?_)
      | refine c_fi h (fun hc h => ?_) (fun hc h => ?_)
      | with_reducible refine mI h (fun hc h => ?_)
      | with_reducible refine mE h (fun hc h => ?_)
      | with_reducible refine mS h (fun h => ?_)
      | refine c_ifs h (fun hc h => ?_) (fun hc h => ?_)
      | refine c_fis h (fun hc h => ?_) (fun hc h => ?_)
      | (refine lp4 (fun x0 x5 x6 x7 => [(0, .str x0), (5, .own 1 (x5.map Enc.enc)), (6, .own 1 (x6.map Enc.enc)), (7, .int .i64 x7)]) (fun x0 x5 x6 x7 => []) (fun k_ x0 x5 x6 x7 => k_ ≤ k ∧ regletref02_Runes.l0 k_ x0 x5 x6 x7 = some r) ⟨Nat.le_refl _, h⟩ ?_; intro k x0 x5 x6 x7 h; obtain ⟨hk, h⟩ := h; rcases k with _ | k; (simp only [regletref02_Runes.l0] at h; cases h); simp only [regletref02_Runes.l0, rdc98, rdc98', rq_T110, rq_L2, rq_T73, rq_L5, rq_T98, rq_T75, rq_T43, rq_L9, rq_T44, rq_L12, rq_T28, rq_I, rq_bt, wrap64] at h)
      | refine c_dt ?_
      | refine c_df ?_)
    | (show E2 _ _ _ _ _ _ _; first
      | refine n_seq ?_
      | (refine n_ends hT ?_; cases h; first | rfl | exact congrArg AV.bool (by rw [Bool.eq_iff_iff]; simp))
      | refine ag4 rfl ⟨by omega, h⟩)
    | with_reducible refine mI h (fun hc h => ?_)
    | with_reducible refine mE h (fun hc h => ?_)
    | with_reducible refine mS h (fun h => ?_)
    | refine mT h (fun h => ?_)
    | refine mF h (fun h => ?_)
    | (cases h; done)
theorem regletref02_Right.does {k : Nat} {a0 : ByteArray} {r : (Bool)} (h : regletref02_Right.f k a0 = some r) (G : Objs) : Does Try.prog true 29 [.str a0] G (fun x _ => x = .bool r) := by
  unfold regletref02_Right.f at h
  try simp only [rdc98, rdc98', rq_T110, rq_L2, rq_T73, rq_L5, rq_T98, rq_T75, rq_T43, rq_L9, rq_T44, rq_L12, rq_T28, rq_I, rq_bt, wrap64] at h
  refine does_walk 1 (F := cfg []) tb_ok mixed Try.func29 rfl (fun T hT => ?_)
  repeat' first
    | (show E3 _ _ _ _ _ _ _ _; first
      | refine oW ?_
      | refine n_reg [0, 2, 5] ?_
      | refine mB h (fun t ht h => oC (vC (fun G => regletref02_Runes.does ht G)) ?_)
      | with_reducible refine mI h (fun hc h => ?_)
      | with_reducible refine mE h (fun hc h => ?_)
      | with_reducible refine mS h (fun h => ?_)
      | refine oWs ?_)
    | (show E1 _ _ _ _ _ _ _; first
      | refine c_seq ?_
      | refine c_reg ?_
      | refine c_ret ?_)
    | (show E2 _ _ _ _ _ _ _; first
      | refine n_seq ?_
      | (refine n_end hT ?_; cases h; first | rfl | exact congrArg AV.bool (by rw [Bool.eq_iff_iff]; simp)))
    | with_reducible refine mI h (fun hc h => ?_)
    | with_reducible refine mE h (fun hc h => ?_)
    | with_reducible refine mS h (fun h => ?_)
    | refine mT h (fun h => ?_)
    | refine mF h (fun h => ?_)
    | (cases h; done)
theorem regletlaw15_line.does {k : Nat} {a0_0 : ByteArray} {l0_1 : List (S75)} {a0_2 : Int} {a0_3 : Int} {a0_4 : Int} {a0_5 : Bool} {a0_6 : Int} {a0_7 : Bool} {a0_8 : Bool} {r : (Bool)} (h : regletlaw15_line.f k a0_0 l0_1 a0_2 a0_3 a0_4 a0_5 a0_6 a0_7 a0_8 = some r) (G : Objs) : Does Try.prog true 12 [.agg [.str a0_0, .sl (l0_1.map Enc.enc), .int .i64 a0_2, .int .i64 a0_3, .int .i64 a0_4, .bool a0_5, .int .i64 a0_6, .bool a0_7, .bool a0_8]] G (fun x _ => x = .bool r) := by
  unfold regletlaw15_line.f at h
  try simp only [rdc98, rdc98', rq_T110, rq_L2, rq_T73, rq_L5, rq_T98, rq_T75, rq_T43, rq_L9, rq_T44, rq_L12, rq_T28, rq_I, rq_bt, wrap64] at h
  refine does_walk 1 (F := cfg []) tb_ok mixed Try.func12 rfl (fun T hT => ?_)
  repeat' first
    | (show E3 _ _ _ _ _ _ _ _; first
      | refine oQ vL ?_
      | refine oQ vE ?_
      | refine oQ vpt ?_
      | refine oQ vpf ?_
      | refine oW ?_
      | refine n_reg [0, 1, 2, 3, 19, 24, 33] ?_
      | refine gYq vL ?_
      | refine gYq vE ?_
      | refine gYq vpt ?_
      | refine gYq vpf ?_
      | refine gN ?_
      | refine gNf ?_
      | refine gY ?_
      | refine gT ?_
      | refine mB h (fun t ht h => gC (vC (fun G => regletref02_Right.does ht G)) ?_)
      | refine gif h (fun hc h => ?_) (fun hc h => ?_)
      | refine gfi h (fun hc h => ?_) (fun hc h => ?_)
      | with_reducible refine mI h (fun hc h => ?_)
      | with_reducible refine mE h (fun hc h => ?_)
      | with_reducible refine mS h (fun h => ?_)
      | refine oWs ?_
      | refine oWl ?_
      | refine gYs ?_
      | refine gifs h (fun hc h => ?_) (fun hc h => ?_)
      | refine gfis h (fun hc h => ?_) (fun hc h => ?_)
      | (fail_if_success (refine g_lit ?_)); refine g_dt ?_
      | (fail_if_success (refine g_lit ?_)); refine g_df ?_)
    | (show E1 _ _ _ _ _ _ _; first
      | refine c_seq ?_
      | refine c_reg ?_
      | refine c_blk ?_
      | refine c_exit ?_
      | refine c_ret ?_
      | refine c_skip ?_
      | refine c_tt ?_
      | refine c_ff ?_
      | refine c_if h (fun hc h => ?_) (fun hc h => ?_)
      | refine c_fi h (fun hc h => ?_) (fun hc h => ?_)
      | with_reducible refine mI h (fun hc h => ?_)
      | with_reducible refine mE h (fun hc h => ?_)
      | with_reducible refine mS h (fun h => ?_)
      | refine c_ifs h (fun hc h => ?_) (fun hc h => ?_)
      | refine c_fis h (fun hc h => ?_) (fun hc h => ?_)
      | (refine lp10 (fun x3 x283000 x283001 x283002 x283003 x283004 x283005 x283006 x283007 x283008 => [(3, .int .i64 x3), (1, .lptr 1 0)]) (fun x3 x283000 x283001 x283002 x283003 x283004 x283005 x283006 x283007 x283008 => [(1, [.str x283000, .sl (x283001.map Enc.enc), .int .i64 x283002, .int .i64 x283003, .int .i64 x283004, .bool x283005, .int .i64 x283006, .bool x283007, .bool x283008])]) (fun k_ x3 x283000 x283001 x283002 x283003 x283004 x283005 x283006 x283007 x283008 => k_ ≤ k ∧ regletlaw15_line.l0 k_ x3 x283000 x283001 x283002 x283003 x283004 x283005 x283006 x283007 x283008 = some r) ⟨Nat.le_refl _, h⟩ ?_; intro k x3 x283000 x283001 x283002 x283003 x283004 x283005 x283006 x283007 x283008 h; obtain ⟨hk, h⟩ := h; rcases k with _ | k; (simp only [regletlaw15_line.l0] at h; cases h); simp only [regletlaw15_line.l0, rdc98, rdc98', rq_T110, rq_L2, rq_T73, rq_L5, rq_T98, rq_T75, rq_T43, rq_L9, rq_T44, rq_L12, rq_T28, rq_I, rq_bt, wrap64] at h)
      | refine c_dt ?_
      | refine c_df ?_)
    | (show E2 _ _ _ _ _ _ _; first
      | refine n_seq ?_
      | (refine n_end hT ?_; cases h; first | rfl | exact congrArg AV.bool (by rw [Bool.eq_iff_iff]; simp))
      | refine ag10 rfl ⟨by omega, h⟩)
    | with_reducible refine mI h (fun hc h => ?_)
    | with_reducible refine mE h (fun hc h => ?_)
    | with_reducible refine mS h (fun h => ?_)
    | (rcases k with _ | k; (simp only [regletlaw15_line.j0] at h; cases h); simp only [regletlaw15_line.j0, rdc98, rdc98', rq_T110, rq_L2, rq_T73, rq_L5, rq_T98, rq_T75, rq_T43, rq_L9, rq_T44, rq_L12, rq_T28, rq_I, rq_bt, wrap64] at h)
    | refine mT h (fun h => ?_)
    | refine mF h (fun h => ?_)
    | (cases h; done)
theorem regletref02_Kind.does {k : Nat} {a0 : Int} {r : (Int)} (h : regletref02_Kind.f k a0 = some r) (G : Objs) : Does Try.prog true 40 [.int .i64 a0] G (fun x _ => x = .int .i64 r) := by
  unfold regletref02_Kind.f at h
  try simp only [rdc98, rdc98', rq_T110, rq_L2, rq_T73, rq_L5, rq_T98, rq_T75, rq_T43, rq_L9, rq_T44, rq_L12, rq_T28, rq_I, rq_bt, wrap64] at h
  refine does_walk 1 (F := cfg []) tb_ok mixed Try.func40 rfl (fun T hT => ?_)
  repeat' first
    | (show E3 _ _ _ _ _ _ _ _; first
      | refine oQ vL ?_
      | refine oQ vE ?_
      | refine oBS ?_
      | refine oW ?_
      | refine n_reg [0, 2, 3, 4, 5, 19, 28, 39] ?_
      | with_reducible refine mI h (fun hc h => ?_)
      | with_reducible refine mE h (fun hc h => ?_)
      | with_reducible refine mS h (fun h => ?_)
      | refine oWs ?_)
    | (show E1 _ _ _ _ _ _ _; first
      | refine c_seq ?_
      | refine c_reg ?_
      | refine c_blk ?_
      | refine c_exit ?_
      | refine c_ret ?_
      | refine c_skip ?_
      | refine c_tt ?_
      | refine c_ff ?_
      | refine c_if h (fun hc h => ?_) (fun hc h => ?_)
      | refine c_fi h (fun hc h => ?_) (fun hc h => ?_)
      | with_reducible refine mI h (fun hc h => ?_)
      | with_reducible refine mE h (fun hc h => ?_)
      | with_reducible refine mS h (fun h => ?_)
      | refine c_ifs h (fun hc h => ?_) (fun hc h => ?_)
      | refine c_fis h (fun hc h => ?_) (fun hc h => ?_)
      | (refine lp3 (fun x0 x3 x4 => [(0, .int .i64 x0), (3, .sl (x3.map Enc.enc)), (4, .int .i64 x4)]) (fun x0 x3 x4 => []) (fun k_ x0 x3 x4 => k_ ≤ k ∧ regletref02_Kind.l0 k_ x0 x3 x4 = some r) ⟨Nat.le_refl _, h⟩ ?_; intro k x0 x3 x4 h; obtain ⟨hk, h⟩ := h; rcases k with _ | k; (simp only [regletref02_Kind.l0] at h; cases h); simp only [regletref02_Kind.l0, rdc98, rdc98', rq_T110, rq_L2, rq_T73, rq_L5, rq_T98, rq_T75, rq_T43, rq_L9, rq_T44, rq_L12, rq_T28, rq_I, rq_bt, wrap64] at h)
      | (refine lp4 (fun x0 x3 x4 x5 => [(0, .int .i64 x0), (3, .sl (x3.map Enc.enc)), (4, .int .i64 x4), (5, .int .i64 x5)]) (fun x0 x3 x4 x5 => []) (fun k_ x0 x3 x4 x5 => k_ ≤ k ∧ regletref02_Kind.l1 k_ x0 x3 x4 x5 = some r) ⟨Nat.le_refl _, h⟩ ?_; intro k x0 x3 x4 x5 h; obtain ⟨hk, h⟩ := h; rcases k with _ | k; (simp only [regletref02_Kind.l1] at h; cases h); simp only [regletref02_Kind.l1, rdc98, rdc98', rq_T110, rq_L2, rq_T73, rq_L5, rq_T98, rq_T75, rq_T43, rq_L9, rq_T44, rq_L12, rq_T28, rq_I, rq_bt, wrap64] at h)
      | refine c_dt ?_
      | refine c_df ?_)
    | (show E2 _ _ _ _ _ _ _; first
      | refine n_seq ?_
      | (refine n_end hT ?_; cases h; first | rfl | exact congrArg AV.bool (by rw [Bool.eq_iff_iff]; simp))
      | refine ag3 rfl ⟨by omega, h⟩
      | refine ag4 rfl ⟨by omega, h⟩)
    | with_reducible refine mI h (fun hc h => ?_)
    | with_reducible refine mE h (fun hc h => ?_)
    | with_reducible refine mS h (fun h => ?_)
    | refine mT h (fun h => ?_)
    | refine mF h (fun h => ?_)
    | (cases h; done)
theorem regletref15_Seen.does {k : Nat} {a0 : Int} {r : (Bool)} (h : regletref15_Seen.f k a0 = some r) (G : Objs) : Does Try.prog true 56 [.int .i64 a0] G (fun x _ => x = .bool r) := by
  unfold regletref15_Seen.f at h
  try simp only [rdc98, rdc98', rq_T110, rq_L2, rq_T73, rq_L5, rq_T98, rq_T75, rq_T43, rq_L9, rq_T44, rq_L12, rq_T28, rq_I, rq_bt, wrap64] at h
  refine does_walk 1 (F := cfg []) tb_ok mixed Try.func56 rfl (fun T hT => ?_)
  repeat' first
    | (show E3 _ _ _ _ _ _ _ _; first
      | refine oQ vpt ?_
      | refine oQ vpf ?_
      | refine oW ?_
      | refine n_reg [0, 2, 3] ?_
      | refine gYq vpt ?_
      | refine gYq vpf ?_
      | refine gN ?_
      | refine gNf ?_
      | refine gY ?_
      | refine gT ?_
      | refine mB h (fun t ht h => oC (vC (fun G => regletref02_Kind.does ht G)) ?_)
      | refine gif h (fun hc h => ?_) (fun hc h => ?_)
      | refine gfi h (fun hc h => ?_) (fun hc h => ?_)
      | with_reducible refine mI h (fun hc h => ?_)
      | with_reducible refine mE h (fun hc h => ?_)
      | with_reducible refine mS h (fun h => ?_)
      | refine oWs ?_
      | refine gYs ?_
      | refine gifs h (fun hc h => ?_) (fun hc h => ?_)
      | refine gfis h (fun hc h => ?_) (fun hc h => ?_)
      | (fail_if_success (refine g_lit ?_)); refine g_dt ?_
      | (fail_if_success (refine g_lit ?_)); refine g_df ?_)
    | (show E1 _ _ _ _ _ _ _; first
      | refine c_seq ?_
      | refine c_reg ?_
      | refine c_ret ?_)
    | (show E2 _ _ _ _ _ _ _; first
      | refine n_seq ?_
      | (refine n_end hT ?_; cases h; first | rfl | exact congrArg AV.bool (by rw [Bool.eq_iff_iff]; simp)))
    | with_reducible refine mI h (fun hc h => ?_)
    | with_reducible refine mE h (fun hc h => ?_)
    | with_reducible refine mS h (fun h => ?_)
    | refine mT h (fun h => ?_)
    | refine mF h (fun h => ?_)
    | (cases h; done)
theorem regletref15_End.does {k : Nat} {a0 : ByteArray} {r : (Int)} (h : regletref15_End.f k a0 = some r) (G : Objs) : Does Try.prog true 37 [.str a0] G (fun x _ => x = .int .i64 r) := by
  unfold regletref15_End.f at h
  try simp only [rdc98, rdc98', rq_T110, rq_L2, rq_T73, rq_L5, rq_T98, rq_T75, rq_T43, rq_L9, rq_T44, rq_L12, rq_T28, rq_I, rq_bt, wrap64] at h
  refine does_walk 1 (F := cfg []) tb_ok mixed Try.func37 rfl (fun T hT => ?_)
  repeat' first
    | (show E3 _ _ _ _ _ _ _ _; first
      | refine oQ vL ?_
      | refine oQ vE ?_
      | refine oW ?_
      | refine n_reg [0, 2, 3, 4, 6, 7, 17, 24, 31] ?_
      | refine mB h (fun t ht h => oC (vC (fun G => regletref02_Runes.does ht G)) ?_)
      | refine mB h (fun t ht h => oC (vC (fun G => regletref15_Seen.does ht G)) ?_)
      | with_reducible refine mI h (fun hc h => ?_)
      | with_reducible refine mE h (fun hc h => ?_)
      | with_reducible refine mS h (fun h => ?_)
      | refine oWs ?_)
    | (show E1 _ _ _ _ _ _ _; first
      | refine c_seq ?_
      | refine c_reg ?_
      | refine c_blk ?_
      | refine c_exit ?_
      | refine c_ret ?_
      | refine c_skip ?_
      | refine c_tt ?_
      | refine c_ff ?_
      | refine c_if h (fun hc h => ?_) (fun hc h => ?_)
      | refine c_fi h (fun hc h => ?_) (fun hc h => ?_)
      | with_reducible refine mI h (fun hc h => ?_)
      | with_reducible refine mE h (fun hc h => ?_)
      | with_reducible refine mS h (fun h => ?_)
      | refine c_ifs h (fun hc h => ?_) (fun hc h => ?_)
      | refine c_fis h (fun hc h => ?_) (fun hc h => ?_)
      | (refine lp5 (fun x0 x3 x4 x6 x7 => [(0, .str x0), (3, .sl (x3.map Enc.enc)), (4, .sl (x4.map Enc.enc)), (6, .int .i64 x6), (7, .int .i64 x7)]) (fun x0 x3 x4 x6 x7 => []) (fun k_ x0 x3 x4 x6 x7 => k_ ≤ k ∧ regletref15_End.l0 k_ x0 x3 x4 x6 x7 = some r) ⟨Nat.le_refl _, h⟩ ?_; intro k x0 x3 x4 x6 x7 h; obtain ⟨hk, h⟩ := h; rcases k with _ | k; (simp only [regletref15_End.l0] at h; cases h); simp only [regletref15_End.l0, rdc98, rdc98', rq_T110, rq_L2, rq_T73, rq_L5, rq_T98, rq_T75, rq_T43, rq_L9, rq_T44, rq_L12, rq_T28, rq_I, rq_bt, wrap64] at h)
      | refine c_dt ?_
      | refine c_df ?_)
    | (show E2 _ _ _ _ _ _ _; first
      | refine n_seq ?_
      | (refine n_end hT ?_; cases h; first | rfl | exact congrArg AV.bool (by rw [Bool.eq_iff_iff]; simp))
      | refine ag5 rfl ⟨by omega, h⟩)
    | with_reducible refine mI h (fun hc h => ?_)
    | with_reducible refine mE h (fun hc h => ?_)
    | with_reducible refine mS h (fun h => ?_)
    | refine mT h (fun h => ?_)
    | refine mF h (fun h => ?_)
    | (cases h; done)
theorem regletref15_style.does {k : Nat} {l0 : List (S75)} {a1 : Int} {r : (Int)} (h : regletref15_style.f k l0 a1 = some r) (G : Objs) : Does Try.prog true 38 [.sl (l0.map Enc.enc), .int .i64 a1] G (fun x _ => x = .int .i64 r) := by
  unfold regletref15_style.f at h
  try simp only [rdc98, rdc98', rq_T110, rq_L2, rq_T73, rq_L5, rq_T98, rq_T75, rq_T43, rq_L9, rq_T44, rq_L12, rq_T28, rq_I, rq_bt, wrap64] at h
  refine does_walk 2 (F := cfg []) tb_ok mixed Try.func38 rfl (fun T hT => ?_)
  repeat' first
    | (show E3 _ _ _ _ _ _ _ _; first
      | refine oQ vL ?_
      | refine oQ vE ?_
      | refine oW ?_
      | refine n_reg [0, 1, 4, 5, 9, 17, 24] ?_
      | with_reducible refine mI h (fun hc h => ?_)
      | with_reducible refine mE h (fun hc h => ?_)
      | with_reducible refine mS h (fun h => ?_)
      | refine oWs ?_)
    | (show E1 _ _ _ _ _ _ _; first
      | refine c_seq ?_
      | refine c_reg ?_
      | refine c_blk ?_
      | refine c_exit ?_
      | refine c_ret ?_
      | refine c_skip ?_
      | refine c_tt ?_
      | refine c_ff ?_
      | refine c_if h (fun hc h => ?_) (fun hc h => ?_)
      | refine c_fi h (fun hc h => ?_) (fun hc h => ?_)
      | with_reducible refine mI h (fun hc h => ?_)
      | with_reducible refine mE h (fun hc h => ?_)
      | with_reducible refine mS h (fun h => ?_)
      | refine c_ifs h (fun hc h => ?_) (fun hc h => ?_)
      | refine c_fis h (fun hc h => ?_) (fun hc h => ?_)
      | (refine lp3 (fun x0 x1 x5 => [(0, .sl (x0.map Enc.enc)), (1, .int .i64 x1), (5, .int .i64 x5)]) (fun x0 x1 x5 => []) (fun k_ x0 x1 x5 => k_ ≤ k ∧ regletref15_style.l0 k_ x0 x1 x5 = some r) ⟨Nat.le_refl _, h⟩ ?_; intro k x0 x1 x5 h; obtain ⟨hk, h⟩ := h; rcases k with _ | k; (simp only [regletref15_style.l0] at h; cases h); simp only [regletref15_style.l0, rdc98, rdc98', rq_T110, rq_L2, rq_T73, rq_L5, rq_T98, rq_T75, rq_T43, rq_L9, rq_T44, rq_L12, rq_T28, rq_I, rq_bt, wrap64] at h)
      | refine c_dt ?_
      | refine c_df ?_)
    | (show E2 _ _ _ _ _ _ _; first
      | refine n_seq ?_
      | (refine n_end hT ?_; cases h; first | rfl | exact congrArg AV.bool (by rw [Bool.eq_iff_iff]; simp))
      | refine ag3 rfl ⟨by omega, h⟩)
    | with_reducible refine mI h (fun hc h => ?_)
    | with_reducible refine mE h (fun hc h => ?_)
    | with_reducible refine mS h (fun h => ?_)
    | refine mT h (fun h => ?_)
    | refine mF h (fun h => ?_)
    | (cases h; done)
theorem regletref04_Of.does {l0 : List (S73)} {a1 : Int} {r : (Int × Int × Int × Int × Int × Int × (List (S110)) × Bool)} (h : regletref04_Of.f l0 a1 = some r) (G : Objs) : Does Try.prog true 39 [.sl (l0.map Enc.enc), .int .i64 a1] G (fun x _ => x = .agg [.int .i64 r.1, .int .i64 r.2.1, .int .i64 r.2.2.1, .int .i64 r.2.2.2.1, .int .i64 r.2.2.2.2.1, .int .i64 r.2.2.2.2.2.1, .sl (r.2.2.2.2.2.2.1.map Enc.enc), .bool r.2.2.2.2.2.2.2]) := by
  unfold regletref04_Of.f at h
  try simp only [rdc98, rdc98', rq_T110, rq_L2, rq_T73, rq_L5, rq_T98, rq_T75, rq_T43, rq_L9, rq_T44, rq_L12, rq_T28, rq_I, rq_bt, wrap64] at h
  refine does_walk 2 (F := cfg []) tb_ok mixed Try.func39 rfl (fun T hT => ?_)
  repeat' first
    | (show E3 _ _ _ _ _ _ _ _; first
      | refine oQ vL ?_
      | refine oQ vE ?_
      | refine oQ vpt ?_
      | refine oQ vpf ?_
      | refine oB ?_
      | refine oLd ?_
      | refine oW ?_
      | refine n_reg [0, 1, 4, 12] ?_
      | refine gYq vL ?_
      | refine gYq vE ?_
      | refine gYq vpt ?_
      | refine gYq vpf ?_
      | refine gN ?_
      | refine gNf ?_
      | refine gY ?_
      | refine gT ?_
      | refine gif h (fun hc h => ?_) (fun hc h => ?_)
      | refine gfi h (fun hc h => ?_) (fun hc h => ?_)
      | with_reducible refine mI h (fun hc h => ?_)
      | with_reducible refine mE h (fun hc h => ?_)
      | with_reducible refine mS h (fun h => ?_)
      | refine oWs ?_
      | refine oWl ?_
      | refine gYs ?_
      | refine gifs h (fun hc h => ?_) (fun hc h => ?_)
      | refine gfis h (fun hc h => ?_) (fun hc h => ?_)
      | (fail_if_success (refine g_lit ?_)); refine g_dt ?_
      | (fail_if_success (refine g_lit ?_)); refine g_df ?_)
    | (show E1 _ _ _ _ _ _ _; first
      | refine c_seq ?_
      | refine c_reg ?_
      | refine c_ret ?_
      | refine c_skip ?_
      | refine c_tt ?_
      | refine c_ff ?_
      | refine c_if h (fun hc h => ?_) (fun hc h => ?_)
      | refine c_fi h (fun hc h => ?_) (fun hc h => ?_)
      | with_reducible refine mI h (fun hc h => ?_)
      | with_reducible refine mE h (fun hc h => ?_)
      | with_reducible refine mS h (fun h => ?_)
      | refine c_ifs h (fun hc h => ?_) (fun hc h => ?_)
      | refine c_fis h (fun hc h => ?_) (fun hc h => ?_)
      | refine c_dt ?_
      | refine c_df ?_)
    | (show E2 _ _ _ _ _ _ _; first
      | refine n_seq ?_
      | (refine n_end hT ?_; cases h; first | rfl | exact congrArg AV.bool (by rw [Bool.eq_iff_iff]; simp)))
    | with_reducible refine mI h (fun hc h => ?_)
    | with_reducible refine mE h (fun hc h => ?_)
    | with_reducible refine mS h (fun h => ?_)
    | refine mT h (fun h => ?_)
    | refine mF h (fun h => ?_)
    | (cases h; done)
theorem regletref01_Clamp.does {a0 : Int} {r : (Int)} (h : regletref01_Clamp.f a0 = some r) (G : Objs) : Does Try.prog true 57 [.int .i64 a0] G (fun x _ => x = .int .i64 r) := by
  unfold regletref01_Clamp.f at h
  try simp only [rdc98, rdc98', rq_T110, rq_L2, rq_T73, rq_L5, rq_T98, rq_T75, rq_T43, rq_L9, rq_T44, rq_L12, rq_T28, rq_I, rq_bt, wrap64] at h
  refine does_walk 1 (F := cfg []) tb_ok mixed Try.func57 rfl (fun T hT => ?_)
  repeat' first
    | (show E3 _ _ _ _ _ _ _ _; first
      | refine oW ?_
      | refine n_reg [0, 2, 4, 6] ?_
      | with_reducible refine mI h (fun hc h => ?_)
      | with_reducible refine mE h (fun hc h => ?_)
      | with_reducible refine mS h (fun h => ?_)
      | refine oWs ?_)
    | (show E1 _ _ _ _ _ _ _; first
      | refine c_seq ?_
      | refine c_reg ?_
      | refine c_ret ?_
      | refine c_skip ?_
      | refine c_tt ?_
      | refine c_ff ?_
      | refine c_if h (fun hc h => ?_) (fun hc h => ?_)
      | refine c_fi h (fun hc h => ?_) (fun hc h => ?_)
      | with_reducible refine mI h (fun hc h => ?_)
      | with_reducible refine mE h (fun hc h => ?_)
      | with_reducible refine mS h (fun h => ?_)
      | refine c_ifs h (fun hc h => ?_) (fun hc h => ?_)
      | refine c_fis h (fun hc h => ?_) (fun hc h => ?_)
      | refine c_dt ?_
      | refine c_df ?_)
    | (show E2 _ _ _ _ _ _ _; first
      | refine n_seq ?_
      | (refine n_end hT ?_; cases h; first | rfl | exact congrArg AV.bool (by rw [Bool.eq_iff_iff]; simp)))
    | with_reducible refine mI h (fun hc h => ?_)
    | with_reducible refine mE h (fun hc h => ?_)
    | with_reducible refine mS h (fun h => ?_)
    | refine mT h (fun h => ?_)
    | refine mF h (fun h => ?_)
    | (cases h; done)
theorem regletref01_Add.does {a0 : Int} {a1 : Int} {r : (Int)} (h : regletref01_Add.f a0 a1 = some r) (G : Objs) : Does Try.prog true 41 [.int .i64 a0, .int .i64 a1] G (fun x _ => x = .int .i64 r) := by
  unfold regletref01_Add.f at h
  try simp only [rdc98, rdc98', rq_T110, rq_L2, rq_T73, rq_L5, rq_T98, rq_T75, rq_T43, rq_L9, rq_T44, rq_L12, rq_T28, rq_I, rq_bt, wrap64] at h
  refine does_walk 2 (F := cfg []) tb_ok mixed Try.func41 rfl (fun T hT => ?_)
  repeat' first
    | (show E3 _ _ _ _ _ _ _ _; first
      | refine oW ?_
      | refine n_reg [0, 1, 4] ?_
      | refine mB h (fun t ht h => oC (vC (fun G => regletref01_Clamp.does ht G)) ?_)
      | with_reducible refine mI h (fun hc h => ?_)
      | with_reducible refine mE h (fun hc h => ?_)
      | with_reducible refine mS h (fun h => ?_)
      | refine oWs ?_)
    | (show E1 _ _ _ _ _ _ _; first
      | refine c_seq ?_
      | refine c_reg ?_
      | refine c_ret ?_)
    | (show E2 _ _ _ _ _ _ _; first
      | refine n_seq ?_
      | (refine n_end hT ?_; cases h; first | rfl | exact congrArg AV.bool (by rw [Bool.eq_iff_iff]; simp)))
    | with_reducible refine mI h (fun hc h => ?_)
    | with_reducible refine mE h (fun hc h => ?_)
    | with_reducible refine mS h (fun h => ?_)
    | refine mT h (fun h => ?_)
    | refine mF h (fun h => ?_)
    | (cases h; done)
theorem regletref04_Width.does {k : Nat} {l0 : List (S73)} {a1 : Int} {a2 : Int} {r : (Int)} (h : regletref04_Width.f k l0 a1 a2 = some r) (G : Objs) : Does Try.prog true 42 [.sl (l0.map Enc.enc), .int .i64 a1, .int .i64 a2] G (fun x _ => x = .int .i64 r) := by
  unfold regletref04_Width.f at h
  try simp only [rdc98, rdc98', rq_T110, rq_L2, rq_T73, rq_L5, rq_T98, rq_T75, rq_T43, rq_L9, rq_T44, rq_L12, rq_T28, rq_I, rq_bt, wrap64] at h
  refine does_walk 3 (F := cfg []) tb_ok mixed Try.func42 rfl (fun T hT => ?_)
  repeat' first
    | (show E3 _ _ _ _ _ _ _ _; first
      | refine oQ vL ?_
      | refine oQ vE ?_
      | refine oQ vpt ?_
      | refine oQ vpf ?_
      | refine oW ?_
      | refine n_reg [0, 1, 2, 6, 7, 8, 13, 14, 19, 29, 49] ?_
      | refine gYq vL ?_
      | refine gYq vE ?_
      | refine gYq vpt ?_
      | refine gYq vpf ?_
      | refine gN ?_
      | refine gNf ?_
      | refine gY ?_
      | refine gT ?_
      | refine mB h (fun t ht h => oC (vC (fun G => regletref04_Of.does ht G)) ?_)
      | refine mB h (fun t ht h => oC (vC (fun G => regletref02_Kind.does ht G)) ?_)
      | refine gif h (fun hc h => ?_) (fun hc h => ?_)
      | refine gfi h (fun hc h => ?_) (fun hc h => ?_)
      | with_reducible refine mI h (fun hc h => ?_)
      | with_reducible refine mE h (fun hc h => ?_)
      | with_reducible refine mS h (fun h => ?_)
      | refine oWs ?_
      | refine oWl ?_
      | refine gYs ?_
      | refine gifs h (fun hc h => ?_) (fun hc h => ?_)
      | refine gfis h (fun hc h => ?_) (fun hc h => ?_)
      | (fail_if_success (refine g_lit ?_)); refine g_dt ?_
      | (fail_if_success (refine g_lit ?_)); refine g_df ?_)
    | (show E1 _ _ _ _ _ _ _; first
      | refine c_seq ?_
      | refine c_reg ?_
      | refine c_blk ?_
      | refine c_exit ?_
      | refine c_ret ?_
      | refine c_skip ?_
      | refine c_tt ?_
      | refine c_ff ?_
      | refine c_if h (fun hc h => ?_) (fun hc h => ?_)
      | refine c_fi h (fun hc h => ?_) (fun hc h => ?_)
      | with_reducible refine mI h (fun hc h => ?_)
      | with_reducible refine mE h (fun hc h => ?_)
      | with_reducible refine mS h (fun h => ?_)
      | refine c_ifs h (fun hc h => ?_) (fun hc h => ?_)
      | refine c_fis h (fun hc h => ?_) (fun hc h => ?_)
      | (refine lp10 (fun x2 x8 x349000 x349001 x349002 x349003 x349004 x349005 x349006 x349007 => [(2, .int .i64 x2), (8, .int .i64 x8), (7, .lptr 7 0)]) (fun x2 x8 x349000 x349001 x349002 x349003 x349004 x349005 x349006 x349007 => [(7, [.int .i64 x349000, .int .i64 x349001, .int .i64 x349002, .int .i64 x349003, .int .i64 x349004, .int .i64 x349005, .sl (x349006.map Enc.enc), .bool x349007])]) (fun k_ x2 x8 x349000 x349001 x349002 x349003 x349004 x349005 x349006 x349007 => k_ ≤ k ∧ regletref04_Width.l0 k_ x2 x8 x349000 x349001 x349002 x349003 x349004 x349005 x349006 x349007 = some r) ⟨Nat.le_refl _, h⟩ ?_; intro k x2 x8 x349000 x349001 x349002 x349003 x349004 x349005 x349006 x349007 h; obtain ⟨hk, h⟩ := h; rcases k with _ | k; (simp only [regletref04_Width.l0] at h; cases h); simp only [regletref04_Width.l0, rdc98, rdc98', rq_T110, rq_L2, rq_T73, rq_L5, rq_T98, rq_T75, rq_T43, rq_L9, rq_T44, rq_L12, rq_T28, rq_I, rq_bt, wrap64] at h)
      | refine c_dt ?_
      | refine c_df ?_)
    | (show E2 _ _ _ _ _ _ _; first
      | refine n_seq ?_
      | (refine n_end hT ?_; cases h; first | rfl | exact congrArg AV.bool (by rw [Bool.eq_iff_iff]; simp))
      | refine ag10 rfl ⟨by omega, h⟩)
    | with_reducible refine mI h (fun hc h => ?_)
    | with_reducible refine mE h (fun hc h => ?_)
    | with_reducible refine mS h (fun h => ?_)
    | (rcases k with _ | k; (simp only [regletref04_Width.j0] at h; cases h); simp only [regletref04_Width.j0, rdc98, rdc98', rq_T110, rq_L2, rq_T73, rq_L5, rq_T98, rq_T75, rq_T43, rq_L9, rq_T44, rq_L12, rq_T28, rq_I, rq_bt, wrap64] at h)
    | refine mT h (fun h => ?_)
    | refine mF h (fun h => ?_)
    | (cases h; done)
theorem regletref01_bare.does {k : Nat} {l0 : List Int} {r : (List Int)} (h : regletref01_bare.f k l0 = some r) (G : Objs) : Does Try.prog true 76 [.sl (l0.map Enc.enc)] G (fun x _ => x = .sl (r.map Enc.enc)) := by
  unfold regletref01_bare.f at h
  try simp only [rdc98, rdc98', rq_T110, rq_L2, rq_T73, rq_L5, rq_T98, rq_T75, rq_T43, rq_L9, rq_T44, rq_L12, rq_T28, rq_I, rq_bt, wrap64] at h
  refine does_walk 1 (F := cfg []) tb_ok mixed Try.func76 rfl (fun T hT => ?_)
  repeat' first
    | (show E3 _ _ _ _ _ _ _ _; first
      | refine oQ vL ?_
      | refine oQ vLv ?_
      | refine oQ vE ?_
      | refine oQ vEv ?_
      | refine oQ vEo ?_
      | refine oQ vSh ?_
      | refine oQ vpt ?_
      | refine oQ vpf ?_
      | refine oLe vLe ?_
      | refine oBS ?_
      | refine oW ?_
      | refine n_reg [0, 2, 3, 15] ?_
      | refine gYq vL ?_
      | refine gYq vLv ?_
      | refine gYq vE ?_
      | refine gYq vEv ?_
      | refine gYq vEo ?_
      | refine gYq vSh ?_
      | refine gYq vpt ?_
      | refine gYq vpf ?_
      | refine gLe vLe ?_
      | refine gN ?_
      | refine gNf ?_
      | refine gY ?_
      | refine gT ?_
      | refine oAv (_ : Int) ?_
      | refine oA (_ : Int) ?_
      | refine oAe (_ : Int) ?_
      | refine oMv ?_
      | refine oM ?_
      | refine oMe ?_
      | refine gif h (fun hc h => ?_) (fun hc h => ?_)
      | refine gfi h (fun hc h => ?_) (fun hc h => ?_)
      | with_reducible refine mI h (fun hc h => ?_)
      | with_reducible refine mE h (fun hc h => ?_)
      | with_reducible refine mS h (fun h => ?_)
      | refine oWs ?_
      | refine gYs ?_
      | refine gifs h (fun hc h => ?_) (fun hc h => ?_)
      | refine gfis h (fun hc h => ?_) (fun hc h => ?_)
      | (fail_if_success (refine g_lit ?_)); refine g_dt ?_
      | (fail_if_success (refine g_lit ?_)); refine g_df ?_)
    | (show E1 _ _ _ _ _ _ _; first
      | refine c_seq ?_
      | refine c_reg ?_
      | refine c_blk ?_
      | refine c_exit ?_
      | refine c_ret ?_
      | refine c_skip ?_
      | refine c_tt ?_
      | refine c_ff ?_
      | refine c_if h (fun hc h => ?_) (fun hc h => ?_)
      | refine c_fi h (fun hc h => ?_) (fun hc h => ?_)
      | with_reducible refine mI h (fun hc h => ?_)
      | with_reducible refine mE h (fun hc h => ?_)
      | with_reducible refine mS h (fun h => ?_)
      | refine c_ifs h (fun hc h => ?_) (fun hc h => ?_)
      | refine c_fis h (fun hc h => ?_) (fun hc h => ?_)
      | (refine lp2 (fun x0 x3 => [(0, .sl (x0.map Enc.enc)), (3, .int .i64 x3)]) (fun x0 x3 => []) (fun k_ x0 x3 => k_ ≤ k ∧ regletref01_bare.l0 k_ x0 x3 = some r) ⟨Nat.le_refl _, h⟩ ?_; intro k x0 x3 h; obtain ⟨hk, h⟩ := h; rcases k with _ | k; (simp only [regletref01_bare.l0] at h; cases h); simp only [regletref01_bare.l0, rdc98, rdc98', rq_T110, rq_L2, rq_T73, rq_L5, rq_T98, rq_T75, rq_T43, rq_L9, rq_T44, rq_L12, rq_T28, rq_I, rq_bt, wrap64] at h)
      | refine c_dt ?_
      | refine c_df ?_)
    | (show E2 _ _ _ _ _ _ _; first
      | refine n_seq ?_
      | (refine n_end hT ?_; cases h; first | rfl | exact congrArg AV.bool (by rw [Bool.eq_iff_iff]; simp))
      | refine ag2 rfl ⟨by omega, h⟩)
    | (show E4 _ _ _ _ _ _ _ _ _; first
      | refine dQ vLe ?_)
    | with_reducible refine mI h (fun hc h => ?_)
    | with_reducible refine mE h (fun hc h => ?_)
    | with_reducible refine mS h (fun h => ?_)
    | refine mT h (fun h => ?_)
    | refine mF h (fun h => ?_)
    | (cases h; done)
theorem regletref01_Times.does {k : Nat} {l0 : List Int} {l1 : List Int} {r : (List Int)} (h : regletref01_Times.f k l0 l1 = some r) (G : Objs) : Does Try.prog true 68 [.sl (l0.map Enc.enc), .sl (l1.map Enc.enc)] G (fun x _ => x = .sl (r.map Enc.enc)) := by
  unfold regletref01_Times.f at h
  try simp only [rdc98, rdc98', rq_T110, rq_L2, rq_T73, rq_L5, rq_T98, rq_T75, rq_T43, rq_L9, rq_T44, rq_L12, rq_T28, rq_I, rq_bt, wrap64] at h
  refine does_walk 2 (F := cfg [(8, 20), (9, 20), (14, 14)]) tb_ok mixed Try.func68 rfl (fun T hT => ?_)
  repeat' first
    | (show E3 _ _ _ _ _ _ _ _; first
      | refine oQ vL ?_
      | refine oQ vLv ?_
      | refine oQ vE ?_
      | refine oQ vEv ?_
      | refine oQ vEo ?_
      | refine oLe vLe ?_
      | refine oMk (α := Int) ?_
      | refine oW ?_
      | refine n_reg [0, 1, 4, 5, 6, 7, 8, 19, 25, 86] ?_
      | refine mB h (fun t ht h => oC (vC (fun G => regletref01_bare.does ht G)) ?_)
      | refine fz 112 ?_
      | with_reducible refine mI h (fun hc h => ?_)
      | with_reducible refine mE h (fun hc h => ?_)
      | with_reducible refine mS h (fun h => ?_)
      | refine oSe (_ : Int) ?_
      | refine oWs ?_
      | refine oWl ?_)
    | (show E1 _ _ _ _ _ _ _; first
      | refine c_seq ?_
      | refine c_reg ?_
      | refine c_drwf ?_
      | refine c_drw ?_
      | refine c_blk ?_
      | refine c_exit ?_
      | refine c_ret ?_
      | refine c_skip ?_
      | refine c_tt ?_
      | refine c_ff ?_
      | refine c_if h (fun hc h => ?_) (fun hc h => ?_)
      | refine c_fi h (fun hc h => ?_) (fun hc h => ?_)
      | with_reducible refine mI h (fun hc h => ?_)
      | with_reducible refine mE h (fun hc h => ?_)
      | with_reducible refine mS h (fun h => ?_)
      | refine c_ifs h (fun hc h => ?_) (fun hc h => ?_)
      | refine c_fis h (fun hc h => ?_) (fun hc h => ?_)
      | (refine lp4 (fun x0 x1 x5 x6 => [(0, .sl (x0.map Enc.enc)), (1, .sl (x1.map Enc.enc)), (5, .own 1 (x5.map Enc.enc)), (6, .int .i64 x6)]) (fun x0 x1 x5 x6 => []) (fun k_ x0 x1 x5 x6 => k_ ≤ k ∧ regletref01_Times.l0 k_ x0 x1 x5 x6 = some r) ⟨Nat.le_refl _, h⟩ ?_; intro k x0 x1 x5 x6 h; obtain ⟨hk, h⟩ := h; rcases k with _ | k; (simp only [regletref01_Times.l0] at h; cases h); simp only [regletref01_Times.l0, rdc98, rdc98', rq_T110, rq_L2, rq_T73, rq_L5, rq_T98, rq_T75, rq_T43, rq_L9, rq_T44, rq_L12, rq_T28, rq_I, rq_bt, wrap64] at h)
      | (refine lp5 (fun x0 x1 x5 x6 x7 => [(0, .sl (x0.map Enc.enc)), (1, .sl (x1.map Enc.enc)), (5, .own 1 (x5.map Enc.enc)), (6, .int .i64 x6), (7, .int .i64 x7)]) (fun x0 x1 x5 x6 x7 => []) (fun k_ x0 x1 x5 x6 x7 => k_ ≤ k ∧ regletref01_Times.l1 k_ x0 x1 x5 x6 x7 = some r) ⟨Nat.le_refl _, h⟩ ?_; intro k x0 x1 x5 x6 x7 h; obtain ⟨hk, h⟩ := h; rcases k with _ | k; (simp only [regletref01_Times.l1] at h; cases h); simp only [regletref01_Times.l1, rdc98, rdc98', rq_T110, rq_L2, rq_T73, rq_L5, rq_T98, rq_T75, rq_T43, rq_L9, rq_T44, rq_L12, rq_T28, rq_I, rq_bt, wrap64] at h)
      | (refine lp2 (fun x5 x8 => [(5, .own 1 (x5.map Enc.enc)), (8, .int .i64 x8)]) (fun x5 x8 => []) (fun k_ x5 x8 => k_ ≤ k ∧ regletref01_Times.l2 k_ x5 x8 = some r) ⟨Nat.le_refl _, h⟩ ?_; intro k x5 x8 h; obtain ⟨hk, h⟩ := h; rcases k with _ | k; (simp only [regletref01_Times.l2] at h; cases h); simp only [regletref01_Times.l2, rdc98, rdc98', rq_T110, rq_L2, rq_T73, rq_L5, rq_T98, rq_T75, rq_T43, rq_L9, rq_T44, rq_L12, rq_T28, rq_I, rq_bt, wrap64] at h)
      | refine c_dt ?_
      | refine c_df ?_)
    | (show E2 _ _ _ _ _ _ _; first
      | refine n_seq ?_
      | (refine n_end hT ?_; cases h; first | rfl | exact congrArg AV.bool (by rw [Bool.eq_iff_iff]; simp))
      | refine ag2 rfl ⟨by omega, h⟩
      | refine ag4 rfl ⟨by omega, h⟩
      | refine ag5 rfl ⟨by omega, h⟩)
    | (show E4 _ _ _ _ _ _ _ _ _; first
      | refine dQ vLe ?_
      | refine dQ vL ?_
      | refine dQ vLv ?_
      | refine dQ vE ?_
      | refine dQ vEv ?_
      | refine dQ vEo ?_
      | refine dW ?_
      | refine dE ?_)
    | (show E5 _ _ _ _ _ _ _ _; first
      | refine tSe (_ : Int) ?_
      | refine tQ vL ?_
      | refine tQ vLv ?_
      | refine tQ vE ?_
      | refine tQ vEv ?_
      | refine tQ vEo ?_
      | refine tW ?_
      | refine n_drw [0, 1, 4, 5, 6, 7, 8, 19, 25, 86] ?_)
    | with_reducible refine mI h (fun hc h => ?_)
    | with_reducible refine mE h (fun hc h => ?_)
    | with_reducible refine mS h (fun h => ?_)
    | refine mT h (fun h => ?_)
    | refine mF h (fun h => ?_)
    | (cases h; done)
theorem regletref01_Of.does {k : Nat} {a0 : Int} {r : (List Int)} (h : regletref01_Of.f k a0 = some r) (G : Objs) : Does Try.prog true 69 [.int .i64 a0] G (fun x _ => x = .sl (r.map Enc.enc)) := by
  unfold regletref01_Of.f at h
  try simp only [rdc98, rdc98', rq_T110, rq_L2, rq_T73, rq_L5, rq_T98, rq_T75, rq_T43, rq_L9, rq_T44, rq_L12, rq_T28, rq_I, rq_bt, wrap64] at h
  refine does_walk 1 (F := cfg []) tb_ok mixed Try.func69 rfl (fun T hT => ?_)
  repeat' first
    | (show E3 _ _ _ _ _ _ _ _; first
      | refine oBS ?_
      | refine oW ?_
      | refine n_reg [0, 2, 3, 7, 11] ?_
      | refine oAv (_ : Int) ?_
      | refine oA (_ : Int) ?_
      | refine oAe (_ : Int) ?_
      | refine oMv ?_
      | refine oM ?_
      | refine oMe ?_
      | refine mB h (fun t ht h => oC (vC (fun G => regletref01_Clamp.does ht G)) ?_)
      | refine fz 4 ?_
      | with_reducible refine mI h (fun hc h => ?_)
      | with_reducible refine mE h (fun hc h => ?_)
      | with_reducible refine mS h (fun h => ?_)
      | refine oWs ?_)
    | (show E1 _ _ _ _ _ _ _; first
      | refine c_seq ?_
      | refine c_reg ?_
      | refine c_blk ?_
      | refine c_exit ?_
      | refine c_ret ?_
      | refine c_skip ?_
      | refine c_tt ?_
      | refine c_ff ?_
      | refine c_if h (fun hc h => ?_) (fun hc h => ?_)
      | refine c_fi h (fun hc h => ?_) (fun hc h => ?_)
      | with_reducible refine mI h (fun hc h => ?_)
      | with_reducible refine mE h (fun hc h => ?_)
      | with_reducible refine mS h (fun h => ?_)
      | refine c_ifs h (fun hc h => ?_) (fun hc h => ?_)
      | refine c_fis h (fun hc h => ?_) (fun hc h => ?_)
      | (refine lp2 (fun x0 x3 => [(0, .int .i64 x0), (3, .own 1 (x3.map Enc.enc))]) (fun x0 x3 => []) (fun k_ x0 x3 => k_ ≤ k ∧ regletref01_Of.l0 k_ x0 x3 = some r) ⟨Nat.le_refl _, h⟩ ?_; intro k x0 x3 h; obtain ⟨hk, h⟩ := h; rcases k with _ | k; (simp only [regletref01_Of.l0] at h; cases h); simp only [regletref01_Of.l0, rdc98, rdc98', rq_T110, rq_L2, rq_T73, rq_L5, rq_T98, rq_T75, rq_T43, rq_L9, rq_T44, rq_L12, rq_T28, rq_I, rq_bt, wrap64] at h)
      | refine c_dt ?_
      | refine c_df ?_)
    | (show E2 _ _ _ _ _ _ _; first
      | refine n_seq ?_
      | (refine n_end hT ?_; cases h; first | rfl | exact congrArg AV.bool (by rw [Bool.eq_iff_iff]; simp))
      | refine ag2 rfl ⟨by omega, h⟩)
    | with_reducible refine mI h (fun hc h => ?_)
    | with_reducible refine mE h (fun hc h => ?_)
    | with_reducible refine mS h (fun h => ?_)
    | (rcases k with _ | k; (simp only [regletref01_Of.j0] at h; cases h); simp only [regletref01_Of.j0, rdc98, rdc98', rq_T110, rq_L2, rq_T73, rq_L5, rq_T98, rq_T75, rq_T43, rq_L9, rq_T44, rq_L12, rq_T28, rq_I, rq_bt, wrap64] at h)
    | refine mT h (fun h => ?_)
    | refine mF h (fun h => ?_)
    | (cases h; done)
theorem regletref01_Compare.does {k : Nat} {l0 : List Int} {l1 : List Int} {r : (Int)} (h : regletref01_Compare.f k l0 l1 = some r) (G : Objs) : Does Try.prog true 75 [.sl (l0.map Enc.enc), .sl (l1.map Enc.enc)] G (fun x _ => x = .int .i64 r) := by
  unfold regletref01_Compare.f at h
  try simp only [rdc98, rdc98', rq_T110, rq_L2, rq_T73, rq_L5, rq_T98, rq_T75, rq_T43, rq_L9, rq_T44, rq_L12, rq_T28, rq_I, rq_bt, wrap64] at h
  refine does_walk 2 (F := cfg [(9, 8), (11, 8)]) tb_ok mixed Try.func75 rfl (fun T hT => ?_)
  repeat' first
    | (show E3 _ _ _ _ _ _ _ _; first
      | refine oQ vL ?_
      | refine oQ vE ?_
      | refine oW ?_
      | refine n_reg [0, 1, 4, 5, 14, 19, 24, 35, 44] ?_
      | refine mB h (fun t ht h => oC (vC (fun G => regletref01_bare.does ht G)) ?_)
      | with_reducible refine mI h (fun hc h => ?_)
      | with_reducible refine mE h (fun hc h => ?_)
      | with_reducible refine mS h (fun h => ?_)
      | refine oWs ?_)
    | (show E1 _ _ _ _ _ _ _; first
      | refine c_seq ?_
      | refine c_reg ?_
      | refine c_drwf ?_
      | refine c_drw ?_
      | refine c_blk ?_
      | refine c_exit ?_
      | refine c_ret ?_
      | refine c_skip ?_
      | refine c_tt ?_
      | refine c_ff ?_
      | refine c_if h (fun hc h => ?_) (fun hc h => ?_)
      | refine c_fi h (fun hc h => ?_) (fun hc h => ?_)
      | with_reducible refine mI h (fun hc h => ?_)
      | with_reducible refine mE h (fun hc h => ?_)
      | with_reducible refine mS h (fun h => ?_)
      | refine c_ifs h (fun hc h => ?_) (fun hc h => ?_)
      | refine c_fis h (fun hc h => ?_) (fun hc h => ?_)
      | (refine lp3 (fun x0 x1 x5 => [(0, .sl (x0.map Enc.enc)), (1, .sl (x1.map Enc.enc)), (5, .int .i64 x5)]) (fun x0 x1 x5 => []) (fun k_ x0 x1 x5 => k_ ≤ k ∧ regletref01_Compare.l0 k_ x0 x1 x5 = some r) ⟨Nat.le_refl _, h⟩ ?_; intro k x0 x1 x5 h; obtain ⟨hk, h⟩ := h; rcases k with _ | k; (simp only [regletref01_Compare.l0] at h; cases h); simp only [regletref01_Compare.l0, rdc98, rdc98', rq_T110, rq_L2, rq_T73, rq_L5, rq_T98, rq_T75, rq_T43, rq_L9, rq_T44, rq_L12, rq_T28, rq_I, rq_bt, wrap64] at h)
      | refine c_dt ?_
      | refine c_df ?_)
    | (show E2 _ _ _ _ _ _ _; first
      | refine n_seq ?_
      | (refine n_end hT ?_; cases h; first | rfl | exact congrArg AV.bool (by rw [Bool.eq_iff_iff]; simp))
      | refine ag3 rfl ⟨by omega, h⟩)
    | (show E4 _ _ _ _ _ _ _ _ _; first
      | refine dQ vL ?_
      | refine dQ vE ?_
      | refine dW ?_
      | refine dE ?_)
    | (show E5 _ _ _ _ _ _ _ _; first
      | refine tQ vL ?_
      | refine tQ vE ?_
      | refine tW ?_
      | refine n_drw [0, 1, 4, 5, 14, 19, 24, 35, 44] ?_)
    | with_reducible refine mI h (fun hc h => ?_)
    | with_reducible refine mE h (fun hc h => ?_)
    | with_reducible refine mS h (fun h => ?_)
    | refine mT h (fun h => ?_)
    | refine mF h (fun h => ?_)
    | (cases h; done)
theorem regletref01_Quotient.does {k : Nat} {l0 : List Int} {l1 : List Int} {r : (Int × Bool)} (h : regletref01_Quotient.f k l0 l1 = some r) (G : Objs) : Does Try.prog true 67 [.sl (l0.map Enc.enc), .sl (l1.map Enc.enc)] G (fun x _ => x = .tup [.int .i64 r.1, .bool r.2]) := by
  unfold regletref01_Quotient.f at h
  try simp only [rdc98, rdc98', rq_T110, rq_L2, rq_T73, rq_L5, rq_T98, rq_T75, rq_T43, rq_L9, rq_T44, rq_L12, rq_T28, rq_I, rq_bt, wrap64] at h
  refine does_walk 2 (F := cfg []) tb_ok mixed Try.func67 rfl (fun T hT => ?_)
  repeat' first
    | (show E3 _ _ _ _ _ _ _ _; first
      | refine oW ?_
      | refine n_reg [0, 1, 4, 5, 6, 7, 8, 11, 25] ?_
      | refine mB h (fun t ht h => oC (vC (fun G => regletref01_Times.does ht G)) ?_)
      | refine mB h (fun t ht h => oC (vC (fun G => regletref01_Of.does ht G)) ?_)
      | refine mB h (fun t ht h => oC (vC (fun G => regletref01_Compare.does ht G)) ?_)
      | with_reducible refine mI h (fun hc h => ?_)
      | with_reducible refine mE h (fun hc h => ?_)
      | with_reducible refine mS h (fun h => ?_)
      | refine oWs ?_)
    | (show E1 _ _ _ _ _ _ _; first
      | refine c_seq ?_
      | refine c_reg ?_
      | refine c_blk ?_
      | refine c_exit ?_
      | refine c_ret ?_
      | refine c_skip ?_
      | refine c_tt ?_
      | refine c_ff ?_
      | refine c_if h (fun hc h => ?_) (fun hc h => ?_)
      | refine c_fi h (fun hc h => ?_) (fun hc h => ?_)
      | with_reducible refine mI h (fun hc h => ?_)
      | with_reducible refine mE h (fun hc h => ?_)
      | with_reducible refine mS h (fun h => ?_)
      | refine c_ifs h (fun hc h => ?_) (fun hc h => ?_)
      | refine c_fis h (fun hc h => ?_) (fun hc h => ?_)
      | (refine lp4 (fun x0 x1 x6 x7 => [(0, .sl (x0.map Enc.enc)), (1, .sl (x1.map Enc.enc)), (6, .int .i64 x6), (7, .int .i64 x7)]) (fun x0 x1 x6 x7 => []) (fun k_ x0 x1 x6 x7 => k_ ≤ k ∧ regletref01_Quotient.l0 k_ x0 x1 x6 x7 = some r) ⟨Nat.le_refl _, h⟩ ?_; intro k x0 x1 x6 x7 h; obtain ⟨hk, h⟩ := h; rcases k with _ | k; (simp only [regletref01_Quotient.l0] at h; cases h); simp only [regletref01_Quotient.l0, rdc98, rdc98', rq_T110, rq_L2, rq_T73, rq_L5, rq_T98, rq_T75, rq_T43, rq_L9, rq_T44, rq_L12, rq_T28, rq_I, rq_bt, wrap64] at h)
      | refine c_dt ?_
      | refine c_df ?_)
    | (show E2 _ _ _ _ _ _ _; first
      | refine n_seq ?_
      | (refine n_ends hT ?_; cases h; first | rfl | exact congrArg AV.bool (by rw [Bool.eq_iff_iff]; simp))
      | refine ag4 rfl ⟨by omega, h⟩)
    | with_reducible refine mI h (fun hc h => ?_)
    | with_reducible refine mE h (fun hc h => ?_)
    | with_reducible refine mS h (fun h => ?_)
    | refine mT h (fun h => ?_)
    | refine mF h (fun h => ?_)
    | (cases h; done)
theorem regletref01_MulDiv.does {k : Nat} {a0 : Int} {a1 : Int} {a2 : Int} {r : (Int × Bool)} (h : regletref01_MulDiv.f k a0 a1 a2 = some r) (G : Objs) : Does Try.prog true 58 [.int .i64 a0, .int .i64 a1, .int .i64 a2] G (fun x _ => x = .tup [.int .i64 r.1, .bool r.2]) := by
  unfold regletref01_MulDiv.f at h
  try simp only [rdc98, rdc98', rq_T110, rq_L2, rq_T73, rq_L5, rq_T98, rq_T75, rq_T43, rq_L9, rq_T44, rq_L12, rq_T28, rq_I, rq_bt, wrap64] at h
  refine does_walk 3 (F := cfg []) tb_ok mixed Try.func58 rfl (fun T hT => ?_)
  repeat' first
    | (show E3 _ _ _ _ _ _ _ _; first
      | refine oQ vpt ?_
      | refine oQ vpf ?_
      | refine oW ?_
      | refine n_reg [0, 1, 2, 6, 7, 8, 9, 10, 18, 31, 35, 39, 51, 54] ?_
      | refine gYq vpt ?_
      | refine gYq vpf ?_
      | refine gN ?_
      | refine gNf ?_
      | refine gY ?_
      | refine gT ?_
      | refine mB h (fun t ht h => oC (vC (fun G => regletref01_Clamp.does ht G)) ?_)
      | refine mB h (fun t ht h => oC (vC (fun G => regletref01_Quotient.does ht G)) ?_)
      | refine mB h (fun t ht h => oC (vC (fun G => regletref01_Times.does ht G)) ?_)
      | refine mB h (fun t ht h => oC (vC (fun G => regletref01_Of.does ht G)) ?_)
      | refine gif h (fun hc h => ?_) (fun hc h => ?_)
      | refine gfi h (fun hc h => ?_) (fun hc h => ?_)
      | with_reducible refine mI h (fun hc h => ?_)
      | with_reducible refine mE h (fun hc h => ?_)
      | with_reducible refine mS h (fun h => ?_)
      | refine oWs ?_
      | refine gYs ?_
      | refine gifs h (fun hc h => ?_) (fun hc h => ?_)
      | refine gfis h (fun hc h => ?_) (fun hc h => ?_)
      | (fail_if_success (refine g_lit ?_)); refine g_dt ?_
      | (fail_if_success (refine g_lit ?_)); refine g_df ?_)
    | (show E1 _ _ _ _ _ _ _; first
      | refine c_seq ?_
      | refine c_reg ?_
      | refine c_ret ?_
      | refine c_skip ?_
      | refine c_tt ?_
      | refine c_ff ?_
      | refine c_if h (fun hc h => ?_) (fun hc h => ?_)
      | refine c_fi h (fun hc h => ?_) (fun hc h => ?_)
      | with_reducible refine mI h (fun hc h => ?_)
      | with_reducible refine mE h (fun hc h => ?_)
      | with_reducible refine mS h (fun h => ?_)
      | refine c_ifs h (fun hc h => ?_) (fun hc h => ?_)
      | refine c_fis h (fun hc h => ?_) (fun hc h => ?_)
      | refine c_dt ?_
      | refine c_df ?_)
    | (show E2 _ _ _ _ _ _ _; first
      | refine n_seq ?_
      | (refine n_ends hT ?_; cases h; first | rfl | exact congrArg AV.bool (by rw [Bool.eq_iff_iff]; simp)))
    | with_reducible refine mI h (fun hc h => ?_)
    | with_reducible refine mE h (fun hc h => ?_)
    | with_reducible refine mS h (fun h => ?_)
    | (rcases k with _ | k; (simp only [regletref01_MulDiv.j0] at h; cases h); simp only [regletref01_MulDiv.j0, rdc98, rdc98', rq_T110, rq_L2, rq_T73, rq_L5, rq_T98, rq_T75, rq_T43, rq_L9, rq_T44, rq_L12, rq_T28, rq_I, rq_bt, wrap64] at h)
    | (rcases k with _ | k; (simp only [regletref01_MulDiv.j1] at h; cases h); simp only [regletref01_MulDiv.j1, rdc98, rdc98', rq_T110, rq_L2, rq_T73, rq_L5, rq_T98, rq_T75, rq_T43, rq_L9, rq_T44, rq_L12, rq_T28, rq_I, rq_bt, wrap64] at h)
    | (rcases k with _ | k; (simp only [regletref01_MulDiv.j2] at h; cases h); simp only [regletref01_MulDiv.j2, rdc98, rdc98', rq_T110, rq_L2, rq_T73, rq_L5, rq_T98, rq_T75, rq_T43, rq_L9, rq_T44, rq_L12, rq_T28, rq_I, rq_bt, wrap64] at h)
    | (rcases k with _ | k; (simp only [regletref01_MulDiv.j3] at h; cases h); simp only [regletref01_MulDiv.j3, rdc98, rdc98', rq_T110, rq_L2, rq_T73, rq_L5, rq_T98, rq_T75, rq_T43, rq_L9, rq_T44, rq_L12, rq_T28, rq_I, rq_bt, wrap64] at h)
    | refine mT h (fun h => ?_)
    | refine mF h (fun h => ?_)
    | (cases h; done)
theorem regletref15_scale.does {k : Nat} {a0 : Int} {a1 : Int} {a2 : Int} {r : (Int)} (h : regletref15_scale.f k a0 a1 a2 = some r) (G : Objs) : Does Try.prog true 43 [.int .i64 a0, .int .i64 a1, .int .i64 a2] G (fun x _ => x = .int .i64 r) := by
  unfold regletref15_scale.f at h
  try simp only [rdc98, rdc98', rq_T110, rq_L2, rq_T73, rq_L5, rq_T98, rq_T75, rq_T43, rq_L9, rq_T44, rq_L12, rq_T28, rq_I, rq_bt, wrap64] at h
  refine does_walk 3 (F := cfg []) tb_ok mixed Try.func43 rfl (fun T hT => ?_)
  repeat' first
    | (show E3 _ _ _ _ _ _ _ _; first
      | refine oW ?_
      | refine n_reg [0, 1, 2, 6, 7, 10] ?_
      | refine mB h (fun t ht h => oC (vC (fun G => regletref01_MulDiv.does ht G)) ?_)
      | with_reducible refine mI h (fun hc h => ?_)
      | with_reducible refine mE h (fun hc h => ?_)
      | with_reducible refine mS h (fun h => ?_)
      | refine oWs ?_)
    | (show E1 _ _ _ _ _ _ _; first
      | refine c_seq ?_
      | refine c_reg ?_
      | refine c_ret ?_
      | refine c_skip ?_
      | refine c_tt ?_
      | refine c_ff ?_
      | refine c_if h (fun hc h => ?_) (fun hc h => ?_)
      | refine c_fi h (fun hc h => ?_) (fun hc h => ?_)
      | with_reducible refine mI h (fun hc h => ?_)
      | with_reducible refine mE h (fun hc h => ?_)
      | with_reducible refine mS h (fun h => ?_)
      | refine c_ifs h (fun hc h => ?_) (fun hc h => ?_)
      | refine c_fis h (fun hc h => ?_) (fun hc h => ?_)
      | refine c_dt ?_
      | refine c_df ?_)
    | (show E2 _ _ _ _ _ _ _; first
      | refine n_seq ?_
      | (refine n_end hT ?_; cases h; first | rfl | exact congrArg AV.bool (by rw [Bool.eq_iff_iff]; simp)))
    | with_reducible refine mI h (fun hc h => ?_)
    | with_reducible refine mE h (fun hc h => ?_)
    | with_reducible refine mS h (fun h => ?_)
    | refine mT h (fun h => ?_)
    | refine mF h (fun h => ?_)
    | (cases h; done)
theorem regletref15_Stops.does {k : Nat} {l0 : List (S73)} {a1_0 : ByteArray} {l1_1 : List (S75)} {a1_2 : Int} {a1_3 : Int} {a1_4 : Int} {a1_5 : Bool} {a1_6 : Int} {a1_7 : Bool} {a1_8 : Bool} {r : ((List (S44)))} (h : regletref15_Stops.f k l0 a1_0 l1_1 a1_2 a1_3 a1_4 a1_5 a1_6 a1_7 a1_8 = some r) (G : Objs) : Does Try.prog true 14 [.sl (l0.map Enc.enc), .agg [.str a1_0, .sl (l1_1.map Enc.enc), .int .i64 a1_2, .int .i64 a1_3, .int .i64 a1_4, .bool a1_5, .int .i64 a1_6, .bool a1_7, .bool a1_8]] G (fun x _ => x = .sl (r.map Enc.enc)) := by
  unfold regletref15_Stops.f at h
  try simp only [rdc98, rdc98', rq_T110, rq_L2, rq_T73, rq_L5, rq_T98, rq_T75, rq_T43, rq_L9, rq_T44, rq_L12, rq_T28, rq_I, rq_bt, wrap64] at h
  refine does_walk 2 (F := cfg [(9, 6)]) tb_ok mixed Try.func14 rfl (fun T hT => ?_)
  repeat' first
    | (show E3 _ _ _ _ _ _ _ _; first
      | refine oQ vL ?_
      | refine oQ vLv ?_
      | refine oQ vE ?_
      | refine oQ vEv ?_
      | refine oQ vEo ?_
      | refine oLe vLe ?_
      | refine oBS ?_
      | refine oB ?_
      | refine oW ?_
      | refine n_reg [0, 1, 3, 4, 5, 6, 8, 9, 10, 11, 12, 13, 14, 28, 55, 70, 75, 87] ?_
      | refine oAv (⟨_, _⟩ : S44) ?_
      | refine oA (⟨_, _⟩ : S44) ?_
      | refine oAe (⟨_, _⟩ : S44) ?_
      | refine oAl (⟨_, _⟩ : S44) ?_
      | refine oMv ?_
      | refine oM ?_
      | refine oMe ?_
      | refine oMl ?_
      | refine mB h (fun t ht h => oC (vC (fun G => regletref02_Runes.does ht G)) ?_)
      | refine mB h (fun t ht h => oC (vC (fun G => regletref15_End.does ht G)) ?_)
      | refine mB h (fun t ht h => oC (vC (fun G => regletref04_Of.does ht G)) ?_)
      | refine mB h (fun t ht h => oC (vC (fun G => regletref02_Kind.does ht G)) ?_)
      | refine mB h (fun t ht h => oC (vC (fun G => regletref01_Add.does ht G)) ?_)
      | refine mB h (fun t ht h => oC (vC (fun G => regletref04_Width.does ht G)) ?_)
      | refine mB h (fun t ht h => oC (vC (fun G => regletref15_scale.does ht G)) ?_)
      | refine fz 17 ?_
      | refine fz 23 ?_
      | refine fz 47 ?_
      | refine fz 48 ?_
      | refine fz 53 ?_
      | refine fz 57 ?_
      | refine fz 58 ?_
      | refine fz 62 ?_
      | refine fz 56 ?_
      | refine fz 63 ?_
      | refine fz 78 ?_
      | refine fz 80 ?_
      | refine fz 82 ?_
      | refine fz 90 ?_
      | refine fz 92 ?_
      | refine fz 94 ?_
      | refine fz 97 ?_
      | refine fz 98 ?_
      | with_reducible refine mI h (fun hc h => ?_)
      | with_reducible refine mE h (fun hc h => ?_)
      | with_reducible refine mS h (fun h => ?_)
      | refine oSe (_ : Int) ?_
      | refine oWs ?_
      | refine oWl ?_)
    | (show E1 _ _ _ _ _ _ _; first
      | refine c_seq ?_
      | refine c_reg ?_
      | refine c_drwf ?_
      | refine c_drw ?_
      | refine c_blk ?_
      | refine c_exit ?_
      | refine c_ret ?_
      | refine c_skip ?_
      | refine c_tt ?_
      | refine c_ff ?_
      | refine c_if h (fun hc h => ?_) (fun hc h => ?_)
      | refine c_fi h (fun hc h => ?_) (fun hc h => ?_)
      | with_reducible refine mI h (fun hc h => ?_)
      | with_reducible refine mE h (fun hc h => ?_)
      | with_reducible refine mS h (fun h => ?_)
      | refine c_ifs h (fun hc h => ?_) (fun hc h => ?_)
      | refine c_fis h (fun hc h => ?_) (fun hc h => ?_)
      | (refine lp16 (fun x0 x5 x6 x8 x9 x10 x11 x437000 x437001 x437002 x437003 x437004 x437005 x437006 x437007 x437008 => [(0, .sl (x0.map Enc.enc)), (5, .sl (x5.map Enc.enc)), (6, .sl (x6.map Enc.enc)), (8, .own 2 (x8.map Enc.enc)), (9, .int .i64 x9), (10, .int .i64 x10), (11, .int .i64 x11), (3, .lptr 3 0)]) (fun x0 x5 x6 x8 x9 x10 x11 x437000 x437001 x437002 x437003 x437004 x437005 x437006 x437007 x437008 => [(3, [.str x437000, .sl (x437001.map Enc.enc), .int .i64 x437002, .int .i64 x437003, .int .i64 x437004, .bool x437005, .int .i64 x437006, .bool x437007, .bool x437008])]) (fun k_ x0 x5 x6 x8 x9 x10 x11 x437000 x437001 x437002 x437003 x437004 x437005 x437006 x437007 x437008 => k_ ≤ k ∧ regletref15_Stops.l0 k_ x0 x5 x6 x8 x9 x10 x11 x437000 x437001 x437002 x437003 x437004 x437005 x437006 x437007 x437008 = some r) ⟨Nat.le_refl _, h⟩ ?_; intro k x0 x5 x6 x8 x9 x10 x11 x437000 x437001 x437002 x437003 x437004 x437005 x437006 x437007 x437008 h; obtain ⟨hk, h⟩ := h; rcases k with _ | k; (simp only [regletref15_Stops.l0] at h; cases h); simp only [regletref15_Stops.l0, rdc98, rdc98', rq_T110, rq_L2, rq_T73, rq_L5, rq_T98, rq_T75, rq_T43, rq_L9, rq_T44, rq_L12, rq_T28, rq_I, rq_bt, wrap64] at h)
      | refine c_dt ?_
      | refine c_df ?_)
    | (show E2 _ _ _ _ _ _ _; first
      | refine n_seq ?_
      | (refine n_end hT ?_; cases h; first | rfl | exact congrArg AV.bool (by rw [Bool.eq_iff_iff]; simp))
      | refine ag16 rfl ⟨by omega, h⟩)
    | (show E4 _ _ _ _ _ _ _ _ _; first
      | refine dQ vLe ?_
      | refine mB h (fun t ht h => dQ (vC (fun G => regletref15_style.does ht G)) ?_)
      | refine dQ vL ?_
      | refine dQ vLv ?_
      | refine dQ vE ?_
      | refine dQ vEv ?_
      | refine dQ vEo ?_
      | refine dW ?_
      | refine dE ?_)
    | (show E5 _ _ _ _ _ _ _ _; first
      | refine tAl (⟨_, _⟩ : S44) ?_
      | refine tMl ?_
      | refine mB h (fun t ht h => tC (vC (fun G => regletref15_style.does ht G)) ?_)
      | refine tSe (_ : Int) ?_
      | refine tQ vL ?_
      | refine tQ vLv ?_
      | refine tQ vE ?_
      | refine tQ vEv ?_
      | refine tQ vEo ?_
      | refine tW ?_
      | refine n_drw [0, 1, 3, 4, 5, 6, 8, 9, 10, 11, 12, 13, 14, 28, 55, 70, 75, 87] ?_)
    | with_reducible refine mI h (fun hc h => ?_)
    | with_reducible refine mE h (fun hc h => ?_)
    | with_reducible refine mS h (fun h => ?_)
    | (rcases k with _ | k; (simp only [regletref15_Stops.j1] at h; cases h); simp only [regletref15_Stops.j1, rdc98, rdc98', rq_T110, rq_L2, rq_T73, rq_L5, rq_T98, rq_T75, rq_T43, rq_L9, rq_T44, rq_L12, rq_T28, rq_I, rq_bt, wrap64] at h)
    | refine mT h (fun h => ?_)
    | refine mF h (fun h => ?_)
    | (cases h; done)
theorem metrics_Table_Hyphen.does {l0 : S98} {l0s : List S98} {a1 : Int} {r : (Int)} (h : metrics_Table_Hyphen.f (l0 :: l0s) a1 = some r) (G : Objs) : Does Try.prog true 44 [.ptrF (Enc.enc l0), .int .i64 a1] G (fun x _ => x = .int .i64 r) := by
  unfold metrics_Table_Hyphen.f at h
  try simp only [rdc98, rdc98', rq_T110, rq_L2, rq_T73, rq_L5, rq_T98, rq_T75, rq_T43, rq_L9, rq_T44, rq_L12, rq_T28, rq_I, rq_bt, wrap64] at h
  refine does_walk 2 (F := cfg []) tb_ok mixed Try.func44 rfl (fun T hT => ?_)
  repeat' first
    | (show E3 _ _ _ _ _ _ _ _; first
      | refine oW ?_
      | refine n_reg [0, 1, 4] ?_
      | refine mB h (fun t ht h => oC (vC (fun G => metrics_Table_of.does ht G)) ?_)
      | with_reducible refine mI h (fun hc h => ?_)
      | with_reducible refine mE h (fun hc h => ?_)
      | with_reducible refine mS h (fun h => ?_)
      | refine oWs ?_)
    | (show E1 _ _ _ _ _ _ _; first
      | refine c_seq ?_
      | refine c_reg ?_
      | refine c_ret ?_)
    | (show E2 _ _ _ _ _ _ _; first
      | refine n_seq ?_
      | (refine n_end hT ?_; cases h; first | rfl | exact congrArg AV.bool (by rw [Bool.eq_iff_iff]; simp)))
    | with_reducible refine mI h (fun hc h => ?_)
    | with_reducible refine mE h (fun hc h => ?_)
    | with_reducible refine mS h (fun h => ?_)
    | refine mT h (fun h => ?_)
    | refine mF h (fun h => ?_)
    | (cases h; done)
end Go.AL.X
