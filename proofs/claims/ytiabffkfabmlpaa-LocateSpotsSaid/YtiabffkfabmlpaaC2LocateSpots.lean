/- What each function does: it answers as its model tells, and changes nothing (in 4 texts, numbered 3). -/
import Derived.Test.YtiabffkfabmlpaaC1LocateSpots
namespace Go.AL.X
open Go.Proofs Go.Proofs.Ytiabffkfabmlpaa.PLocateSpots
set_option linter.unusedVariables false
set_option linter.unusedSimpArgs false
set_option maxRecDepth 100000
set_option maxHeartbeats 800000
theorem regletref01_Add.does {a0 : Int} {a1 : Int} {r : (Int)} (h : regletref01_Add.f a0 a1 = some r) (G : Objs) : Does Try.prog true 41 [.int .i64 a0, .int .i64 a1] G (fun x _ => x = .int .i64 r) := by
  unfold regletref01_Add.f at h
  try simp only [rdc98, rdc98', rq_T110, rq_L2, rq_T73, rq_L5, rq_T98, rq_T75, rq_T43, rq_L9, rq_T44, rq_L12, rq_T28, rq_L14, rq_T24, rq_T54, rq_L17, rq_I, rq_bt, wrap64] at h
  refine does_walk 2 (F := cfg []) tb_ok mixed Try.func41 rfl (fun T hT => ?_)
  repeat' first
    | (show E3 _ _ _ _ _ _ _ _; first
      | refine oW ?_
      | refine n_reg [0, 1, 4] ?_
      | refine mB h (fun t ht h => oC (vC (fun G => regletref01_Clamp.does ht G)) ?_)
      | with_reducible refine mI h (fun hc h => ?_)
      | with_reducible refine mE h (fun hc h => ?_)
      | with_reducible refine mS h (fun h => ?_)
      | refine oWs ?_)
    | (show E1 _ _ _ _ _ _ _; first
      | refine c_seq ?_
      | refine c_reg ?_
      | refine c_ret ?_)
    | (show E2 _ _ _ _ _ _ _; first
      | refine n_seq ?_
      | (refine n_end hT ?_; cases h; first | rfl | exact congrArg AV.bool (by rw [Bool.eq_iff_iff]; simp)))
    | with_reducible refine mI h (fun hc h => ?_)
    | with_reducible refine mE h (fun hc h => ?_)
    | with_reducible refine mS h (fun h => ?_)
    | refine mT h (fun h => ?_)
    | refine mF h (fun h => ?_)
    | (cases h; done)
theorem regletref04_Width.does {k : Nat} {l0 : List (S73)} {a1 : Int} {a2 : Int} {r : (Int)} (h : regletref04_Width.f k l0 a1 a2 = some r) (G : Objs) : Does Try.prog true 42 [.sl (l0.map Enc.enc), .int .i64 a1, .int .i64 a2] G (fun x _ => x = .int .i64 r) := by
  unfold regletref04_Width.f at h
  try simp only [rdc98, rdc98', rq_T110, rq_L2, rq_T73, rq_L5, rq_T98, rq_T75, rq_T43, rq_L9, rq_T44, rq_L12, rq_T28, rq_L14, rq_T24, rq_T54, rq_L17, rq_I, rq_bt, wrap64] at h
  refine does_walk 3 (F := cfg []) tb_ok mixed Try.func42 rfl (fun T hT => ?_)
  repeat' first
    | (show E3 _ _ _ _ _ _ _ _; first
      | refine oQ vL ?_
      | refine oQ vE ?_
      | refine oQ vpt ?_
      | refine oQ vpf ?_
      | refine oW ?_
      | refine n_reg [0, 1, 2, 6, 7, 8, 13, 14, 19, 29, 49] ?_
      | refine gYq vL ?_
      | refine gYq vE ?_
      | refine gYq vpt ?_
      | refine gYq vpf ?_
      | refine gN ?_
      | refine gNf ?_
      | refine gY ?_
      | refine gT ?_
      | refine mB h (fun t ht h => oC (vC (fun G => regletref04_Of.does ht G)) ?_)
      | refine mB h (fun t ht h => oC (vC (fun G => regletref02_Kind.does ht G)) ?_)
      | refine gif h (fun hc h => ?_) (fun hc h => ?_)
      | refine gfi h (fun hc h => ?_) (fun hc h => ?_)
      | with_reducible refine mI h (fun hc h => ?_)
      | with_reducible refine mE h (fun hc h => ?_)
      | with_reducible refine mS h (fun h => ?_)
      | refine oWs ?_
      | refine oWl ?_
      | refine gYs ?_
      | refine gifs h (fun hc h => ?_) (fun hc h => ?_)
      | refine gfis h (fun hc h => ?_) (fun hc h => ?_)
      | (fail_if_success (refine g_lit ?_)); refine g_dt ?_
      | (fail_if_success (refine g_lit ?_)); refine g_df ?_)
    | (show E1 _ _ _ _ _ _ _; first
      | refine c_seq ?_
      | refine c_reg ?_
      | refine c_blk ?_
      | refine c_exit ?_
      | refine c_ret ?_
      | refine c_skip ?_
      | refine c_tt ?_
      | refine c_ff ?_
      | refine c_if h (fun hc h => ?_) (fun hc h => ?_)
      | refine c_fi h (fun hc h => ?_) (fun hc h => ?_)
      | with_reducible refine mI h (fun hc h => ?_)
      | with_reducible refine mE h (fun hc h => ?_)
      | with_reducible refine mS h (fun h => ?_)
      | refine c_ifs h (fun hc h => ?_) (fun hc h => ?_)
      | refine c_fis h (fun hc h => ?_) (fun hc h => ?_)
      | (refine lp10 (fun x2 x8 x339000 x339001 x339002 x339003 x339004 x339005 x339006 x339007 => [(2, .int .i64 x2), (8, .int .i64 x8), (7, .lptr 7 0)]) (fun x2 x8 x339000 x339001 x339002 x339003 x339004 x339005 x339006 x339007 => [(7, [.int .i64 x339000, .int .i64 x339001, .int .i64 x339002, .int .i64 x339003, .int .i64 x339004, .int .i64 x339005, .sl (x339006.map Enc.enc), .bool x339007])]) (fun k_ x2 x8 x339000 x339001 x339002 x339003 x339004 x339005 x339006 x339007 => k_ ≤ k ∧ regletref04_Width.l0 k_ x2 x8 x339000 x339001 x339002 x339003 x339004 x339005 x339006 x339007 = some r) ⟨Nat.le_refl _, h⟩ ?_; intro k x2 x8 x339000 x339001 x339002 x339003 x339004 x339005 x339006 x339007 h; obtain ⟨hk, h⟩ := h; rcases k with _ | k; (simp only [regletref04_Width.l0] at h; cases h); simp only [regletref04_Width.l0, rdc98, rdc98', rq_T110, rq_L2, rq_T73, rq_L5, rq_T98, rq_T75, rq_T43, rq_L9, rq_T44, rq_L12, rq_T28, rq_L14, rq_T24, rq_T54, rq_L17, rq_I, rq_bt, wrap64] at h)
      | refine c_dt ?_
      | refine c_df ?_)
    | (show E2 _ _ _ _ _ _ _; first
      | refine n_seq ?_
      | (refine n_end hT ?_; cases h; first | rfl | exact congrArg AV.bool (by rw [Bool.eq_iff_iff]; simp))
      | refine ag10 rfl ⟨by omega, h⟩)
    | with_reducible refine mI h (fun hc h => ?_)
    | with_reducible refine mE h (fun hc h => ?_)
    | with_reducible refine mS h (fun h => ?_)
    | (rcases k with _ | k; (simp only [regletref04_Width.j0] at h; cases h); simp only [regletref04_Width.j0, rdc98, rdc98', rq_T110, rq_L2, rq_T73, rq_L5, rq_T98, rq_T75, rq_T43, rq_L9, rq_T44, rq_L12, rq_T28, rq_L14, rq_T24, rq_T54, rq_L17, rq_I, rq_bt, wrap64] at h)
    | refine mT h (fun h => ?_)
    | refine mF h (fun h => ?_)
    | (cases h; done)
theorem regletref01_bare.does {k : Nat} {l0 : List Int} {r : (List Int)} (h : regletref01_bare.f k l0 = some r) (G : Objs) : Does Try.prog true 76 [.sl (l0.map Enc.enc)] G (fun x _ => x = .sl (r.map Enc.enc)) := by
  unfold regletref01_bare.f at h
  try simp only [rdc98, rdc98', rq_T110, rq_L2, rq_T73, rq_L5, rq_T98, rq_T75, rq_T43, rq_L9, rq_T44, rq_L12, rq_T28, rq_L14, rq_T24, rq_T54, rq_L17, rq_I, rq_bt, wrap64] at h
  refine does_walk 1 (F := cfg []) tb_ok mixed Try.func76 rfl (fun T hT => ?_)
  repeat' first
    | (show E3 _ _ _ _ _ _ _ _; first
      | refine oQ vL ?_
      | refine oQ vLv ?_
      | refine oQ vE ?_
      | refine oQ vEv ?_
      | refine oQ vEo ?_
      | refine oQ vSh ?_
      | refine oQ vpt ?_
      | refine oQ vpf ?_
      | refine oLe vLe ?_
      | refine oBS ?_
      | refine oW ?_
      | refine n_reg [0, 2, 3, 15] ?_
      | refine gYq vL ?_
      | refine gYq vLv ?_
      | refine gYq vE ?_
      | refine gYq vEv ?_
      | refine gYq vEo ?_
      | refine gYq vSh ?_
      | refine gYq vpt ?_
      | refine gYq vpf ?_
      | refine gLe vLe ?_
      | refine gN ?_
      | refine gNf ?_
      | refine gY ?_
      | refine gT ?_
      | refine oAv (_ : Int) ?_
      | refine oA (_ : Int) ?_
      | refine oAe (_ : Int) ?_
      | refine oMv ?_
      | refine oM ?_
      | refine oMe ?_
      | refine gif h (fun hc h => ?_) (fun hc h => ?_)
      | refine gfi h (fun hc h => ?_) (fun hc h => ?_)
      | with_reducible refine mI h (fun hc h => ?_)
      | with_reducible refine mE h (fun hc h => ?_)
      | with_reducible refine mS h (fun h => ?_)
      | refine oWs ?_
      | refine gYs ?_
      | refine gifs h (fun hc h => ?_) (fun hc h => ?_)
      | refine gfis h (fun hc h => ?_) (fun hc h => ?_)
      | (fail_if_success (refine g_lit ?_)); refine g_dt ?_
      | (fail_if_success (refine g_lit ?_)); refine g_df ?_)
    | (show E1 _ _ _ _ _ _ _; first
      | refine c_seq ?_
      | refine c_reg ?_
      | refine c_blk ?_
      | refine c_exit ?_
      | refine c_ret ?_
      | refine c_skip ?_
      | refine c_tt ?_
      | refine c_ff ?_
      | refine c_if h (fun hc h => ?_) (fun hc h => ?_)
      | refine c_fi h (fun hc h => ?_) (fun hc h => ?_)
      | with_reducible refine mI h (fun hc h => ?_)
      | with_reducible refine mE h (fun hc h => ?_)
      | with_reducible refine mS h (fun h => ?_)
      | refine c_ifs h (fun hc h => ?_) (fun hc h => ?_)
      | refine c_fis h (fun hc h => ?_) (fun hc h => ?_)
      | (refine lp2 (fun x0 x3 => [(0, .sl (x0.map Enc.enc)), (3, .int .i64 x3)]) (fun x0 x3 => []) (fun k_ x0 x3 => k_ ≤ k ∧ regletref01_bare.l0 k_ x0 x3 = some r) ⟨Nat.le_refl _, h⟩ ?_; intro k x0 x3 h; obtain ⟨hk, h⟩ := h; rcases k with _ | k; (simp only [regletref01_bare.l0] at h; cases h); simp only [regletref01_bare.l0, rdc98, rdc98', rq_T110, rq_L2, rq_T73, rq_L5, rq_T98, rq_T75, rq_T43, rq_L9, rq_T44, rq_L12, rq_T28, rq_L14, rq_T24, rq_T54, rq_L17, rq_I, rq_bt, wrap64] at h)
      | refine c_dt ?_
      | refine c_df ?_)
    | (show E2 _ _ _ _ _ _ _; first
      | refine n_seq ?_
      | (refine n_end hT ?_; cases h; first | rfl | exact congrArg AV.bool (by rw [Bool.eq_iff_iff]; simp))
      | refine ag2 rfl ⟨by omega, h⟩)
    | (show E4 _ _ _ _ _ _ _ _ _; first
      | refine dQ vLe ?_)
    | with_reducible refine mI h (fun hc h => ?_)
    | with_reducible refine mE h (fun hc h => ?_)
    | with_reducible refine mS h (fun h => ?_)
    | refine mT h (fun h => ?_)
    | refine mF h (fun h => ?_)
    | (cases h; done)
theorem regletref01_Times.does {k : Nat} {l0 : List Int} {l1 : List Int} {r : (List Int)} (h : regletref01_Times.f k l0 l1 = some r) (G : Objs) : Does Try.prog true 68 [.sl (l0.map Enc.enc), .sl (l1.map Enc.enc)] G (fun x _ => x = .sl (r.map Enc.enc)) := by
  unfold regletref01_Times.f at h
  try simp only [rdc98, rdc98', rq_T110, rq_L2, rq_T73, rq_L5, rq_T98, rq_T75, rq_T43, rq_L9, rq_T44, rq_L12, rq_T28, rq_L14, rq_T24, rq_T54, rq_L17, rq_I, rq_bt, wrap64] at h
  refine does_walk 2 (F := cfg [(8, 20), (9, 20), (14, 14)]) tb_ok mixed Try.func68 rfl (fun T hT => ?_)
  repeat' first
    | (show E3 _ _ _ _ _ _ _ _; first
      | refine oQ vL ?_
      | refine oQ vLv ?_
      | refine oQ vE ?_
      | refine oQ vEv ?_
      | refine oQ vEo ?_
      | refine oLe vLe ?_
      | refine oMk (α := Int) ?_
      | refine oW ?_
      | refine n_reg [0, 1, 4, 5, 6, 7, 8, 19, 25, 86] ?_
      | refine mB h (fun t ht h => oC (vC (fun G => regletref01_bare.does ht G)) ?_)
      | refine fz 112 ?_
      | with_reducible refine mI h (fun hc h => ?_)
      | with_reducible refine mE h (fun hc h => ?_)
      | with_reducible refine mS h (fun h => ?_)
      | refine oSe (_ : Int) ?_
      | refine oWs ?_
      | refine oWl ?_)
    | (show E1 _ _ _ _ _ _ _; first
      | refine c_seq ?_
      | refine c_reg ?_
      | refine c_drwf ?_
      | refine c_drw ?_
      | refine c_blk ?_
      | refine c_exit ?_
      | refine c_ret ?_
      | refine c_skip ?_
      | refine c_tt ?_
      | refine c_ff ?_
      | refine c_if h (fun hc h => ?_) (fun hc h => ?_)
      | refine c_fi h (fun hc h => ?_) (fun hc h => ?_)
      | with_reducible refine mI h (fun hc h => ?_)
      | with_reducible refine mE h (fun hc h => ?_)
      | with_reducible refine mS h (fun h => ?_)
      | refine c_ifs h (fun hc h => ?_) (fun hc h => ?_)
      | refine c_fis h (fun hc h => ?_) (fun hc h => ?_)
      | (refine lp4 (fun x0 x1 x5 x6 => [(0, .sl (x0.map Enc.enc)), (1, .sl (x1.map Enc.enc)), (5, .own 1 (x5.map Enc.enc)), (6, .int .i64 x6)]) (fun x0 x1 x5 x6 => []) (fun k_ x0 x1 x5 x6 => k_ ≤ k ∧ regletref01_Times.l0 k_ x0 x1 x5 x6 = some r) ⟨Nat.le_refl _, h⟩ ?_; intro k x0 x1 x5 x6 h; obtain ⟨hk, h⟩ := h; rcases k with _ | k; (simp only [regletref01_Times.l0] at h; cases h); simp only [regletref01_Times.l0, rdc98, rdc98', rq_T110, rq_L2, rq_T73, rq_L5, rq_T98, rq_T75, rq_T43, rq_L9, rq_T44, rq_L12, rq_T28, rq_L14, rq_T24, rq_T54, rq_L17, rq_I, rq_bt, wrap64] at h)
      | (refine lp5 (fun x0 x1 x5 x6 x7 => [(0, .sl (x0.map Enc.enc)), (1, .sl (x1.map Enc.enc)), (5, .own 1 (x5.map Enc.enc)), (6, .int .i64 x6), (7, .int .i64 x7)]) (fun x0 x1 x5 x6 x7 => []) (fun k_ x0 x1 x5 x6 x7 => k_ ≤ k ∧ regletref01_Times.l1 k_ x0 x1 x5 x6 x7 = some r) ⟨Nat.le_refl _, h⟩ ?_; intro k x0 x1 x5 x6 x7 h; obtain ⟨hk, h⟩ := h; rcases k with _ | k; (simp only [regletref01_Times.l1] at h; cases h); simp only [regletref01_Times.l1, rdc98, rdc98', rq_T110, rq_L2, rq_T73, rq_L5, rq_T98, rq_T75, rq_T43, rq_L9, rq_T44, rq_L12, rq_T28, rq_L14, rq_T24, rq_T54, rq_L17, rq_I, rq_bt, wrap64] at h)
      | (refine lp2 (fun x5 x8 => [(5, .own 1 (x5.map Enc.enc)), (8, .int .i64 x8)]) (fun x5 x8 => []) (fun k_ x5 x8 => k_ ≤ k ∧ regletref01_Times.l2 k_ x5 x8 = some r) ⟨Nat.le_refl _, h⟩ ?_; intro k x5 x8 h; obtain ⟨hk, h⟩ := h; rcases k with _ | k; (simp only [regletref01_Times.l2] at h; cases h); simp only [regletref01_Times.l2, rdc98, rdc98', rq_T110, rq_L2, rq_T73, rq_L5, rq_T98, rq_T75, rq_T43, rq_L9, rq_T44, rq_L12, rq_T28, rq_L14, rq_T24, rq_T54, rq_L17, rq_I, rq_bt, wrap64] at h)
      | refine c_dt ?_
      | refine c_df ?_)
    | (show E2 _ _ _ _ _ _ _; first
      | refine n_seq ?_
      | (refine n_end hT ?_; cases h; first | rfl | exact congrArg AV.bool (by rw [Bool.eq_iff_iff]; simp))
      | refine ag2 rfl ⟨by omega, h⟩
      | refine ag4 rfl ⟨by omega, h⟩
      | refine ag5 rfl ⟨by omega, h⟩)
    | (show E4 _ _ _ _ _ _ _ _ _; first
      | refine dQ vLe ?_
      | refine dQ vL ?_
      | refine dQ vLv ?_
      | refine dQ vE ?_
      | refine dQ vEv ?_
      | refine dQ vEo ?_
      | refine dW ?_
      | refine dE ?_)
    | (show E5 _ _ _ _ _ _ _ _; first
      | refine tSe (_ : Int) ?_
      | refine tQ vL ?_
      | refine tQ vLv ?_
      | refine tQ vE ?_
      | refine tQ vEv ?_
      | refine tQ vEo ?_
      | refine tW ?_
      | refine n_drw [0, 1, 4, 5, 6, 7, 8, 19, 25, 86] ?_)
    | with_reducible refine mI h (fun hc h => ?_)
    | with_reducible refine mE h (fun hc h => ?_)
    | with_reducible refine mS h (fun h => ?_)
    | refine mT h (fun h => ?_)
    | refine mF h (fun h => ?_)
    | (cases h; done)
theorem regletref01_Of.does {k : Nat} {a0 : Int} {r : (List Int)} (h : regletref01_Of.f k a0 = some r) (G : Objs) : Does Try.prog true 69 [.int .i64 a0] G (fun x _ => x = .sl (r.map Enc.enc)) := by
  unfold regletref01_Of.f at h
  try simp only [rdc98, rdc98', rq_T110, rq_L2, rq_T73, rq_L5, rq_T98, rq_T75, rq_T43, rq_L9, rq_T44, rq_L12, rq_T28, rq_L14, rq_T24, rq_T54, rq_L17, rq_I, rq_bt, wrap64] at h
  refine does_walk 1 (F := cfg []) tb_ok mixed Try.func69 rfl (fun T hT => ?_)
  repeat' first
    | (show E3 _ _ _ _ _ _ _ _; first
      | refine oBS ?_
      | refine oW ?_
      | refine n_reg [0, 2, 3, 7, 11] ?_
      | refine oAv (_ : Int) ?_
      | refine oA (_ : Int) ?_
      | refine oAe (_ : Int) ?_
      | refine oMv ?_
      | refine oM ?_
      | refine oMe ?_
      | refine mB h (fun t ht h => oC (vC (fun G => regletref01_Clamp.does ht G)) ?_)
      | refine fz 4 ?_
      | with_reducible refine mI h (fun hc h => ?_)
      | with_reducible refine mE h (fun hc h => ?_)
      | with_reducible refine mS h (fun h => ?_)
      | refine oWs ?_)
    | (show E1 _ _ _ _ _ _ _; first
      | refine c_seq ?_
      | refine c_reg ?_
      | refine c_blk ?_
      | refine c_exit ?_
      | refine c_ret ?_
      | refine c_skip ?_
      | refine c_tt ?_
      | refine c_ff ?_
      | refine c_if h (fun hc h => ?_) (fun hc h => ?_)
      | refine c_fi h (fun hc h => ?_) (fun hc h => ?_)
      | with_reducible refine mI h (fun hc h => ?_)
      | with_reducible refine mE h (fun hc h => ?_)
      | with_reducible refine mS h (fun h => ?_)
      | refine c_ifs h (fun hc h => ?_) (fun hc h => ?_)
      | refine c_fis h (fun hc h => ?_) (fun hc h => ?_)
      | (refine lp2 (fun x0 x3 => [(0, .int .i64 x0), (3, .own 1 (x3.map Enc.enc))]) (fun x0 x3 => []) (fun k_ x0 x3 => k_ ≤ k ∧ regletref01_Of.l0 k_ x0 x3 = some r) ⟨Nat.le_refl _, h⟩ ?_; intro k x0 x3 h; obtain ⟨hk, h⟩ := h; rcases k with _ | k; (simp only [regletref01_Of.l0] at h; cases h); simp only [regletref01_Of.l0, rdc98, rdc98', rq_T110, rq_L2, rq_T73, rq_L5, rq_T98, rq_T75, rq_T43, rq_L9, rq_T44, rq_L12, rq_T28, rq_L14, rq_T24, rq_T54, rq_L17, rq_I, rq_bt, wrap64] at h)
      | refine c_dt ?_
      | refine c_df ?_)
    | (show E2 _ _ _ _ _ _ _; first
      | refine n_seq ?_
      | (refine n_end hT ?_; cases h; first | rfl | exact congrArg AV.bool (by rw [Bool.eq_iff_iff]; simp))
      | refine ag2 rfl ⟨by omega, h⟩)
    | with_reducible refine mI h (fun hc h => ?_)
    | with_reducible refine mE h (fun hc h => ?_)
    | with_reducible refine mS h (fun h => ?_)
    | (rcases k with _ | k; (simp only [regletref01_Of.j0] at h; cases h); simp only [regletref01_Of.j0, rdc98, rdc98', rq_T110, rq_L2, rq_T73, rq_L5, rq_T98, rq_T75, rq_T43, rq_L9, rq_T44, rq_L12, rq_T28, rq_L14, rq_T24, rq_T54, rq_L17, rq_I, rq_bt, wrap64] at h)
    | refine mT h (fun h => ?_)
    | refine mF h (fun h => ?_)
    | (cases h; done)
theorem regletref01_Compare.does {k : Nat} {l0 : List Int} {l1 : List Int} {r : (Int)} (h : regletref01_Compare.f k l0 l1 = some r) (G : Objs) : Does Try.prog true 75 [.sl (l0.map Enc.enc), .sl (l1.map Enc.enc)] G (fun x _ => x = .int .i64 r) := by
  unfold regletref01_Compare.f at h
  try simp only [rdc98, rdc98', rq_T110, rq_L2, rq_T73, rq_L5, rq_T98, rq_T75, rq_T43, rq_L9, rq_T44, rq_L12, rq_T28, rq_L14, rq_T24, rq_T54, rq_L17, rq_I, rq_bt, wrap64] at h
  refine does_walk 2 (F := cfg [(9, 8), (11, 8)]) tb_ok mixed Try.func75 rfl (fun T hT => ?_)
  repeat' first
    | (show E3 _ _ _ _ _ _ _ _; first
      | refine oQ vL ?_
      | refine oQ vE ?_
      | refine oW ?_
      | refine n_reg [0, 1, 4, 5, 14, 19, 24, 35, 44] ?_
      | refine mB h (fun t ht h => oC (vC (fun G => regletref01_bare.does ht G)) ?_)
      | with_reducible refine mI h (fun hc h => ?_)
      | with_reducible refine mE h (fun hc h => ?_)
      | with_reducible refine mS h (fun h => ?_)
      | refine oWs ?_)
    | (show E1 _ _ _ _ _ _ _; first
      | refine c_seq ?_
      | refine c_reg ?_
      | refine c_drwf ?_
      | refine c_drw ?_
      | refine c_blk ?_
      | refine c_exit ?_
      | refine c_ret ?_
      | refine c_skip ?_
      | refine c_tt ?_
      | refine c_ff ?_
      | refine c_if h (fun hc h => ?_) (fun hc h => ?_)
      | refine c_fi h (fun hc h => ?_) (fun hc h => ?_)
      | with_reducible refine mI h (fun hc h => ?_)
      | with_reducible refine mE h (fun hc h => ?_)
      | with_reducible refine mS h (fun h => ?_)
      | refine c_ifs h (fun hc h => ?_) (fun hc h => ?_)
      | refine c_fis h (fun hc h => ?_) (fun hc h => ?_)
      | (refine lp3 (fun x0 x1 x5 => [(0, .sl (x0.map Enc.enc)), (1, .sl (x1.map Enc.enc)), (5, .int .i64 x5)]) (fun x0 x1 x5 => []) (fun k_ x0 x1 x5 => k_ ≤ k ∧ regletref01_Compare.l0 k_ x0 x1 x5 = some r) ⟨Nat.le_refl _, h⟩ ?_; intro k x0 x1 x5 h; obtain ⟨hk, h⟩ := h; rcases k with _ | k; (simp only [regletref01_Compare.l0] at h; cases h); simp only [regletref01_Compare.l0, rdc98, rdc98', rq_T110, rq_L2, rq_T73, rq_L5, rq_T98, rq_T75, rq_T43, rq_L9, rq_T44, rq_L12, rq_T28, rq_L14, rq_T24, rq_T54, rq_L17, rq_I, rq_bt, wrap64] at h)
      | refine c_dt ?_
      | refine c_df ?_)
    | (show E2 _ _ _ _ _ _ _; first
      | refine n_seq ?_
      | (refine n_end hT ?_; cases h; first | rfl | exact congrArg AV.bool (by rw [Bool.eq_iff_iff]; simp))
      | refine ag3 rfl ⟨by omega, h⟩)
    | (show E4 _ _ _ _ _ _ _ _ _; first
      | refine dQ vL ?_
      | refine dQ vE ?_
      | refine dW ?_
      | refine dE ?_)
    | (show E5 _ _ _ _ _ _ _ _; first
      | refine tQ vL ?_
      | refine tQ vE ?_
      | refine tW ?_
      | refine n_drw [0, 1, 4, 5, 14, 19, 24, 35, 44] ?_)
    | with_reducible refine mI h (fun hc h => ?_)
    | with_reducible refine mE h (fun hc h => ?_)
    | with_reducible refine mS h (fun h => ?_)
    | refine mT h (fun h => ?_)
    | refine mF h (fun h => ?_)
    | (cases h; done)
theorem regletref01_Quotient.does {k : Nat} {l0 : List Int} {l1 : List Int} {r : (Int × Bool)} (h : regletref01_Quotient.f k l0 l1 = some r) (G : Objs) : Does Try.prog true 67 [.sl (l0.map Enc.enc), .sl (l1.map Enc.enc)] G (fun x _ => x = .tup [.int .i64 r.1, .bool r.2]) := by
  unfold regletref01_Quotient.f at h
  try simp only [rdc98, rdc98', rq_T110, rq_L2, rq_T73, rq_L5, rq_T98, rq_T75, rq_T43, rq_L9, rq_T44, rq_L12, rq_T28, rq_L14, rq_T24, rq_T54, rq_L17, rq_I, rq_bt, wrap64] at h
  refine does_walk 2 (F := cfg []) tb_ok mixed Try.func67 rfl (fun T hT => ?_)
  repeat' first
    | (show E3 _ _ _ _ _ _ _ _; first
      | refine oW ?_
      | refine n_reg [0, 1, 4, 5, 6, 7, 8, 11, 25] ?_
      | refine mB h (fun t ht h => oC (vC (fun G => regletref01_Times.does ht G)) ?_)
      | refine mB h (fun t ht h => oC (vC (fun G => regletref01_Of.does ht G)) ?_)
      | refine mB h (fun t ht h => oC (vC (fun G => regletref01_Compare.does ht G)) ?_)
      | with_reducible refine mI h (fun hc h => ?_)
      | with_reducible refine mE h (fun hc h => ?_)
      | with_reducible refine mS h (fun h => ?_)
      | refine oWs ?_)
    | (show E1 _ _ _ _ _ _ _; first
      | refine c_seq ?_
      | refine c_reg ?_
      | refine c_blk ?_
      | refine c_exit ?_
      | refine c_ret ?_
      | refine c_skip ?_
      | refine c_tt ?_
      | refine c_ff ?_
      | refine c_if h (fun hc h => ?_) (fun hc h => ?_)
      | refine c_fi h (fun hc h => ?_) (fun hc h => ?_)
      | with_reducible refine mI h (fun hc h => ?_)
      | with_reducible refine mE h (fun hc h => ?_)
      | with_reducible refine mS h (fun h => ?_)
      | refine c_ifs h (fun hc h => ?_) (fun hc h => ?_)
      | refine c_fis h (fun hc h => ?_) (fun hc h => ?_)
      | (refine lp4 (fun x0 x1 x6 x7 => [(0, .sl (x0.map Enc.enc)), (1, .sl (x1.map Enc.enc)), (6, .int .i64 x6), (7, .int .i64 x7)]) (fun x0 x1 x6 x7 => []) (fun k_ x0 x1 x6 x7 => k_ ≤ k ∧ regletref01_Quotient.l0 k_ x0 x1 x6 x7 = some r) ⟨Nat.le_refl _, h⟩ ?_; intro k x0 x1 x6 x7 h; obtain ⟨hk, h⟩ := h; rcases k with _ | k; (simp only [regletref01_Quotient.l0] at h; cases h); simp only [regletref01_Quotient.l0, rdc98, rdc98', rq_T110, rq_L2, rq_T73, rq_L5, rq_T98, rq_T75, rq_T43, rq_L9, rq_T44, rq_L12, rq_T28, rq_L14, rq_T24, rq_T54, rq_L17, rq_I, rq_bt, wrap64] at h)
      | refine c_dt ?_
      | refine c_df ?_)
    | (show E2 _ _ _ _ _ _ _; first
      | refine n_seq ?_
      | (refine n_ends hT ?_; cases h; first | rfl | exact congrArg AV.bool (by rw [Bool.eq_iff_iff]; simp))
      | refine ag4 rfl ⟨by omega, h⟩)
    | with_reducible refine mI h (fun hc h => ?_)
    | with_reducible refine mE h (fun hc h => ?_)
    | with_reducible refine mS h (fun h => ?_)
    | refine mT h (fun h => ?_)
    | refine mF h (fun h => ?_)
    | (cases h; done)
theorem regletref01_MulDiv.does {k : Nat} {a0 : Int} {a1 : Int} {a2 : Int} {r : (Int × Bool)} (h : regletref01_MulDiv.f k a0 a1 a2 = some r) (G : Objs) : Does Try.prog true 58 [.int .i64 a0, .int .i64 a1, .int .i64 a2] G (fun x _ => x = .tup [.int .i64 r.1, .bool r.2]) := by
  unfold regletref01_MulDiv.f at h
  try simp only [rdc98, rdc98', rq_T110, rq_L2, rq_T73, rq_L5, rq_T98, rq_T75, rq_T43, rq_L9, rq_T44, rq_L12, rq_T28, rq_L14, rq_T24, rq_T54, rq_L17, rq_I, rq_bt, wrap64] at h
  refine does_walk 3 (F := cfg []) tb_ok mixed Try.func58 rfl (fun T hT => ?_)
  repeat' first
    | (show E3 _ _ _ _ _ _ _ _; first
      | refine oQ vpt ?_
      | refine oQ vpf ?_
      | refine oW ?_
      | refine n_reg [0, 1, 2, 6, 7, 8, 9, 10, 18, 31, 35, 39, 51, 54] ?_
      | refine gYq vpt ?_
      | refine gYq vpf ?_
      | refine gN ?_
      | refine gNf ?_
      | refine gY ?_
      | refine gT ?_
      | refine mB h (fun t ht h => oC (vC (fun G => regletref01_Clamp.does ht G)) ?_)
      | refine mB h (fun t ht h => oC (vC (fun G => regletref01_Quotient.does ht G)) ?_)
      | refine mB h (fun t ht h => oC (vC (fun G => regletref01_Times.does ht G)) ?_)
      | refine mB h (fun t ht h => oC (vC (fun G => regletref01_Of.does ht G)) ?_)
      | refine gif h (fun hc h => ?_) (fun hc h => ?_)
      | refine gfi h (fun hc h => ?_) (fun hc h => ?_)
      | with_reducible refine mI h (fun hc h => ?_)
      | with_reducible refine mE h (fun hc h => ?_)
      | with_reducible refine mS h (fun h => ?_)
      | refine oWs ?_
      | refine gYs ?_
      | refine gifs h (fun hc h => ?_) (fun hc h => ?_)
      | refine gfis h (fun hc h => ?_) (fun hc h => ?_)
      | (fail_if_success (refine g_lit ?_)); refine g_dt ?_
      | (fail_if_success (refine g_lit ?_)); refine g_df ?_)
    | (show E1 _ _ _ _ _ _ _; first
      | refine c_seq ?_
      | refine c_reg ?_
      | refine c_ret ?_
      | refine c_skip ?_
      | refine c_tt ?_
      | refine c_ff ?_
      | refine c_if h (fun hc h => ?_) (fun hc h => ?_)
      | refine c_fi h (fun hc h => ?_) (fun hc h => ?_)
      | with_reducible refine mI h (fun hc h => ?_)
      | with_reducible refine mE h (fun hc h => ?_)
      | with_reducible refine mS h (fun h => ?_)
      | refine c_ifs h (fun hc h => ?_) (fun hc h => ?_)
      | refine c_fis h (fun hc h => ?_) (fun hc h => ?_)
      | refine c_dt ?_
      | refine c_df ?_)
    | (show E2 _ _ _ _ _ _ _; first
      | refine n_seq ?_
      | (refine n_ends hT ?_; cases h; first | rfl | exact congrArg AV.bool (by rw [Bool.eq_iff_iff]; simp)))
    | with_reducible refine mI h (fun hc h => ?_)
    | with_reducible refine mE h (fun hc h => ?_)
    | with_reducible refine mS h (fun h => ?_)
    | (rcases k with _ | k; (simp only [regletref01_MulDiv.j0] at h; cases h); simp only [regletref01_MulDiv.j0, rdc98, rdc98', rq_T110, rq_L2, rq_T73, rq_L5, rq_T98, rq_T75, rq_T43, rq_L9, rq_T44, rq_L12, rq_T28, rq_L14, rq_T24, rq_T54, rq_L17, rq_I, rq_bt, wrap64] at h)
    | (rcases k with _ | k; (simp only [regletref01_MulDiv.j1] at h; cases h); simp only [regletref01_MulDiv.j1, rdc98, rdc98', rq_T110, rq_L2, rq_T73, rq_L5, rq_T98, rq_T75, rq_T43, rq_L9, rq_T44, rq_L12, rq_T28, rq_L14, rq_T24, rq_T54, rq_L17, rq_I, rq_bt, wrap64] at h)
    | (rcases k with _ | k; (simp only [regletref01_MulDiv.j2] at h; cases h); simp only [regletref01_MulDiv.j2, rdc98, rdc98', rq_T110, rq_L2, rq_T73, rq_L5, rq_T98, rq_T75, rq_T43, rq_L9, rq_T44, rq_L12, rq_T28, rq_L14, rq_T24, rq_T54, rq_L17, rq_I, rq_bt, wrap64] at h)
    | (rcases k with _ | k; (simp only [regletref01_MulDiv.j3] at h; cases h); simp only [regletref01_MulDiv.j3, rdc98, rdc98', rq_T110, rq_L2, rq_T73, rq_L5, rq_T98, rq_T75, rq_T43, rq_L9, rq_T44, rq_L12, rq_T28, rq_L14, rq_T24, rq_T54, rq_L17, rq_I, rq_bt, wrap64] at h)
    | refine mT h (fun h => ?_)
    | refine mF h (fun h => ?_)
    | (cases h; done)
theorem regletref15_scale.does {k : Nat} {a0 : Int} {a1 : Int} {a2 : Int} {r : (Int)} (h : regletref15_scale.f k a0 a1 a2 = some r) (G : Objs) : Does Try.prog true 43 [.int .i64 a0, .int .i64 a1, .int .i64 a2] G (fun x _ => x = .int .i64 r) := by
  unfold regletref15_scale.f at h
  try simp only [rdc98, rdc98', rq_T110, rq_L2, rq_T73, rq_L5, rq_T98, rq_T75, rq_T43, rq_L9, rq_T44, rq_L12, rq_T28, rq_L14, rq_T24, rq_T54, rq_L17, rq_I, rq_bt, wrap64] at h
  refine does_walk 3 (F := cfg []) tb_ok mixed Try.func43 rfl (fun T hT => ?_)
  repeat' first
    | (show E3 _ _ _ _ _ _ _ _; first
      | refine oW ?_
      | refine n_reg [0, 1, 2, 6, 7, 10] ?_
      | refine mB h (fun t ht h => oC (vC (fun G => regletref01_MulDiv.does ht G)) ?_)
      | with_reducible refine mI h (fun hc h => ?_)
      | with_reducible refine mE h (fun hc h => ?_)
      | with_reducible refine mS h (fun h => ?_)
      | refine oWs ?_)
    | (show E1 _ _ _ _ _ _ _; first
      | refine c_seq ?_
      | refine c_reg ?_
      | refine c_ret ?_
      | refine c_skip ?_
      | refine c_tt ?_
      | refine c_ff ?_
      | refine c_if h (fun hc h => ?_) (fun hc h => ?_)
      | refine c_fi h (fun hc h => ?_) (fun hc h => ?_)
      | with_reducible refine mI h (fun hc h => ?_)
      | with_reducible refine mE h (fun hc h => ?_)
      | with_reducible refine mS h (fun h => ?_)
      | refine c_ifs h (fun hc h => ?_) (fun hc h => ?_)
      | refine c_fis h (fun hc h => ?_) (fun hc h => ?_)
      | refine c_dt ?_
      | refine c_df ?_)
    | (show E2 _ _ _ _ _ _ _; first
      | refine n_seq ?_
      | (refine n_end hT ?_; cases h; first | rfl | exact congrArg AV.bool (by rw [Bool.eq_iff_iff]; simp)))
    | with_reducible refine mI h (fun hc h => ?_)
    | with_reducible refine mE h (fun hc h => ?_)
    | with_reducible refine mS h (fun h => ?_)
    | refine mT h (fun h => ?_)
    | refine mF h (fun h => ?_)
    | (cases h; done)
theorem regletref15_Stops.does {k : Nat} {l0 : List (S73)} {a1_0 : ByteArray} {l1_1 : List (S75)} {a1_2 : Int} {a1_3 : Int} {a1_4 : Int} {a1_5 : Bool} {a1_6 : Int} {a1_7 : Bool} {a1_8 : Bool} {r : ((List (S44)))} (h : regletref15_Stops.f k l0 a1_0 l1_1 a1_2 a1_3 a1_4 a1_5 a1_6 a1_7 a1_8 = some r) (G : Objs) : Does Try.prog true 14 [.sl (l0.map Enc.enc), .agg [.str a1_0, .sl (l1_1.map Enc.enc), .int .i64 a1_2, .int .i64 a1_3, .int .i64 a1_4, .bool a1_5, .int .i64 a1_6, .bool a1_7, .bool a1_8]] G (fun x _ => x = .sl (r.map Enc.enc)) := by
  unfold regletref15_Stops.f at h
  try simp only [rdc98, rdc98', rq_T110, rq_L2, rq_T73, rq_L5, rq_T98, rq_T75, rq_T43, rq_L9, rq_T44, rq_L12, rq_T28, rq_L14, rq_T24, rq_T54, rq_L17, rq_I, rq_bt, wrap64] at h
  refine does_walk 2 (F := cfg [(9, 6)]) tb_ok mixed Try.func14 rfl (fun T hT => ?_)
  repeat' first
    | (show E3 _ _ _ _ _ _ _ _; first
      | refine oQ vL ?_
      | refine oQ vLv ?_
      | refine oQ vE ?_
      | refine oQ vEv ?_
      | refine oQ vEo ?_
      | refine oLe vLe ?_
      | refine oBS ?_
      | refine oB ?_
      | refine oW ?_
      | refine n_reg [0, 1, 3, 4, 5, 6, 8, 9, 10, 11, 12, 13, 14, 28, 55, 70, 75, 87] ?_
      | refine oAv (⟨_, _⟩ : S44) ?_
      | refine oA (⟨_, _⟩ : S44) ?_
      | refine oAe (⟨_, _⟩ : S44) ?_
      | refine oAl (⟨_, _⟩ : S44) ?_
      | refine oMv ?_
      | refine oM ?_
      | refine oMe ?_
      | refine oMl ?_
      | refine mB h (fun t ht h => oC (vC (fun G => regletref02_Runes.does ht G)) ?_)
      | refine mB h (fun t ht h => oC (vC (fun G => regletref15_End.does ht G)) ?_)
      | refine mB h (fun t ht h => oC (vC (fun G => regletref04_Of.does ht G)) ?_)
      | refine mB h (fun t ht h => oC (vC (fun G => regletref02_Kind.does ht G)) ?_)
      | refine mB h (fun t ht h => oC (vC (fun G => regletref01_Add.does ht G)) ?_)
      | refine mB h (fun t ht h => oC (vC (fun G => regletref04_Width.does ht G)) ?_)
      | refine mB h (fun t ht h => oC (vC (fun G => regletref15_scale.does ht G)) ?_)
      | refine fz 17 ?_
      | refine fz 23 ?_
      | refine fz 47 ?_
      | refine fz 48 ?_
      | refine fz 53 ?_
      | refine fz 57 ?_
      | refine fz 58 ?_
      | refine fz 62 ?_
      | refine fz 56 ?_
      | refine fz 63 ?_
      | refine fz 78 ?_
      | refine fz 80 ?_
      | refine fz 82 ?_
      | refine fz 90 ?_
      | refine fz 92 ?_
      | refine fz 94 ?_
      | refine fz 97 ?_
      | refine fz 98 ?_
      | with_reducible refine mI h (fun hc h => ?_)
      | with_reducible refine mE h (fun hc h => ?_)
      | with_reducible refine mS h (fun h => ?_)
      | refine oSe (_ : Int) ?_
      | refine oWs ?_
      | refine oWl ?_)
    | (show E1 _ _ _ _ _ _ _; first
      | refine c_seq ?_
      | refine c_reg ?_
      | refine c_drwf ?_
      | refine c_drw ?_
      | refine c_blk ?_
      | refine c_exit ?_
      | refine c_ret ?_
      | refine c_skip ?_
      | refine c_tt ?_
      | refine c_ff ?_
      | refine c_if h (fun hc h => ?_) (fun hc h => ?_)
      | refine c_fi h (fun hc h => ?_) (fun hc h => ?_)
      | with_reducible refine mI h (fun hc h => ?_)
      | with_reducible refine mE h (fun hc h => ?_)
      | with_reducible refine mS h (fun h => ?_)
      | refine c_ifs h (fun hc h => ?_) (fun hc h => ?_)
      | refine c_fis h (fun hc h => ?_) (fun hc h => ?_)
      | (refine lp16 (fun x0 x5 x6 x8 x9 x10 x11 x427000 x427001 x427002 x427003 x427004 x427005 x427006 x427007 x427008 => [(0, .sl (x0.map Enc.enc)), (5, .sl (x5.map Enc.enc)), (6, .sl (x6.map Enc.enc)), (8, .own 2 (x8.map Enc.enc)), (9, .int .i64 x9), (10, .int .i64 x10), (11, .int .i64 x11), (3, .lptr 3 0)]) (fun x0 x5 x6 x8 x9 x10 x11 x427000 x427001 x427002 x427003 x427004 x427005 x427006 x427007 x427008 => [(3, [.str x427000, .sl (x427001.map Enc.enc), .int .i64 x427002, .int .i64 x427003, .int .i64 x427004, .bool x427005, .int .i64 x427006, .bool x427007, .bool x427008])]) (fun k_ x0 x5 x6 x8 x9 x10 x11 x427000 x427001 x427002 x427003 x427004 x427005 x427006 x427007 x427008 => k_ ≤ k ∧ regletref15_Stops.l0 k_ x0 x5 x6 x8 x9 x10 x11 x427000 x427001 x427002 x427003 x427004 x427005 x427006 x427007 x427008 = some r) ⟨Nat.le_refl _, h⟩ ?_; intro k x0 x5 x6 x8 x9 x10 x11 x427000 x427001 x427002 x427003 x427004 x427005 x427006 x427007 x427008 h; obtain ⟨hk, h⟩ := h; rcases k with _ | k; (simp only [regletref15_Stops.l0] at h; cases h); simp only [regletref15_Stops.l0, rdc98, rdc98', rq_T110, rq_L2, rq_T73, rq_L5, rq_T98, rq_T75, rq_T43, rq_L9, rq_T44, rq_L12, rq_T28, rq_L14, rq_T24, rq_T54, rq_L17, rq_I, rq_bt, wrap64] at h)
      | refine c_dt ?_
      | refine c_df ?_)
    | (show E2 _ _ _ _ _ _ _; first
      | refine n_seq ?_
      | (refine n_end hT ?_; cases h; first | rfl | exact congrArg AV.bool (by rw [Bool.eq_iff_iff]; simp))
      | refine ag16 rfl ⟨by omega, h⟩)
    | (show E4 _ _ _ _ _ _ _ _ _; first
      | refine dQ vLe ?_
      | refine mB h (fun t ht h => dQ (vC (fun G => regletref15_style.does ht G)) ?_)
      | refine dQ vL ?_
      | refine dQ vLv ?_
      | refine dQ vE ?_
      | refine dQ vEv ?_
      | refine dQ vEo ?_
      | refine dW ?_
      | refine dE ?_)
    | (show E5 _ _ _ _ _ _ _ _; first
      | refine tAl (⟨_, _⟩ : S44) ?_
      | refine tMl ?_
      | refine mB h (fun t ht h => tC (vC (fun G => regletref15_style.does ht G)) ?_)
      | refine tSe (_ : Int) ?_
      | refine tQ vL ?_
      | refine tQ vLv ?_
      | refine tQ vE ?_
      | refine tQ vEv ?_
      | refine tQ vEo ?_
      | refine tW ?_
      | refine n_drw [0, 1, 3, 4, 5, 6, 8, 9, 10, 11, 12, 13, 14, 28, 55, 70, 75, 87] ?_)
    | with_reducible refine mI h (fun hc h => ?_)
    | with_reducible refine mE h (fun hc h => ?_)
    | with_reducible refine mS h (fun h => ?_)
    | (rcases k with _ | k; (simp only [regletref15_Stops.j1] at h; cases h); simp only [regletref15_Stops.j1, rdc98, rdc98', rq_T110, rq_L2, rq_T73, rq_L5, rq_T98, rq_T75, rq_T43, rq_L9, rq_T44, rq_L12, rq_T28, rq_L14, rq_T24, rq_T54, rq_L17, rq_I, rq_bt, wrap64] at h)
    | refine mT h (fun h => ?_)
    | refine mF h (fun h => ?_)
    | (cases h; done)
theorem regletref02_Right.does {k : Nat} {a0 : ByteArray} {r : (Bool)} (h : regletref02_Right.f k a0 = some r) (G : Objs) : Does Try.prog true 29 [.str a0] G (fun x _ => x = .bool r) := by
  unfold regletref02_Right.f at h
  try simp only [rdc98, rdc98', rq_T110, rq_L2, rq_T73, rq_L5, rq_T98, rq_T75, rq_T43, rq_L9, rq_T44, rq_L12, rq_T28, rq_L14, rq_T24, rq_T54, rq_L17, rq_I, rq_bt, wrap64] at h
  refine does_walk 1 (F := cfg []) tb_ok mixed Try.func29 rfl (fun T hT => ?_)
  repeat' first
    | (show E3 _ _ _ _ _ _ _ _; first
      | refine oW ?_
      | refine n_reg [0, 2, 5] ?_
      | refine mB h (fun t ht h => oC (vC (fun G => regletref02_Runes.does ht G)) ?_)
      | with_reducible refine mI h (fun hc h => ?_)
      | with_reducible refine mE h (fun hc h => ?_)
      | with_reducible refine mS h (fun h => ?_)
      | refine oWs ?_)
    | (show E1 _ _ _ _ _ _ _; first
      | refine c_seq ?_
      | refine c_reg ?_
      | refine c_ret ?_)
    | (show E2 _ _ _ _ _ _ _; first
      | refine n_seq ?_
      | (refine n_end hT ?_; cases h; first | rfl | exact congrArg AV.bool (by rw [Bool.eq_iff_iff]; simp)))
    | with_reducible refine mI h (fun hc h => ?_)
    | with_reducible refine mE h (fun hc h => ?_)
    | with_reducible refine mS h (fun h => ?_)
    | refine mT h (fun h => ?_)
    | refine mF h (fun h => ?_)
    | (cases h; done)
theorem regletlaw15_line.does {k : Nat} {a0_0 : ByteArray} {l0_1 : List (S75)} {a0_2 : Int} {a0_3 : Int} {a0_4 : Int} {a0_5 : Bool} {a0_6 : Int} {a0_7 : Bool} {a0_8 : Bool} {r : (Bool)} (h : regletlaw15_line.f k a0_0 l0_1 a0_2 a0_3 a0_4 a0_5 a0_6 a0_7 a0_8 = some r) (G : Objs) : Does Try.prog true 12 [.agg [.str a0_0, .sl (l0_1.map Enc.enc), .int .i64 a0_2, .int .i64 a0_3, .int .i64 a0_4, .bool a0_5, .int .i64 a0_6, .bool a0_7, .bool a0_8]] G (fun x _ => x = .bool r) := by
  unfold regletlaw15_line.f at h
  try simp only [rdc98, rdc98', rq_T110, rq_L2, rq_T73, rq_L5, rq_T98, rq_T75, rq_T43, rq_L9, rq_T44, rq_L12, rq_T28, rq_L14, rq_T24, rq_T54, rq_L17, rq_I, rq_bt, wrap64] at h
  refine does_walk 1 (F := cfg []) tb_ok mixed Try.func12 rfl (fun T hT => ?_)
  repeat' first
    | (show E3 _ _ _ _ _ _ _ _; first
      | refine oQ vL ?_
      | refine oQ vE ?_
      | refine oQ vpt ?_
      | refine oQ vpf ?_
      | refine oW ?_
      | refine n_reg [0, 1, 2, 3, 19, 24, 33] ?_
      | refine gYq vL ?_
      | refine gYq vE ?_
      | refine gYq vpt ?_
      | refine gYq vpf ?_
      | refine gN ?_
      | refine gNf ?_
      | refine gY ?_
      | refine gT ?_
      | refine mB h (fun t ht h => gC (vC (fun G => regletref02_Right.does ht G)) ?_)
      | refine gif h (fun hc h => ?_) (fun hc h => ?_)
      | refine gfi h (fun hc h => ?_) (fun hc h => ?_)
      | with_reducible refine mI h (fun hc h => ?_)
      | with_reducible refine mE h (fun hc h => ?_)
      | with_reducible refine mS h (fun h => ?_)
      | refine oWs ?_
      | refine oWl ?_
      | refine gYs ?_
      | refine gifs h (fun hc h => ?_) (fun hc h => ?_)
      | refine gfis h (fun hc h => ?_) (fun hc h => ?_)
      | (fail_if_success (refine g_lit ?_)); refine g_dt ?_
      | (fail_if_success (refine g_lit ?_)); refine g_df ?_)
    | (show E1 _ _ _ _ _ _ _; first
      | refine c_seq ?_
      | refine c_reg ?_
      | refine c_blk ?_
      | refine c_exit ?_
      | refine c_ret ?_
      | refine c_skip ?_
      | refine c_tt ?_
      | refine c_ff ?_
      | refine c_if h (fun hc h => ?_) (fun hc h => ?_)
      | refine c_fi h (fun hc h => ?_) (fun hc h => ?_)
      | with_reducible refine mI h (fun hc h => ?_)
      | with_reducible refine mE h (fun hc h => ?_)
      | with_reducible refine mS h (fun h => ?_)
      | refine c_ifs h (fun hc h => ?_) (fun hc h => ?_)
      | refine c_fis h (fun hc h => ?_) (fun hc h => ?_)
      | (refine lp10 (fun x3 x473000 x473001 x473002 x473003 x473004 x473005 x473006 x473007 x473008 => [(3, .int .i64 x3), (1, .lptr 1 0)]) (fun x3 x473000 x473001 x473002 x473003 x473004 x473005 x473006 x473007 x473008 => [(1, [.str x473000, .sl (x473001.map Enc.enc), .int .i64 x473002, .int .i64 x473003, .int .i64 x473004, .bool x473005, .int .i64 x473006, .bool x473007, .bool x473008])]) (fun k_ x3 x473000 x473001 x473002 x473003 x473004 x473005 x473006 x473007 x473008 => k_ ≤ k ∧ regletlaw15_line.l0 k_ x3 x473000 x473001 x473002 x473003 x473004 x473005 x473006 x473007 x473008 = some r) ⟨Nat.le_refl _, h⟩ ?_; intro k x3 x473000 x473001 x473002 x473003 x473004 x473005 x473006 x473007 x473008 h; obtain ⟨hk, h⟩ := h; rcases k with _ | k; (simp only [regletlaw15_line.l0] at h; cases h); simp only [regletlaw15_line.l0, rdc98, rdc98', rq_T110, rq_L2, rq_T73, rq_L5, rq_T98, rq_T75, rq_T43, rq_L9, rq_T44, rq_L12, rq_T28, rq_L14, rq_T24, rq_T54, rq_L17, rq_I, rq_bt, wrap64] at h)
      | refine c_dt ?_
      | refine c_df ?_)
    | (show E2 _ _ _ _ _ _ _; first
      | refine n_seq ?_
      | (refine n_end hT ?_; cases h; first | rfl | exact congrArg AV.bool (by rw [Bool.eq_iff_iff]; simp))
      | refine ag10 rfl ⟨by omega, h⟩)
    | with_reducible refine mI h (fun hc h => ?_)
    | with_reducible refine mE h (fun hc h => ?_)
    | with_reducible refine mS h (fun h => ?_)
    | (rcases k with _ | k; (simp only [regletlaw15_line.j0] at h; cases h); simp only [regletlaw15_line.j0, rdc98, rdc98', rq_T110, rq_L2, rq_T73, rq_L5, rq_T98, rq_T75, rq_T43, rq_L9, rq_T44, rq_L12, rq_T28, rq_L14, rq_T24, rq_T54, rq_L17, rq_I, rq_bt, wrap64] at h)
    | refine mT h (fun h => ?_)
    | refine mF h (fun h => ?_)
    | (cases h; done)
theorem regletlaw15_few.does {k : Nat} {l0 : List (S24)} {r : (Bool)} (h : regletlaw15_few.f k l0 = some r) (G : Objs) : Does Try.prog true 17 [.sl (l0.map Enc.enc)] G (fun x _ => x = .bool r) := by
  unfold regletlaw15_few.f at h
  try simp only [rdc98, rdc98', rq_T110, rq_L2, rq_T73, rq_L5, rq_T98, rq_T75, rq_T43, rq_L9, rq_T44, rq_L12, rq_T28, rq_L14, rq_T24, rq_T54, rq_L17, rq_I, rq_bt, wrap64] at h
  refine does_walk 1 (F := cfg []) tb_ok mixed Try.func17 rfl (fun T hT => ?_)
  repeat' first
    | (show E3 _ _ _ _ _ _ _ _; first
      | refine oQ vL ?_
      | refine oQ vE ?_
      | refine oQ vpt ?_
      | refine oQ vpf ?_
      | refine oLd ?_
      | refine oW ?_
      | refine n_reg [0, 2, 3, 4, 5, 9, 19, 37] ?_
      | refine gYq vL ?_
      | refine gYq vE ?_
      | refine gYq vpt ?_
      | refine gYq vpf ?_
      | refine gLd ?_
      | refine gN ?_
      | refine gNf ?_
      | refine gY ?_
      | refine gT ?_
      | refine mB h (fun t ht h => gC (vC (fun G => regletlaw15_line.does ht G)) ?_)
      | refine gif h (fun hc h => ?_) (fun hc h => ?_)
      | refine gfi h (fun hc h => ?_) (fun hc h => ?_)
      | with_reducible refine mI h (fun hc h => ?_)
      | with_reducible refine mE h (fun hc h => ?_)
      | with_reducible refine mS h (fun h => ?_)
      | refine oWs ?_
      | refine gYs ?_
      | refine gifs h (fun hc h => ?_) (fun hc h => ?_)
      | refine gfis h (fun hc h => ?_) (fun hc h => ?_)
      | (fail_if_success (refine g_lit ?_)); refine g_dt ?_
      | (fail_if_success (refine g_lit ?_)); refine g_df ?_)
    | (show E1 _ _ _ _ _ _ _; first
      | refine c_seq ?_
      | refine c_reg ?_
      | refine c_blk ?_
      | refine c_exit ?_
      | refine c_ret ?_
      | refine c_skip ?_
      | refine c_tt ?_
      | refine c_ff ?_
      | refine c_if h (fun hc h => ?_) (fun hc h => ?_)
      | refine c_fi h (fun hc h => ?_) (fun hc h => ?_)
      | with_reducible refine mI h (fun hc h => ?_)
      | with_reducible refine mE h (fun hc h => ?_)
      | with_reducible refine mS h (fun h => ?_)
      | refine c_ifs h (fun hc h => ?_) (fun hc h => ?_)
      | refine c_fis h (fun hc h => ?_) (fun hc h => ?_)
      | (refine lp3 (fun x0 x3 x4 => [(0, .sl (x0.map Enc.enc)), (3, .int .i64 x3), (4, .int .i64 x4)]) (fun x0 x3 x4 => []) (fun k_ x0 x3 x4 => k_ ≤ k ∧ regletlaw15_few.l0 k_ x0 x3 x4 = some r) ⟨Nat.le_refl _, h⟩ ?_; intro k x0 x3 x4 h; obtain ⟨hk, h⟩ := h; rcases k with _ | k; (simp only [regletlaw15_few.l0] at h; cases h); simp only [regletlaw15_few.l0, rdc98, rdc98', rq_T110, rq_L2, rq_T73, rq_L5, rq_T98, rq_T75, rq_T43, rq_L9, rq_T44, rq_L12, rq_T28, rq_L14, rq_T24, rq_T54, rq_L17, rq_I, rq_bt, wrap64] at h)
      | (refine lp4 (fun x0 x3 x4 x5 => [(0, .sl (x0.map Enc.enc)), (3, .int .i64 x3), (4, .int .i64 x4), (5, .int .i64 x5)]) (fun x0 x3 x4 x5 => []) (fun k_ x0 x3 x4 x5 => k_ ≤ k ∧ regletlaw15_few.l1 k_ x0 x3 x4 x5 = some r) ⟨Nat.le_refl _, h⟩ ?_; intro k x0 x3 x4 x5 h; obtain ⟨hk, h⟩ := h; rcases k with _ | k; (simp only [regletlaw15_few.l1] at h; cases h); simp only [regletlaw15_few.l1, rdc98, rdc98', rq_T110, rq_L2, rq_T73, rq_L5, rq_T98, rq_T75, rq_T43, rq_L9, rq_T44, rq_L12, rq_T28, rq_L14, rq_T24, rq_T54, rq_L17, rq_I, rq_bt, wrap64] at h)
      | refine c_dt ?_
      | refine c_df ?_)
    | (show E2 _ _ _ _ _ _ _; first
      | refine n_seq ?_
      | (refine n_end hT ?_; cases h; first | rfl | exact congrArg AV.bool (by rw [Bool.eq_iff_iff]; simp))
      | refine ag3 rfl ⟨by omega, h⟩
      | refine ag4 rfl ⟨by omega, h⟩)
    | with_reducible refine mI h (fun hc h => ?_)
    | with_reducible refine mE h (fun hc h => ?_)
    | with_reducible refine mS h (fun h => ?_)
    | refine mT h (fun h => ?_)
    | refine mF h (fun h => ?_)
    | (cases h; done)
theorem locate_Line.does {k : Nat} {l0 : List (S24)} {a1 : Int} {r : (Int × Int × Int × Bool)} (h : locate_Line.f k l0 a1 = some r) (G : Objs) : Does Try.prog true 22 [.sl (l0.map Enc.enc), .int .i64 a1] G (fun x _ => x = .tup [.int .i64 r.1, .int .i64 r.2.1, .int .i64 r.2.2.1, .bool r.2.2.2]) := by
  unfold locate_Line.f at h
  try simp only [rdc98, rdc98', rq_T110, rq_L2, rq_T73, rq_L5, rq_T98, rq_T75, rq_T43, rq_L9, rq_T44, rq_L12, rq_T28, rq_L14, rq_T24, rq_T54, rq_L17, rq_I, rq_bt, wrap64] at h
  refine does_walk 2 (F := cfg [(13, 7)]) tb_ok mixed Try.func22 rfl (fun T hT => ?_)
  repeat' first
    | (show E3 _ _ _ _ _ _ _ _; first
      | refine oQ vL ?_
      | refine oQ vE ?_
      | refine oQ vpt ?_
      | refine oQ vpf ?_
      | refine oLd ?_
      | refine oW ?_
      | refine n_reg [0, 1, 4, 5, 6, 7, 8, 9, 10, 11, 12, 13, 14, 15, 17, 18, 19, 20, 21, 26, 27, 28, 29, 37, 57] ?_
      | refine gYq vL ?_
      | refine gYq vE ?_
      | refine gYq vpt ?_
      | refine gYq vpf ?_
      | refine gN ?_
      | refine gNf ?_
      | refine gY ?_
      | refine gT ?_
      | refine gif h (fun hc h => ?_) (fun hc h => ?_)
      | refine gfi h (fun hc h => ?_) (fun hc h => ?_)
      | with_reducible refine mI h (fun hc h => ?_)
      | with_reducible refine mE h (fun hc h => ?_)
      | with_reducible refine mS h (fun h => ?_)
      | refine oWs ?_
      | refine oWl ?_
      | refine gYs ?_
      | refine gifs h (fun hc h => ?_) (fun hc h => ?_)
      | refine gfis h (fun hc h => ?_) (fun hc h => ?_)
      | (fail_if_success (refine g_lit ?_)); refine g_dt ?_
      | (fail_if_success (refine g_lit ?_)); refine g_df ?_)
    | (show E1 _ _ _ _ _ _ _; first
      | refine c_seq ?_
      | refine c_reg ?_
      | refine c_drwf ?_
      | refine c_drw ?_
      | refine c_blk ?_
      | refine c_exit ?_
      | refine c_ret ?_
      | refine c_skip ?_
      | refine c_tt ?_
      | refine c_ff ?_
      | refine c_if h (fun hc h => ?_) (fun hc h => ?_)
      | refine c_fi h (fun hc h => ?_) (fun hc h => ?_)
      | with_reducible refine mI h (fun hc h => ?_)
      | with_reducible refine mE h (fun hc h => ?_)
      | with_reducible refine mS h (fun h => ?_)
      | refine c_ifs h (fun hc h => ?_) (fun hc h => ?_)
      | refine c_fis h (fun hc h => ?_) (fun hc h => ?_)
      | (refine lp8 (fun x1 x8 x9 x10 x11 x18 x19 x20 => [(1, .int .i64 x1), (8, .int .i64 x8), (9, .int .i64 x9), (10, .int .i64 x10), (11, .bool x11), (18, .sl (x18.map Enc.enc)), (19, .int .i64 x19), (20, .int .i64 x20)]) (fun x1 x8 x9 x10 x11 x18 x19 x20 => []) (fun k_ x1 x8 x9 x10 x11 x18 x19 x20 => k_ ≤ k ∧ locate_Line.l0 k_ x1 x8 x9 x10 x11 x18 x19 x20 = some r) ⟨Nat.le_refl _, h⟩ ?_; intro k x1 x8 x9 x10 x11 x18 x19 x20 h; obtain ⟨hk, h⟩ := h; rcases k with _ | k; (simp only [locate_Line.l0] at h; cases h); simp only [locate_Line.l0, rdc98, rdc98', rq_T110, rq_L2, rq_T73, rq_L5, rq_T98, rq_T75, rq_T43, rq_L9, rq_T44, rq_L12, rq_T28, rq_L14, rq_T24, rq_T54, rq_L17, rq_I, rq_bt, wrap64] at h)
      | (refine lp12 (fun x1 x8 x9 x10 x11 x12 x18 x19 x20 x26 x27 x28 => [(1, .int .i64 x1), (8, .int .i64 x8), (9, .int .i64 x9), (10, .int .i64 x10), (11, .bool x11), (12, .int .i64 x12), (18, .sl (x18.map Enc.enc)), (19, .int .i64 x19), (20, .int .i64 x20), (26, .sl (x26.map Enc.enc)), (27, .int .i64 x27), (28, .int .i64 x28)]) (fun x1 x8 x9 x10 x11 x12 x18 x19 x20 x26 x27 x28 => []) (fun k_ x1 x8 x9 x10 x11 x12 x18 x19 x20 x26 x27 x28 => k_ ≤ k ∧ locate_Line.l1 k_ x1 x8 x9 x10 x11 x12 x18 x19 x20 x26 x27 x28 = some r) ⟨Nat.le_refl _, h⟩ ?_; intro k x1 x8 x9 x10 x11 x12 x18 x19 x20 x26 x27 x28 h; obtain ⟨hk, h⟩ := h; rcases k with _ | k; (simp only [locate_Line.l1] at h; cases h); simp only [locate_Line.l1, rdc98, rdc98', rq_T110, rq_L2, rq_T73, rq_L5, rq_T98, rq_T75, rq_T43, rq_L9, rq_T44, rq_L12, rq_T28, rq_L14, rq_T24, rq_T54, rq_L17, rq_I, rq_bt, wrap64] at h)
      | refine c_dt ?_
      | refine c_df ?_)
    | (show E2 _ _ _ _ _ _ _; first
      | refine n_seq ?_
      | (refine n_ends hT ?_; cases h; first | rfl | exact congrArg AV.bool (by rw [Bool.eq_iff_iff]; simp))
      | refine ag8 rfl ⟨by omega, h⟩
      | refine ag12 rfl ⟨by omega, h⟩)
    | (show E4 _ _ _ _ _ _ _ _ _; first
      | refine dQ vL ?_
      | refine dQ vE ?_
      | refine dQ vpt ?_
      | refine dQ vpf ?_
      | refine dW ?_
      | refine dE ?_)
    | (show E5 _ _ _ _ _ _ _ _; first
      | refine tQ vL ?_
      | refine tQ vE ?_
      | refine tQ vpt ?_
      | refine tQ vpf ?_
      | refine tW ?_
      | refine n_drw [0, 1, 4, 5, 6, 7, 8, 9, 10, 11, 12, 13, 14, 15, 17, 18, 19, 20, 21, 26, 27, 28, 29, 37, 57] ?_)
    | with_reducible refine mI h (fun hc h => ?_)
    | with_reducible refine mE h (fun hc h => ?_)
    | with_reducible refine mS h (fun h => ?_)
    | refine mT h (fun h => ?_)
    | refine mF h (fun h => ?_)
    | (cases h; done)
theorem locate_Spot.does {k : Nat} {l0 : S98} {l0s : List S98} {l1 : List (S24)} {a2 : Int} {r : (Int × Int × Int × Int)} (h : locate_Spot.f k (l0 :: l0s) l1 a2 = some r) (G : Objs) : Does Try.prog true 18 [.ptrF (Enc.enc l0), .sl (l1.map Enc.enc), .int .i64 a2] G (fun x _ => x = .tup [.agg [.int .i64 r.1, .int .i64 r.2.1, .int .i64 r.2.2.1], .int .i64 r.2.2.2]) := by
  unfold locate_Spot.f at h
  try simp only [rdc98, rdc98', rq_T110, rq_L2, rq_T73, rq_L5, rq_T98, rq_T75, rq_T43, rq_L9, rq_T44, rq_L12, rq_T28, rq_L14, rq_T24, rq_T54, rq_L17, rq_I, rq_bt, wrap64] at h
  refine does_walk 3 (F := cfg []) tb_ok mixed Try.func18 rfl (fun T hT => ?_)
  repeat' first
    | (show E3 _ _ _ _ _ _ _ _; first
      | refine oQ vL ?_
      | refine oQ vE ?_
      | refine oB ?_
      | refine oLd ?_
      | refine oW ?_
      | refine n_reg [0, 1, 2, 6, 7, 8, 9, 10, 11, 13, 23, 34, 35, 36, 37, 43] ?_
      | refine mB h (fun t ht h => oC (vC (fun G => locate_Stops.does ht G)) ?_)
      | refine mB h (fun t ht h => oC (vC (fun G => locate_Line.does ht G)) ?_)
      | with_reducible refine mI h (fun hc h => ?_)
      | with_reducible refine mE h (fun hc h => ?_)
      | with_reducible refine mS h (fun h => ?_)
      | refine oWs ?_
      | refine oWl ?_)
    | (show E1 _ _ _ _ _ _ _; first
      | refine c_seq ?_
      | refine c_reg ?_
      | refine c_blk ?_
      | refine c_exit ?_
      | refine c_ret ?_
      | refine c_skip ?_
      | refine c_tt ?_
      | refine c_ff ?_
      | refine c_if h (fun hc h => ?_) (fun hc h => ?_)
      | refine c_fi h (fun hc h => ?_) (fun hc h => ?_)
      | with_reducible refine mI h (fun hc h => ?_)
      | with_reducible refine mE h (fun hc h => ?_)
      | with_reducible refine mS h (fun h => ?_)
      | refine c_ifs h (fun hc h => ?_) (fun hc h => ?_)
      | refine c_fis h (fun hc h => ?_) (fun hc h => ?_)
      | (refine lp6 (fun x8 x9 x10 x34 x35 x36 => [(8, .int .i64 x8), (9, .int .i64 x9), (10, .int .i64 x10), (34, .sl (x34.map Enc.enc)), (35, .int .i64 x35), (36, .int .i64 x36), (6, .lptr 6 0)]) (fun x8 x9 x10 x34 x35 x36 => [(6, [.int .i64 0, .int .i64 0, .int .i64 0])]) (fun k_ x8 x9 x10 x34 x35 x36 => k_ ≤ k ∧ locate_Spot.l0 k_ x8 x9 x10 x34 x35 x36 = some r) ⟨Nat.le_refl _, h⟩ ?_; intro k x8 x9 x10 x34 x35 x36 h; obtain ⟨hk, h⟩ := h; rcases k with _ | k; (simp only [locate_Spot.l0] at h; cases h); simp only [locate_Spot.l0, rdc98, rdc98', rq_T110, rq_L2, rq_T73, rq_L5, rq_T98, rq_T75, rq_T43, rq_L9, rq_T44, rq_L12, rq_T28, rq_L14, rq_T24, rq_T54, rq_L17, rq_I, rq_bt, wrap64] at h)
      | refine c_dt ?_
      | refine c_df ?_)
    | (show E2 _ _ _ _ _ _ _; first
      | refine n_seq ?_
      | (refine n_ends hT ?_; cases h; first | rfl | exact congrArg AV.bool (by rw [Bool.eq_iff_iff]; simp))
      | refine ag6 rfl ⟨by omega, h⟩)
    | with_reducible refine mI h (fun hc h => ?_)
    | with_reducible refine mE h (fun hc h => ?_)
    | with_reducible refine mS h (fun h => ?_)
    | refine mT h (fun h => ?_)
    | refine mF h (fun h => ?_)
    | (cases h; done)
theorem regletref15_Bytes.does {k : Nat} {l0 : List (S24)} {r : ((List (S54)))} (h : regletref15_Bytes.f k l0 = some r) (G : Objs) : Does Try.prog true 24 [.sl (l0.map Enc.enc)] G (fun x _ => x = .sl (r.map Enc.enc)) := by
  unfold regletref15_Bytes.f at h
  try simp only [rdc98, rdc98', rq_T110, rq_L2, rq_T73, rq_L5, rq_T98, rq_T75, rq_T43, rq_L9, rq_T44, rq_L12, rq_T28, rq_L14, rq_T24, rq_T54, rq_L17, rq_I, rq_bt, wrap64] at h
  refine does_walk 1 (F := cfg []) tb_ok mixed Try.func24 rfl (fun T hT => ?_)
  repeat' first
    | (show E3 _ _ _ _ _ _ _ _; first
      | refine oQ vL ?_
      | refine oQ vLv ?_
      | refine oQ vE ?_
      | refine oQ vEv ?_
      | refine oQ vEo ?_
      | refine oLe vLe ?_
      | refine oBS ?_
      | refine oB ?_
      | refine oW ?_
      | refine n_reg [0, 2, 3, 4, 5, 6, 10, 20, 34] ?_
      | refine oAv (⟨_, _, _⟩ : S54) ?_
      | refine oA (⟨_, _, _⟩ : S54) ?_
      | refine oAe (⟨_, _, _⟩ : S54) ?_
      | refine oMv ?_
      | refine oM ?_
      | refine oMe ?_
      | with_reducible refine mI h (fun hc h => ?_)
      | with_reducible refine mE h (fun hc h => ?_)
      | with_reducible refine mS h (fun h => ?_)
      | refine oWs ?_)
    | (show E1 _ _ _ _ _ _ _; first
      | refine c_seq ?_
      | refine c_reg ?_
      | refine c_blk ?_
      | refine c_exit ?_
      | refine c_ret ?_
      | refine c_skip ?_
      | refine c_tt ?_
      | refine c_ff ?_
      | refine c_if h (fun hc h => ?_) (fun hc h => ?_)
      | refine c_fi h (fun hc h => ?_) (fun hc h => ?_)
      | with_reducible refine mI h (fun hc h => ?_)
      | with_reducible refine mE h (fun hc h => ?_)
      | with_reducible refine mS h (fun h => ?_)
      | refine c_ifs h (fun hc h => ?_) (fun hc h => ?_)
      | refine c_fis h (fun hc h => ?_) (fun hc h => ?_)
      | (refine lp3 (fun x0 x3 x4 => [(0, .sl (x0.map Enc.enc)), (3, .own 3 (x3.map Enc.enc)), (4, .int .i64 x4)]) (fun x0 x3 x4 => []) (fun k_ x0 x3 x4 => k_ ≤ k ∧ regletref15_Bytes.l0 k_ x0 x3 x4 = some r) ⟨Nat.le_refl _, h⟩ ?_; intro k x0 x3 x4 h; obtain ⟨hk, h⟩ := h; rcases k with _ | k; (simp only [regletref15_Bytes.l0] at h; cases h); simp only [regletref15_Bytes.l0, rdc98, rdc98', rq_T110, rq_L2, rq_T73, rq_L5, rq_T98, rq_T75, rq_T43, rq_L9, rq_T44, rq_L12, rq_T28, rq_L14, rq_T24, rq_T54, rq_L17, rq_I, rq_bt, wrap64] at h)
      | (refine lp4 (fun x0 x3 x4 x5 => [(0, .sl (x0.map Enc.enc)), (3, .own 3 (x3.map Enc.enc)), (4, .int .i64 x4), (5, .int .i64 x5)]) (fun x0 x3 x4 x5 => []) (fun k_ x0 x3 x4 x5 => k_ ≤ k ∧ regletref15_Bytes.l1 k_ x0 x3 x4 x5 = some r) ⟨Nat.le_refl _, h⟩ ?_; intro k x0 x3 x4 x5 h; obtain ⟨hk, h⟩ := h; rcases k with _ | k; (simp only [regletref15_Bytes.l1] at h; cases h); simp only [regletref15_Bytes.l1, rdc98, rdc98', rq_T110, rq_L2, rq_T73, rq_L5, rq_T98, rq_T75, rq_T43, rq_L9, rq_T44, rq_L12, rq_T28, rq_L14, rq_T24, rq_T54, rq_L17, rq_I, rq_bt, wrap64] at h)
      | (refine lp5 (fun x0 x3 x4 x5 x6 => [(0, .sl (x0.map Enc.enc)), (3, .own 3 (x3.map Enc.enc)), (4, .int .i64 x4), (5, .int .i64 x5), (6, .int .i64 x6)]) (fun x0 x3 x4 x5 x6 => []) (fun k_ x0 x3 x4 x5 x6 => k_ ≤ k ∧ regletref15_Bytes.l2 k_ x0 x3 x4 x5 x6 = some r) ⟨Nat.le_refl _, h⟩ ?_; intro k x0 x3 x4 x5 x6 h; obtain ⟨hk, h⟩ := h; rcases k with _ | k; (simp only [regletref15_Bytes.l2] at h; cases h); simp only [regletref15_Bytes.l2, rdc98, rdc98', rq_T110, rq_L2, rq_T73, rq_L5, rq_T98, rq_T75, rq_T43, rq_L9, rq_T44, rq_L12, rq_T28, rq_L14, rq_T24, rq_T54, rq_L17, rq_I, rq_bt, wrap64] at h)
      | refine c_dt ?_
      | refine c_df ?_)
    | (show E2 _ _ _ _ _ _ _; first
      | refine n_seq ?_
      | (refine n_end hT ?_; cases h; first | rfl | exact congrArg AV.bool (by rw [Bool.eq_iff_iff]; simp))
      | refine ag3 rfl ⟨by omega, h⟩
      | refine ag4 rfl ⟨by omega, h⟩
      | refine ag5 rfl ⟨by omega, h⟩)
    | (show E4 _ _ _ _ _ _ _ _ _; first
      | refine dQ vLe ?_)
    | with_reducible refine mI h (fun hc h => ?_)
    | with_reducible refine mE h (fun hc h => ?_)
    | with_reducible refine mS h (fun h => ?_)
    | refine mT h (fun h => ?_)
    | refine mF h (fun h => ?_)
    | (cases h; done)
theorem regletref15_Last.does {k : Nat} {l0 : List (S24)} {r : (Int × Int × Int × Bool)} (h : regletref15_Last.f k l0 = some r) (G : Objs) : Does Try.prog true 45 [.sl (l0.map Enc.enc)] G (fun x _ => x = .tup [.agg [.int .i64 r.1, .int .i64 r.2.1, .int .i64 r.2.2.1], .bool r.2.2.2]) := by
  unfold regletref15_Last.f at h
  try simp only [rdc98, rdc98', rq_T110, rq_L2, rq_T73, rq_L5, rq_T98, rq_T75, rq_T43, rq_L9, rq_T44, rq_L12, rq_T28, rq_L14, rq_T24, rq_T54, rq_L17, rq_I, rq_bt, wrap64] at h
  refine does_walk 1 (F := cfg []) tb_ok mixed Try.func45 rfl (fun T hT => ?_)
  repeat' first
    | (show E3 _ _ _ _ _ _ _ _; first
      | refine oQ vL ?_
      | refine oQ vE ?_
      | refine oB ?_
      | refine oW ?_
      | refine n_reg [0, 2, 3, 4, 5, 10, 20] ?_
      | with_reducible refine mI h (fun hc h => ?_)
      | with_reducible refine mE h (fun hc h => ?_)
      | with_reducible refine mS h (fun h => ?_)
      | refine oWs ?_
      | refine oWl ?_)
    | (show E1 _ _ _ _ _ _ _; first
      | refine c_seq ?_
      | refine c_reg ?_
      | refine c_blk ?_
      | refine c_exit ?_
      | refine c_ret ?_
      | refine c_skip ?_
      | refine c_tt ?_
      | refine c_ff ?_
      | refine c_if h (fun hc h => ?_) (fun hc h => ?_)
      | refine c_fi h (fun hc h => ?_) (fun hc h => ?_)
      | with_reducible refine mI h (fun hc h => ?_)
      | with_reducible refine mE h (fun hc h => ?_)
      | with_reducible refine mS h (fun h => ?_)
      | refine c_ifs h (fun hc h => ?_) (fun hc h => ?_)
      | refine c_fis h (fun hc h => ?_) (fun hc h => ?_)
      | (refine lp2 (fun x0 x4 => [(0, .sl (x0.map Enc.enc)), (4, .int .i64 x4), (2, .lptr 2 0)]) (fun x0 x4 => [(2, [.int .i64 0, .int .i64 0, .int .i64 0])]) (fun k_ x0 x4 => k_ ≤ k ∧ regletref15_Last.l0 k_ x0 x4 = some r) ⟨Nat.le_refl _, h⟩ ?_; intro k x0 x4 h; obtain ⟨hk, h⟩ := h; rcases k with _ | k; (simp only [regletref15_Last.l0] at h; cases h); simp only [regletref15_Last.l0, rdc98, rdc98', rq_T110, rq_L2, rq_T73, rq_L5, rq_T98, rq_T75, rq_T43, rq_L9, rq_T44, rq_L12, rq_T28, rq_L14, rq_T24, rq_T54, rq_L17, rq_I, rq_bt, wrap64] at h)
      | refine c_dt ?_
      | refine c_df ?_)
    | (show E2 _ _ _ _ _ _ _; first
      | refine n_seq ?_
      | (refine n_ends hT ?_; cases h; first | rfl | exact congrArg AV.bool (by rw [Bool.eq_iff_iff]; simp))
      | refine ag2 rfl ⟨by omega, h⟩)
    | with_reducible refine mI h (fun hc h => ?_)
    | with_reducible refine mE h (fun hc h => ?_)
    | with_reducible refine mS h (fun h => ?_)
    | refine mT h (fun h => ?_)
    | refine mF h (fun h => ?_)
    | (cases h; done)
end Go.AL.X
