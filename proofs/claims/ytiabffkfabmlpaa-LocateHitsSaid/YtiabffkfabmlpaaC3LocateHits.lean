/- What each function does: it answers as its model tells, and changes nothing (in 4 texts, numbered 4). -/
import Derived.Test.YtiabffkfabmlpaaC2LocateHits
namespace Go.AL.X
open Go.Proofs Go.Proofs.Ytiabffkfabmlpaa.PLocateHits
set_option linter.unusedVariables false
set_option linter.unusedSimpArgs false
set_option maxRecDepth 100000
set_option maxHeartbeats 800000
theorem regletref15_Offset.does {k : Nat} {l0 : List (S24)} {a1 : Int} {a2 : Int} {r : (Int × Bool)} (h : regletref15_Offset.f k l0 a1 a2 = some r) (G : Objs) : Does Try.prog true 26 [.sl (l0.map Enc.enc), .int .i64 a1, .int .i64 a2] G (fun x _ => x = .tup [.int .i64 r.1, .bool r.2]) := by
  unfold regletref15_Offset.f at h
  try simp only [rdc98, rdc98', rq_T110, rq_L2, rq_T73, rq_L5, rq_T98, rq_T75, rq_T43, rq_L10, rq_T28, rq_L12, rq_T24, rq_L14, rq_T44, rq_L16, rq_T49, rq_I, rq_bt, wrap64] at h
  refine does_walk 3 (F := cfg []) tb_ok mixed Try.func26 rfl (fun T hT => ?_)
  repeat' first
    | (show E3 _ _ _ _ _ _ _ _; first
      | refine oQ vL ?_
      | refine oQ vE ?_
      | refine oQ vpt ?_
      | refine oQ vpf ?_
      | refine oW ?_
      | refine n_reg [0, 1, 2, 6, 7, 8, 9, 10, 32, 35, 55] ?_
      | refine gYq vL ?_
      | refine gYq vE ?_
      | refine gYq vpt ?_
      | refine gYq vpf ?_
      | refine gN ?_
      | refine gNf ?_
      | refine gY ?_
      | refine gT ?_
      | refine gif h (fun hc h => ?_) (fun hc h => ?_)
      | refine gfi h (fun hc h => ?_) (fun hc h => ?_)
      | with_reducible refine mI h (fun hc h => ?_)
      | with_reducible refine mE h (fun hc h => ?_)
      | with_reducible refine mS h (fun h => ?_)
      | refine oWs ?_
      | refine gYs ?_
      | refine gifs h (fun hc h => ?_) (fun hc h => ?_)
      | refine gfis h (fun hc h => ?_) (fun hc h => ?_)
      | (fail_if_success (refine g_lit ?_)); refine g_dt ?_
      | (fail_if_success (refine g_lit ?_)); refine g_df ?_)
    | (show E1 _ _ _ _ _ _ _; first
      | refine c_seq ?_
      | refine c_reg ?_
      | refine c_blk ?_
      | refine c_exit ?_
      | refine c_ret ?_
      | refine c_skip ?_
      | refine c_tt ?_
      | refine c_ff ?_
      | refine c_if h (fun hc h => ?_) (fun hc h => ?_)
      | refine c_fi h (fun hc h => ?_) (fun hc h => ?_)
      | with_reducible refine mI h (fun hc h => ?_)
      | with_reducible refine mE h (fun hc h => ?_)
      | with_reducible refine mS h (fun h => ?_)
      | refine c_ifs h (fun hc h => ?_) (fun hc h => ?_)
      | refine c_fis h (fun hc h => ?_) (fun hc h => ?_)
      | (refine lp5 (fun x0 x1 x2 x8 x9 => [(0, .sl (x0.map Enc.enc)), (1, .int .i64 x1), (2, .int .i64 x2), (8, .int .i64 x8), (9, .int .i64 x9)]) (fun x0 x1 x2 x8 x9 => []) (fun k_ x0 x1 x2 x8 x9 => k_ ≤ k ∧ regletref15_Offset.l0 k_ x0 x1 x2 x8 x9 = some r) ⟨Nat.le_refl _, h⟩ ?_; intro k x0 x1 x2 x8 x9 h; obtain ⟨hk, h⟩ := h; rcases k with _ | k; (simp only [regletref15_Offset.l0] at h; cases h); simp only [regletref15_Offset.l0, rdc98, rdc98', rq_T110, rq_L2, rq_T73, rq_L5, rq_T98, rq_T75, rq_T43, rq_L10, rq_T28, rq_L12, rq_T24, rq_L14, rq_T44, rq_L16, rq_T49, rq_I, rq_bt, wrap64] at h)
      | (refine lp6 (fun x0 x1 x2 x8 x9 x10 => [(0, .sl (x0.map Enc.enc)), (1, .int .i64 x1), (2, .int .i64 x2), (8, .int .i64 x8), (9, .int .i64 x9), (10, .int .i64 x10)]) (fun x0 x1 x2 x8 x9 x10 => []) (fun k_ x0 x1 x2 x8 x9 x10 => k_ ≤ k ∧ regletref15_Offset.l1 k_ x0 x1 x2 x8 x9 x10 = some r) ⟨Nat.le_refl _, h⟩ ?_; intro k x0 x1 x2 x8 x9 x10 h; obtain ⟨hk, h⟩ := h; rcases k with _ | k; (simp only [regletref15_Offset.l1] at h; cases h); simp only [regletref15_Offset.l1, rdc98, rdc98', rq_T110, rq_L2, rq_T73, rq_L5, rq_T98, rq_T75, rq_T43, rq_L10, rq_T28, rq_L12, rq_T24, rq_L14, rq_T44, rq_L16, rq_T49, rq_I, rq_bt, wrap64] at h)
      | refine c_dt ?_
      | refine c_df ?_)
    | (show E2 _ _ _ _ _ _ _; first
      | refine n_seq ?_
      | (refine n_ends hT ?_; cases h; first | rfl | exact congrArg AV.bool (by rw [Bool.eq_iff_iff]; simp))
      | refine ag5 rfl ⟨by omega, h⟩
      | refine ag6 rfl ⟨by omega, h⟩)
    | with_reducible refine mI h (fun hc h => ?_)
    | with_reducible refine mE h (fun hc h => ?_)
    | with_reducible refine mS h (fun h => ?_)
    | (rcases k with _ | k; (simp only [regletref15_Offset.j0] at h; cases h); simp only [regletref15_Offset.j0, rdc98, rdc98', rq_T110, rq_L2, rq_T73, rq_L5, rq_T98, rq_T75, rq_T43, rq_L10, rq_T28, rq_L12, rq_T24, rq_L14, rq_T44, rq_L16, rq_T49, rq_I, rq_bt, wrap64] at h)
    | refine mT h (fun h => ?_)
    | refine mF h (fun h => ?_)
    | (cases h; done)
theorem regletref15_Hit.does {k : Nat} {l0 : List (S73)} {l1 : List (S24)} {a2_0 : Int} {a2_1 : Int} {a2_2 : Int} {r : (Int × Bool)} (h : regletref15_Hit.f k l0 l1 a2_0 a2_1 a2_2 = some r) (G : Objs) : Does Try.prog true 21 [.sl (l0.map Enc.enc), .sl (l1.map Enc.enc), .agg [.int .i64 a2_0, .int .i64 a2_1, .int .i64 a2_2]] G (fun x _ => x = .tup [.int .i64 r.1, .bool r.2]) := by
  unfold regletref15_Hit.f at h
  try simp only [rdc98, rdc98', rq_T110, rq_L2, rq_T73, rq_L5, rq_T98, rq_T75, rq_T43, rq_L10, rq_T28, rq_L12, rq_T24, rq_L14, rq_T44, rq_L16, rq_T49, rq_I, rq_bt, wrap64] at h
  refine does_walk 3 (F := cfg [(6, 10), (12, 7)]) tb_ok mixed Try.func21 rfl (fun T hT => ?_)
  repeat' first
    | (show E3 _ _ _ _ _ _ _ _; first
      | refine oQ vL ?_
      | refine oQ vE ?_
      | refine oQ vmax ?_
      | refine oQ vmin ?_
      | refine oLd ?_
      | refine oW ?_
      | refine n_reg [0, 1, 2, 5, 6, 7, 8, 9, 10, 12, 13, 16, 30, 62, 72] ?_
      | refine mB h (fun t ht h => oC (vC (fun G => regletref15_Stops.does ht G)) ?_)
      | refine mB h (fun t ht h => oC (vC (fun G => regletref15_Offset.does ht G)) ?_)
      | refine mB h (fun t ht h => oC (vC (fun G => regletref15_End.does ht G)) ?_)
      | with_reducible refine mI h (fun hc h => ?_)
      | with_reducible refine mE h (fun hc h => ?_)
      | with_reducible refine mS h (fun h => ?_)
      | refine oWs ?_
      | refine oWl ?_)
    | (show E1 _ _ _ _ _ _ _; first
      | refine c_seq ?_
      | refine c_reg ?_
      | refine c_drwf ?_
      | refine c_drw ?_
      | refine c_blk ?_
      | refine c_exit ?_
      | refine c_ret ?_
      | refine c_skip ?_
      | refine c_tt ?_
      | refine c_ff ?_
      | refine c_if h (fun hc h => ?_) (fun hc h => ?_)
      | refine c_fi h (fun hc h => ?_) (fun hc h => ?_)
      | with_reducible refine mI h (fun hc h => ?_)
      | with_reducible refine mE h (fun hc h => ?_)
      | with_reducible refine mS h (fun h => ?_)
      | refine c_ifs h (fun hc h => ?_) (fun hc h => ?_)
      | refine c_fis h (fun hc h => ?_) (fun hc h => ?_)
      | (refine lp9 (fun x1 x8 x9 x10 x12 x13 x518000 x518001 x518002 => [(1, .sl (x1.map Enc.enc)), (8, .int .i64 x8), (9, .int .i64 x9), (10, .int .i64 x10), (12, .sl (x12.map Enc.enc)), (13, .int .i64 x13), (5, .lptr 5 0)]) (fun x1 x8 x9 x10 x12 x13 x518000 x518001 x518002 => [(5, [.int .i64 x518000, .int .i64 x518001, .int .i64 x518002])]) (fun k_ x1 x8 x9 x10 x12 x13 x518000 x518001 x518002 => k_ ≤ k ∧ regletref15_Hit.l0 k_ x1 x8 x9 x10 x12 x13 x518000 x518001 x518002 = some r) ⟨Nat.le_refl _, h⟩ ?_; intro k x1 x8 x9 x10 x12 x13 x518000 x518001 x518002 h; obtain ⟨hk, h⟩ := h; rcases k with _ | k; (simp only [regletref15_Hit.l0] at h; cases h); simp only [regletref15_Hit.l0, rdc98, rdc98', rq_T110, rq_L2, rq_T73, rq_L5, rq_T98, rq_T75, rq_T43, rq_L10, rq_T28, rq_L12, rq_T24, rq_L14, rq_T44, rq_L16, rq_T49, rq_I, rq_bt, wrap64] at h)
      | refine c_dt ?_
      | refine c_df ?_)
    | (show E2 _ _ _ _ _ _ _; first
      | refine n_seq ?_
      | (refine n_ends hT ?_; cases h; first | rfl | exact congrArg AV.bool (by rw [Bool.eq_iff_iff]; simp))
      | refine ag9 rfl ⟨by omega, h⟩)
    | (show E4 _ _ _ _ _ _ _ _ _; first
      | refine dQ vL ?_
      | refine dQ vE ?_
      | refine dQ vmax ?_
      | refine dQ vmin ?_
      | refine dW ?_
      | refine dE ?_)
    | (show E5 _ _ _ _ _ _ _ _; first
      | refine tQ vL ?_
      | refine tQ vE ?_
      | refine tQ vmax ?_
      | refine tQ vmin ?_
      | refine tW ?_
      | refine n_drw [0, 1, 2, 5, 6, 7, 8, 9, 10, 12, 13, 16, 30, 62, 72] ?_)
    | with_reducible refine mI h (fun hc h => ?_)
    | with_reducible refine mE h (fun hc h => ?_)
    | with_reducible refine mS h (fun h => ?_)
    | refine mT h (fun h => ?_)
    | refine mF h (fun h => ?_)
    | (cases h; done)
theorem regletlaw15_LocateHits.does {k : Nat} {l0 : List (S73)} {l1 : List (S24)} {a2_0 : Int} {a2_1 : Int} {a2_2 : Int} {r : (Bool)} (h : regletlaw15_LocateHits.f k l0 l1 a2_0 a2_1 a2_2 = some r) (G : Objs) : Does Try.prog true 6 [.sl (l0.map Enc.enc), .sl (l1.map Enc.enc), .agg [.int .i64 a2_0, .int .i64 a2_1, .int .i64 a2_2]] G (fun x _ => x = .bool r) := by
  unfold regletlaw15_LocateHits.f at h
  try simp only [rdc98, rdc98', rq_T110, rq_L2, rq_T73, rq_L5, rq_T98, rq_T75, rq_T43, rq_L10, rq_T28, rq_L12, rq_T24, rq_L14, rq_T44, rq_L16, rq_T49, rq_I, rq_bt, wrap64] at h
  refine does_walk 3 (F := cfg []) tb_ok mixed Try.func6 rfl (fun T hT => ?_)
  repeat' first
    | (show E3 _ _ _ _ _ _ _ _; first
      | refine oQ vpt ?_
      | refine oQ vpf ?_
      | refine oLd ?_
      | refine oW ?_
      | refine n_reg [0, 1, 2, 5, 6, 7, 8, 9, 10, 11, 13, 22] ?_
      | refine gYq vpt ?_
      | refine gYq vpf ?_
      | refine gN ?_
      | refine gNf ?_
      | refine gY ?_
      | refine gT ?_
      | refine mB h (fun t ht h => oC (vC (fun G => regletlaw15_awake.does ht G)) ?_)
      | (refine mB h (fun t ht h => ?_); rcases t with (_ | ⟨p0, ps0⟩) <;> refine oC (vC (fun G => regletlaw15_table.does ht G)) ?_)
      | refine mB h (fun t ht h => gC (vC (fun G => regletlaw15_few.does ht G)) ?_)
      | refine mB h (fun t ht h => oC (vC (fun G => locate_Hit.does ht G)) ?_)
      | refine mB h (fun t ht h => oC (vC (fun G => regletref15_Hit.does ht G)) ?_)
      | refine gif h (fun hc h => ?_) (fun hc h => ?_)
      | refine gfi h (fun hc h => ?_) (fun hc h => ?_)
      | with_reducible refine mI h (fun hc h => ?_)
      | with_reducible refine mE h (fun hc h => ?_)
      | with_reducible refine mS h (fun h => ?_)
      | refine oWs ?_
      | refine oWl ?_
      | refine gYs ?_
      | refine gifs h (fun hc h => ?_) (fun hc h => ?_)
      | refine gfis h (fun hc h => ?_) (fun hc h => ?_)
      | (fail_if_success (refine g_lit ?_)); refine g_dt ?_
      | (fail_if_success (refine g_lit ?_)); refine g_df ?_)
    | (show E1 _ _ _ _ _ _ _; first
      | refine c_seq ?_
      | refine c_reg ?_
      | refine c_ret ?_
      | refine c_skip ?_
      | refine c_tt ?_
      | refine c_ff ?_
      | refine c_if h (fun hc h => ?_) (fun hc h => ?_)
      | refine c_fi h (fun hc h => ?_) (fun hc h => ?_)
      | with_reducible refine mI h (fun hc h => ?_)
      | with_reducible refine mE h (fun hc h => ?_)
      | with_reducible refine mS h (fun h => ?_)
      | refine c_ifs h (fun hc h => ?_) (fun hc h => ?_)
      | refine c_fis h (fun hc h => ?_) (fun hc h => ?_)
      | refine c_dt ?_
      | refine c_df ?_)
    | (show E2 _ _ _ _ _ _ _; first
      | refine n_seq ?_
      | (refine n_end hT ?_; cases h; first | rfl | exact congrArg AV.bool (by rw [Bool.eq_iff_iff]; simp)))
    | with_reducible refine mI h (fun hc h => ?_)
    | with_reducible refine mE h (fun hc h => ?_)
    | with_reducible refine mS h (fun h => ?_)
    | (rcases k with _ | k; (simp only [regletlaw15_LocateHits.j0] at h; cases h); simp only [regletlaw15_LocateHits.j0, rdc98, rdc98', rq_T110, rq_L2, rq_T73, rq_L5, rq_T98, rq_T75, rq_T43, rq_L10, rq_T28, rq_L12, rq_T24, rq_L14, rq_T44, rq_L16, rq_T49, rq_I, rq_bt, wrap64] at h)
    | refine mT h (fun h => ?_)
    | refine mF h (fun h => ?_)
    | (cases h; done)

end Go.AL.X
