/- What each function does: it answers as its model tells, and changes nothing (in 4 texts, numbered 4). -/
import Derived.Test.YtiabffkfabmlpaaC2LocateSpots
namespace Go.AL.X
open Go.Proofs Go.Proofs.Ytiabffkfabmlpaa.PLocateSpots
set_option linter.unusedVariables false
set_option linter.unusedSimpArgs false
set_option maxRecDepth 100000
set_option maxHeartbeats 800000
theorem regletref15_Line.does {k : Nat} {l0 : List (S24)} {a1 : Int} {r : (Int × Int × Int × Bool)} (h : regletref15_Line.f k l0 a1 = some r) (G : Objs) : Does Try.prog true 19 [.sl (l0.map Enc.enc), .int .i64 a1] G (fun x _ => x = .tup [.agg [.int .i64 r.1, .int .i64 r.2.1, .int .i64 r.2.2.1], .bool r.2.2.2]) := by
  unfold regletref15_Line.f at h
  try simp only [rdc98, rdc98', rq_T110, rq_L2, rq_T73, rq_L5, rq_T98, rq_T75, rq_T43, rq_L9, rq_T44, rq_L12, rq_T28, rq_L14, rq_T24, rq_T54, rq_L17, rq_I, rq_bt, wrap64] at h
  refine does_walk 2 (F := cfg []) tb_ok mixed Try.func19 rfl (fun T hT => ?_)
  repeat' first
    | (show E3 _ _ _ _ _ _ _ _; first
      | refine oQ vL ?_
      | refine oQ vE ?_
      | refine oQ vpt ?_
      | refine oQ vpf ?_
      | refine oB ?_
      | refine oLd ?_
      | refine oW ?_
      | refine n_reg [0, 1, 4, 5, 6, 16, 24] ?_
      | refine gYq vL ?_
      | refine gYq vE ?_
      | refine gYq vpt ?_
      | refine gYq vpf ?_
      | refine gN ?_
      | refine gNf ?_
      | refine gY ?_
      | refine gT ?_
      | refine mB h (fun t ht h => oC (vC (fun G => regletref15_Bytes.does ht G)) ?_)
      | refine mB h (fun t ht h => oC (vC (fun G => regletref15_Last.does ht G)) ?_)
      | refine gif h (fun hc h => ?_) (fun hc h => ?_)
      | refine gfi h (fun hc h => ?_) (fun hc h => ?_)
      | with_reducible refine mI h (fun hc h => ?_)
      | with_reducible refine mE h (fun hc h => ?_)
      | with_reducible refine mS h (fun h => ?_)
      | refine oWs ?_
      | refine oWl ?_
      | refine gYs ?_
      | refine gifs h (fun hc h => ?_) (fun hc h => ?_)
      | refine gfis h (fun hc h => ?_) (fun hc h => ?_)
      | (fail_if_success (refine g_lit ?_)); refine g_dt ?_
      | (fail_if_success (refine g_lit ?_)); refine g_df ?_)
    | (show E1 _ _ _ _ _ _ _; first
      | refine c_seq ?_
      | refine c_reg ?_
      | refine c_ret ?_
      | refine c_skip ?_
      | refine c_tt ?_
      | refine c_ff ?_
      | refine c_if h (fun hc h => ?_) (fun hc h => ?_)
      | refine c_fi h (fun hc h => ?_) (fun hc h => ?_)
      | with_reducible refine mI h (fun hc h => ?_)
      | with_reducible refine mE h (fun hc h => ?_)
      | with_reducible refine mS h (fun h => ?_)
      | refine c_ifs h (fun hc h => ?_) (fun hc h => ?_)
      | refine c_fis h (fun hc h => ?_) (fun hc h => ?_)
      | refine c_dt ?_
      | refine c_df ?_)
    | (show E2 _ _ _ _ _ _ _; first
      | refine n_seq ?_
      | (refine n_ends hT ?_; cases h; first | rfl | exact congrArg AV.bool (by rw [Bool.eq_iff_iff]; simp)))
    | with_reducible refine mI h (fun hc h => ?_)
    | with_reducible refine mE h (fun hc h => ?_)
    | with_reducible refine mS h (fun h => ?_)
    | (rcases k with _ | k; (simp only [regletref15_Line.j0] at h; cases h); simp only [regletref15_Line.j0, rdc98, rdc98', rq_T110, rq_L2, rq_T73, rq_L5, rq_T98, rq_T75, rq_T43, rq_L9, rq_T44, rq_L12, rq_T28, rq_L14, rq_T24, rq_T54, rq_L17, rq_I, rq_bt, wrap64] at h)
    | refine mT h (fun h => ?_)
    | refine mF h (fun h => ?_)
    | (cases h; done)
theorem regletlaw15_LocateSpots.does {k : Nat} {l0 : List (S73)} {l1 : List (S24)} {a2 : Int} {r : (Bool)} (h : regletlaw15_LocateSpots.f k l0 l1 a2 = some r) (G : Objs) : Does Try.prog true 5 [.sl (l0.map Enc.enc), .sl (l1.map Enc.enc), .int .i64 a2] G (fun x _ => x = .bool r) := by
  unfold regletlaw15_LocateSpots.f at h
  try simp only [rdc98, rdc98', rq_T110, rq_L2, rq_T73, rq_L5, rq_T98, rq_T75, rq_T43, rq_L9, rq_T44, rq_L12, rq_T28, rq_L14, rq_T24, rq_T54, rq_L17, rq_I, rq_bt, wrap64] at h
  refine does_walk 3 (F := cfg [(10, 1010), (14, 7), (15, 14)]) tb_ok mixed Try.func5 rfl (fun T hT => ?_)
  repeat' first
    | (show E3 _ _ _ _ _ _ _ _; first
      | refine oQ vL ?_
      | refine oQ vE ?_
      | refine oQ vpt ?_
      | refine oQ vpf ?_
      | refine oB ?_
      | refine oLd ?_
      | refine oW ?_
      | refine n_reg [0, 1, 2, 6, 7, 8, 9, 10, 11, 12, 13, 15, 24, 39, 62, 72] ?_
      | refine gYq vL ?_
      | refine gYq vE ?_
      | refine gYq vpt ?_
      | refine gYq vpf ?_
      | refine gLd ?_
      | refine gB ?_
      | refine gN ?_
      | refine gNf ?_
      | refine gY ?_
      | refine gT ?_
      | refine mB h (fun t ht h => oC (vC (fun G => regletlaw15_awake.does ht G)) ?_)
      | (refine mB h (fun t ht h => ?_); rcases t with (_ | ⟨p0, ps0⟩) <;> refine oC (vC (fun G => regletlaw15_table.does ht G)) ?_)
      | refine mB h (fun t ht h => gC (vC (fun G => regletlaw15_few.does ht G)) ?_)
      | refine mB h (fun t ht h => oC (vC (fun G => locate_Spot.does ht G)) ?_)
      | refine mB h (fun t ht h => oC (vC (fun G => regletref15_Line.does ht G)) ?_)
      | refine gif h (fun hc h => ?_) (fun hc h => ?_)
      | refine gfi h (fun hc h => ?_) (fun hc h => ?_)
      | with_reducible refine mI h (fun hc h => ?_)
      | with_reducible refine mE h (fun hc h => ?_)
      | with_reducible refine mS h (fun h => ?_)
      | refine oWs ?_
      | refine oWl ?_
      | refine gYs ?_
      | refine gifs h (fun hc h => ?_) (fun hc h => ?_)
      | refine gfis h (fun hc h => ?_) (fun hc h => ?_)
      | (fail_if_success (refine g_lit ?_)); refine g_dt ?_
      | (fail_if_success (refine g_lit ?_)); refine g_df ?_)
    | (show E1 _ _ _ _ _ _ _; first
      | refine c_seq ?_
      | refine c_reg ?_
      | refine c_drwf ?_
      | refine c_drw ?_
      | refine c_blk ?_
      | refine c_exit ?_
      | refine c_ret ?_
      | refine c_skip ?_
      | refine c_tt ?_
      | refine c_ff ?_
      | refine c_if h (fun hc h => ?_) (fun hc h => ?_)
      | refine c_fi h (fun hc h => ?_) (fun hc h => ?_)
      | with_reducible refine mI h (fun hc h => ?_)
      | with_reducible refine mE h (fun hc h => ?_)
      | with_reducible refine mS h (fun h => ?_)
      | refine c_ifs h (fun hc h => ?_) (fun hc h => ?_)
      | refine c_fis h (fun hc h => ?_) (fun hc h => ?_)
      | (refine lp9 (fun x9 x12 x13 x524000 x524001 x524002 x529000 x529001 x529002 => [(9, .int .i64 x9), (12, .sl (x12.map Enc.enc)), (13, .int .i64 x13), (8, .lptr 8 0), (10, .lptr 10 0)]) (fun x9 x12 x13 x524000 x524001 x524002 x529000 x529001 x529002 => [(8, [.int .i64 x524000, .int .i64 x524001, .int .i64 x524002]), (10, [.int .i64 x529000, .int .i64 x529001, .int .i64 x529002])]) (fun k_ x9 x12 x13 x524000 x524001 x524002 x529000 x529001 x529002 => k_ ≤ k ∧ regletlaw15_LocateSpots.l0 k_ x9 x12 x13 x524000 x524001 x524002 x529000 x529001 x529002 = some r) ⟨Nat.le_refl _, h⟩ ?_; intro k x9 x12 x13 x524000 x524001 x524002 x529000 x529001 x529002 h; obtain ⟨hk, h⟩ := h; rcases k with _ | k; (simp only [regletlaw15_LocateSpots.l0] at h; cases h); simp only [regletlaw15_LocateSpots.l0, rdc98, rdc98', rq_T110, rq_L2, rq_T73, rq_L5, rq_T98, rq_T75, rq_T43, rq_L9, rq_T44, rq_L12, rq_T28, rq_L14, rq_T24, rq_T54, rq_L17, rq_I, rq_bt, wrap64] at h)
      | refine c_dt ?_
      | refine c_df ?_)
    | (show E2 _ _ _ _ _ _ _; first
      | refine n_seq ?_
      | (refine n_end hT ?_; cases h; first | rfl | exact congrArg AV.bool (by rw [Bool.eq_iff_iff]; simp))
      | refine ag9 rfl ⟨by omega, h⟩)
    | (show E4 _ _ _ _ _ _ _ _ _; first
      | refine mB h (fun t ht h => dQ (vC (fun G => regletref15_Stops.does ht G)) ?_)
      | refine dQ vL ?_
      | refine dQ vE ?_
      | refine dQ vpt ?_
      | refine dQ vpf ?_
      | refine dW ?_
      | refine dE ?_
      | refine dEl ?_ ?_
      | refine dYq vL ?_
      | refine dYq vE ?_
      | refine dYq vpt ?_
      | refine dYq vpf ?_
      | refine dN ?_
      | refine dNf ?_
      | refine dY ?_
      | refine dT ?_
      | refine dif_ h (fun hc h => ?_) (fun hc h => ?_)
      | refine dfi h (fun hc h => ?_) (fun hc h => ?_)
      | with_reducible refine mI h (fun hc h => ?_)
      | with_reducible refine mE h (fun hc h => ?_)
      | with_reducible refine mS h (fun h => ?_)
      | refine dif_s h (fun hc h => ?_) (fun hc h => ?_)
      | refine dfis h (fun hc h => ?_) (fun hc h => ?_))
    | (show E5 _ _ _ _ _ _ _ _; first
      | refine mB h (fun t ht h => tC (vC (fun G => regletref15_Stops.does ht G)) ?_)
      | refine tQ vL ?_
      | refine tQ vE ?_
      | refine tQ vpt ?_
      | refine tQ vpf ?_
      | refine tYq vL ?_
      | refine tYq vE ?_
      | refine tYq vpt ?_
      | refine tYq vpf ?_
      | refine tN ?_
      | refine tNf ?_
      | refine tY ?_
      | refine tT ?_
      | refine tW ?_
      | refine n_drw [0, 1, 2, 6, 7, 8, 9, 10, 11, 12, 13, 15, 24, 39, 62, 72] ?_
      | refine tif h (fun hc h => ?_) (fun hc h => ?_)
      | refine tfi h (fun hc h => ?_) (fun hc h => ?_)
      | with_reducible refine mI h (fun hc h => ?_)
      | with_reducible refine mE h (fun hc h => ?_)
      | with_reducible refine mS h (fun h => ?_))
    | with_reducible refine mI h (fun hc h => ?_)
    | with_reducible refine mE h (fun hc h => ?_)
    | with_reducible refine mS h (fun h => ?_)
    | (rcases k with _ | k; (simp only [regletlaw15_LocateSpots.j0] at h; cases h); simp only [regletlaw15_LocateSpots.j0, rdc98, rdc98', rq_T110, rq_L2, rq_T73, rq_L5, rq_T98, rq_T75, rq_T43, rq_L9, rq_T44, rq_L12, rq_T28, rq_L14, rq_T24, rq_T54, rq_L17, rq_I, rq_bt, wrap64] at h)
    | refine mT h (fun h => ?_)
    | refine mF h (fun h => ?_)
    | (cases h; done)

end Go.AL.X
