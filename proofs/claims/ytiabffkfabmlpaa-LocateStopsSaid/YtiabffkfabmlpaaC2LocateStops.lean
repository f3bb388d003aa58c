/- What each function does: it answers as its model tells, and changes nothing (in 3 texts, numbered 3). -/
import Derived.Test.YtiabffkfabmlpaaC1LocateStops
namespace Go.AL.X
open Go.Proofs Go.Proofs.Ytiabffkfabmlpaa.PLocateStops
set_option linter.unusedVariables false
set_option linter.unusedSimpArgs false
set_option maxRecDepth 100000
set_option maxHeartbeats 800000
theorem locate_Width.does {k : Nat} {l0 : S98} {l0s : List S98} {a1_0 : ByteArray} {l1_1 : List (S75)} {a1_2 : Int} {a1_3 : Int} {a1_4 : Int} {a1_5 : Bool} {a1_6 : Int} {a1_7 : Bool} {a1_8 : Bool} {r : (Int)} (h : locate_Width.f k (l0 :: l0s) a1_0 l1_1 a1_2 a1_3 a1_4 a1_5 a1_6 a1_7 a1_8 = some r) (G : Objs) : Does Try.prog true 15 [.ptrF (Enc.enc l0), .agg [.str a1_0, .sl (l1_1.map Enc.enc), .int .i64 a1_2, .int .i64 a1_3, .int .i64 a1_4, .bool a1_5, .int .i64 a1_6, .bool a1_7, .bool a1_8]] G (fun x _ => x = .int .i64 r) := by
  unfold locate_Width.f at h
  try simp only [rdc98, rdc98', rq_T110, rq_L2, rq_T73, rq_L5, rq_T98, rq_T75, rq_T43, rq_L9, rq_T44, rq_L12, rq_T28, rq_I, rq_bt, wrap64] at h
  refine does_walk 2 (F := cfg []) tb_ok mixed Try.func15 rfl (fun T hT => ?_)
  repeat' first
    | (show E3 _ _ _ _ _ _ _ _; first
      | refine oQ vL ?_
      | refine oQ vE ?_
      | refine oLd ?_
      | refine oW ?_
      | refine n_reg [0, 1, 3, 4, 5, 6, 7, 9, 22, 25, 26, 27, 28, 33] ?_
      | refine mB h (fun t ht h => oC (vC (fun G => locate_Stops.does ht G)) ?_)
      | refine mB h (fun t ht h => oC (vC (fun G => scaled_Add.does ht G)) ?_)
      | refine mB h (fun t ht h => oC (vC (fun G => metrics_Table_Hyphen.does ht G)) ?_)
      | with_reducible refine mI h (fun hc h => ?_)
      | with_reducible refine mE h (fun hc h => ?_)
      | with_reducible refine mS h (fun h => ?_)
      | refine oWs ?_
      | refine oWl ?_)
    | (show E1 _ _ _ _ _ _ _; first
      | refine c_seq ?_
      | refine c_reg ?_
      | refine c_blk ?_
      | refine c_exit ?_
      | refine c_ret ?_
      | refine c_skip ?_
      | refine c_tt ?_
      | refine c_ff ?_
      | refine c_if h (fun hc h => ?_) (fun hc h => ?_)
      | refine c_fi h (fun hc h => ?_) (fun hc h => ?_)
      | with_reducible refine mI h (fun hc h => ?_)
      | with_reducible refine mE h (fun hc h => ?_)
      | with_reducible refine mS h (fun h => ?_)
      | refine c_ifs h (fun hc h => ?_) (fun hc h => ?_)
      | refine c_fis h (fun hc h => ?_) (fun hc h => ?_)
      | (refine lp7 (fun x0 x0s x6 x7 x25 x26 x27 => [(0, .ptrF (Enc.enc x0)), (6, .int .i64 x6), (7, .int .i64 x7), (25, .sl (x25.map Enc.enc)), (26, .int .i64 x26), (27, .int .i64 x27)]) (fun x0 x0s x6 x7 x25 x26 x27 => []) (fun k_ x0 x0s x6 x7 x25 x26 x27 => k_ ≤ k ∧ locate_Width.l0 k_ (x0 :: x0s) x6 x7 x25 x26 x27 = some r) ⟨Nat.le_refl _, h⟩ ?_; intro k x0 x0s x6 x7 x25 x26 x27 h; obtain ⟨hk, h⟩ := h; rcases k with _ | k; (simp only [locate_Width.l0] at h; cases h); simp only [locate_Width.l0, rdc98, rdc98', rq_T110, rq_L2, rq_T73, rq_L5, rq_T98, rq_T75, rq_T43, rq_L9, rq_T44, rq_L12, rq_T28, rq_I, rq_bt, wrap64] at h)
      | refine c_dt ?_
      | refine c_df ?_)
    | (show E2 _ _ _ _ _ _ _; first
      | refine n_seq ?_
      | (refine n_end hT ?_; cases h; first | rfl | exact congrArg AV.bool (by rw [Bool.eq_iff_iff]; simp))
      | refine ag7 rfl ⟨by omega, h⟩)
    | with_reducible refine mI h (fun hc h => ?_)
    | with_reducible refine mE h (fun hc h => ?_)
    | with_reducible refine mS h (fun h => ?_)
    | refine mT h (fun h => ?_)
    | refine mF h (fun h => ?_)
    | (cases h; done)
theorem regletref15_Width.does {k : Nat} {l0 : List (S73)} {a1_0 : ByteArray} {l1_1 : List (S75)} {a1_2 : Int} {a1_3 : Int} {a1_4 : Int} {a1_5 : Bool} {a1_6 : Int} {a1_7 : Bool} {a1_8 : Bool} {r : (Int)} (h : regletref15_Width.f k l0 a1_0 l1_1 a1_2 a1_3 a1_4 a1_5 a1_6 a1_7 a1_8 = some r) (G : Objs) : Does Try.prog true 16 [.sl (l0.map Enc.enc), .agg [.str a1_0, .sl (l1_1.map Enc.enc), .int .i64 a1_2, .int .i64 a1_3, .int .i64 a1_4, .bool a1_5, .int .i64 a1_6, .bool a1_7, .bool a1_8]] G (fun x _ => x = .int .i64 r) := by
  unfold regletref15_Width.f at h
  try simp only [rdc98, rdc98', rq_T110, rq_L2, rq_T73, rq_L5, rq_T98, rq_T75, rq_T43, rq_L9, rq_T44, rq_L12, rq_T28, rq_I, rq_bt, wrap64] at h
  refine does_walk 2 (F := cfg []) tb_ok mixed Try.func16 rfl (fun T hT => ?_)
  repeat' first
    | (show E3 _ _ _ _ _ _ _ _; first
      | refine oQ vL ?_
      | refine oQ vE ?_
      | refine oLd ?_
      | refine oW ?_
      | refine n_reg [0, 1, 3, 4, 5, 6, 7, 8, 21, 27, 36] ?_
      | refine mB h (fun t ht h => oC (vC (fun G => regletref15_Stops.does ht G)) ?_)
      | refine mB h (fun t ht h => oC (vC (fun G => regletref04_Of.does ht G)) ?_)
      | refine mB h (fun t ht h => oC (vC (fun G => regletref01_Add.does ht G)) ?_)
      | with_reducible refine mI h (fun hc h => ?_)
      | with_reducible refine mE h (fun hc h => ?_)
      | with_reducible refine mS h (fun h => ?_)
      | refine oWs ?_
      | refine oWl ?_)
    | (show E1 _ _ _ _ _ _ _; first
      | refine c_seq ?_
      | refine c_reg ?_
      | refine c_blk ?_
      | refine c_exit ?_
      | refine c_ret ?_
      | refine c_skip ?_
      | refine c_tt ?_
      | refine c_ff ?_
      | refine c_if h (fun hc h => ?_) (fun hc h => ?_)
      | refine c_fi h (fun hc h => ?_) (fun hc h => ?_)
      | with_reducible refine mI h (fun hc h => ?_)
      | with_reducible refine mE h (fun hc h => ?_)
      | with_reducible refine mS h (fun h => ?_)
      | refine c_ifs h (fun hc h => ?_) (fun hc h => ?_)
      | refine c_fis h (fun hc h => ?_) (fun hc h => ?_)
      | (refine lp13 (fun x0 x6 x7 x8 x495000 x495001 x495002 x495003 x495004 x495005 x495006 x495007 x495008 => [(0, .sl (x0.map Enc.enc)), (6, .int .i64 x6), (7, .int .i64 x7), (8, .int .i64 x8), (3, .lptr 3 0)]) (fun x0 x6 x7 x8 x495000 x495001 x495002 x495003 x495004 x495005 x495006 x495007 x495008 => [(3, [.str x495000, .sl (x495001.map Enc.enc), .int .i64 x495002, .int .i64 x495003, .int .i64 x495004, .bool x495005, .int .i64 x495006, .bool x495007, .bool x495008])]) (fun k_ x0 x6 x7 x8 x495000 x495001 x495002 x495003 x495004 x495005 x495006 x495007 x495008 => k_ ≤ k ∧ regletref15_Width.l0 k_ x0 x6 x7 x8 x495000 x495001 x495002 x495003 x495004 x495005 x495006 x495007 x495008 = some r) ⟨Nat.le_refl _, h⟩ ?_; intro k x0 x6 x7 x8 x495000 x495001 x495002 x495003 x495004 x495005 x495006 x495007 x495008 h; obtain ⟨hk, h⟩ := h; rcases k with _ | k; (simp only [regletref15_Width.l0] at h; cases h); simp only [regletref15_Width.l0, rdc98, rdc98', rq_T110, rq_L2, rq_T73, rq_L5, rq_T98, rq_T75, rq_T43, rq_L9, rq_T44, rq_L12, rq_T28, rq_I, rq_bt, wrap64] at h)
      | refine c_dt ?_
      | refine c_df ?_)
    | (show E2 _ _ _ _ _ _ _; first
      | refine n_seq ?_
      | (refine n_end hT ?_; cases h; first | rfl | exact congrArg AV.bool (by rw [Bool.eq_iff_iff]; simp))
      | refine ag13 rfl ⟨by omega, h⟩)
    | with_reducible refine mI h (fun hc h => ?_)
    | with_reducible refine mE h (fun hc h => ?_)
    | with_reducible refine mS h (fun h => ?_)
    | refine mT h (fun h => ?_)
    | refine mF h (fun h => ?_)
    | (cases h; done)
theorem regletlaw15_LocateStops.does {k : Nat} {l0 : List (S73)} {a1_0 : ByteArray} {l1_1 : List (S75)} {a1_2 : Int} {a1_3 : Int} {a1_4 : Int} {a1_5 : Bool} {a1_6 : Int} {a1_7 : Bool} {a1_8 : Bool} {r : (Bool)} (h : regletlaw15_LocateStops.f k l0 a1_0 l1_1 a1_2 a1_3 a1_4 a1_5 a1_6 a1_7 a1_8 = some r) (G : Objs) : Does Try.prog true 4 [.sl (l0.map Enc.enc), .agg [.str a1_0, .sl (l1_1.map Enc.enc), .int .i64 a1_2, .int .i64 a1_3, .int .i64 a1_4, .bool a1_5, .int .i64 a1_6, .bool a1_7, .bool a1_8]] G (fun x _ => x = .bool r) := by
  unfold regletlaw15_LocateStops.f at h
  try simp only [rdc98, rdc98', rq_T110, rq_L2, rq_T73, rq_L5, rq_T98, rq_T75, rq_T43, rq_L9, rq_T44, rq_L12, rq_T28, rq_I, rq_bt, wrap64] at h
  refine does_walk 2 (F := cfg [(6, 5), (7, 11), (12, 22)]) tb_ok mixed Try.func4 rfl (fun T hT => ?_)
  repeat' first
    | (show E3 _ _ _ _ _ _ _ _; first
      | refine oQ vL ?_
      | refine oQ vE ?_
      | refine oQ vpt ?_
      | refine oQ vpf ?_
      | refine oLd ?_
      | refine oW ?_
      | refine n_reg [0, 1, 3, 4, 5, 6, 7, 8, 10, 19, 39, 43, 69] ?_
      | refine gYq vL ?_
      | refine gYq vE ?_
      | refine gYq vpt ?_
      | refine gYq vpf ?_
      | refine gLd ?_
      | refine gN ?_
      | refine gNf ?_
      | refine gY ?_
      | refine gT ?_
      | refine mB h (fun t ht h => oC (vC (fun G => regletlaw15_awake.does ht G)) ?_)
      | (refine mB h (fun t ht h => ?_); rcases t with (_ | ⟨p0, ps0⟩) <;> refine oC (vC (fun G => regletlaw15_table.does ht G)) ?_)
      | refine mB h (fun t ht h => gC (vC (fun G => regletlaw15_line.does ht G)) ?_)
      | refine gif h (fun hc h => ?_) (fun hc h => ?_)
      | refine gfi h (fun hc h => ?_) (fun hc h => ?_)
      | with_reducible refine mI h (fun hc h => ?_)
      | with_reducible refine mE h (fun hc h => ?_)
      | with_reducible refine mS h (fun h => ?_)
      | refine oWs ?_
      | refine oWl ?_
      | refine gYs ?_
      | refine gifs h (fun hc h => ?_) (fun hc h => ?_)
      | refine gfis h (fun hc h => ?_) (fun hc h => ?_)
      | (fail_if_success (refine g_lit ?_)); refine g_dt ?_
      | (fail_if_success (refine g_lit ?_)); refine g_df ?_)
    | (show E1 _ _ _ _ _ _ _; first
      | refine c_seq ?_
      | refine c_reg ?_
      | (show E1 _ _ _ (.region 6 _ _) _ _ _; refine fzo (.l 3 1) ?_)
      | (show E1 _ _ _ (.region 6 _ _) _ _ _; refine fzo (.l 3 1) ?_)
      | (show E1 _ _ _ (.region 7 _ _) _ _ _; refine fzo (.l 3 1) ?_)
      | (show E1 _ _ _ (.region 7 _ _) _ _ _; refine fzo (.l 3 1) ?_)
      | refine c_drwf ?_
      | refine c_drw ?_
      | refine c_blk ?_
      | refine c_exit ?_
      | refine c_ret ?_
      | refine c_skip ?_
      | refine c_tt ?_
      | refine c_ff ?_
      | refine c_if h (fun hc h => ?_) (fun hc h => ?_)
      | refine c_fi h (fun hc h => ?_) (fun hc h => ?_)
      | with_reducible refine mI h (fun hc h => ?_)
      | with_reducible refine mE h (fun hc h => ?_)
      | with_reducible refine mS h (fun h => ?_)
      | refine c_ifs h (fun hc h => ?_) (fun hc h => ?_)
      | refine c_fis h (fun hc h => ?_) (fun hc h => ?_)
      | (refine lp3 (fun x6 x7 x8 => [(6, .sl (x6.map Enc.enc)), (7, .sl (x7.map Enc.enc)), (8, .int .i64 x8)]) (fun x6 x7 x8 => []) (fun k_ x6 x7 x8 => k_ ≤ k ∧ regletlaw15_LocateStops.l0 k_ x6 x7 x8 = some r) ⟨Nat.le_refl _, h⟩ ?_; intro k x6 x7 x8 h; obtain ⟨hk, h⟩ := h; rcases k with _ | k; (simp only [regletlaw15_LocateStops.l0] at h; cases h); simp only [regletlaw15_LocateStops.l0, rdc98, rdc98', rq_T110, rq_L2, rq_T73, rq_L5, rq_T98, rq_T75, rq_T43, rq_L9, rq_T44, rq_L12, rq_T28, rq_I, rq_bt, wrap64] at h)
      | refine c_dt ?_
      | refine c_df ?_)
    | (show E2 _ _ _ _ _ _ _; first
      | refine n_seq ?_
      | (refine n_end hT ?_; cases h; first | rfl | exact congrArg AV.bool (by rw [Bool.eq_iff_iff]; simp))
      | refine ag3 rfl ⟨by omega, h⟩)
    | (show E4 _ _ _ _ _ _ _ _ _; first
      | refine mB h (fun t ht h => dQ (vC (fun G => locate_Stops.does ht G)) ?_)
      | refine mB h (fun t ht h => dQ (vC (fun G => regletref15_Stops.does ht G)) ?_)
      | refine mB h (fun t ht h => dYq (vC (fun G => locate_Width.does ht G)) ?_)
      | refine mB h (fun t ht h => dYq (vC (fun G => regletref15_Width.does ht G)) ?_)
      | refine dQ vL ?_
      | refine dQ vE ?_
      | refine dQ vpt ?_
      | refine dQ vpf ?_
      | refine dW ?_
      | refine dE ?_
      | refine dYq vL ?_
      | refine dYq vE ?_
      | refine dYq vpt ?_
      | refine dYq vpf ?_
      | refine dN ?_
      | refine dNf ?_
      | refine dY ?_
      | refine dT ?_
      | refine dif_ h (fun hc h => ?_) (fun hc h => ?_)
      | refine dfi h (fun hc h => ?_) (fun hc h => ?_)
      | with_reducible refine mI h (fun hc h => ?_)
      | with_reducible refine mE h (fun hc h => ?_)
      | with_reducible refine mS h (fun h => ?_)
      | refine dif_s h (fun hc h => ?_) (fun hc h => ?_)
      | refine dfis h (fun hc h => ?_) (fun hc h => ?_))
    | (show E5 _ _ _ _ _ _ _ _; first
      | refine mB h (fun t ht h => tC (vC (fun G => locate_Stops.does ht G)) ?_)
      | refine mB h (fun t ht h => tC (vC (fun G => regletref15_Stops.does ht G)) ?_)
      | refine mB h (fun t ht h => tCg (vC (fun G => locate_Width.does ht G)) ?_)
      | refine mB h (fun t ht h => tCg (vC (fun G => regletref15_Width.does ht G)) ?_)
      | refine tQ vL ?_
      | refine tQ vE ?_
      | refine tQ vpt ?_
      | refine tQ vpf ?_
      | refine tYq vL ?_
      | refine tYq vE ?_
      | refine tYq vpt ?_
      | refine tYq vpf ?_
      | refine tN ?_
      | refine tNf ?_
      | refine tY ?_
      | refine tT ?_
      | refine tW ?_
      | refine n_drw [0, 1, 3, 4, 5, 6, 7, 8, 10, 19, 39, 43, 69] ?_
      | refine tif h (fun hc h => ?_) (fun hc h => ?_)
      | refine tfi h (fun hc h => ?_) (fun hc h => ?_)
      | with_reducible refine mI h (fun hc h => ?_)
      | with_reducible refine mE h (fun hc h => ?_)
      | with_reducible refine mS h (fun h => ?_))
    | with_reducible refine mI h (fun hc h => ?_)
    | with_reducible refine mE h (fun hc h => ?_)
    | with_reducible refine mS h (fun h => ?_)
    | (rcases k with _ | k; (simp only [regletlaw15_LocateStops.j0] at h; cases h); simp only [regletlaw15_LocateStops.j0, rdc98, rdc98', rq_T110, rq_L2, rq_T73, rq_L5, rq_T98, rq_T75, rq_T43, rq_L9, rq_T44, rq_L12, rq_T28, rq_I, rq_bt, wrap64] at h)
    | (rcases k with _ | k; (simp only [regletlaw15_LocateStops.j1] at h; cases h); simp only [regletlaw15_LocateStops.j1, rdc98, rdc98', rq_T110, rq_L2, rq_T73, rq_L5, rq_T98, rq_T75, rq_T43, rq_L9, rq_T44, rq_L12, rq_T28, rq_I, rq_bt, wrap64] at h)
    | refine mT h (fun h => ?_)
    | refine mF h (fun h => ?_)
    | (cases h; done)

end Go.AL.X
