/- What each function does: it answers as its model tells, and changes nothing (in 4 texts, numbered 1). -/
import Derived.Test.YtiabffkfabmlpaaTLocateHits
namespace Go.AL.X
open Go.Proofs Go.Proofs.Ytiabffkfabmlpaa.PLocateHits
set_option linter.unusedVariables false
set_option linter.unusedSimpArgs false
set_option maxRecDepth 100000
set_option maxHeartbeats 800000
theorem regletref04_fits.does {a0 : Int} {a1 : Int} {r : (Bool)} (h : regletref04_fits.f a0 a1 = some r) (G : Objs) : Does Try.prog true 59 [.int .i64 a0, .int .i64 a1] G (fun x _ => x = .bool r) := by
  unfold regletref04_fits.f at h
  try simp only [rdc98, rdc98', rq_T110, rq_L2, rq_T73, rq_L5, rq_T98, rq_T75, rq_T43, rq_L10, rq_T28, rq_L12, rq_T24, rq_L14, rq_T44, rq_L16, rq_T49, rq_I, rq_bt, wrap64] at h
  refine does_walk 2 (F := cfg []) tb_ok mixed Try.func59 rfl (fun T hT => ?_)
  repeat' first
    | (show E3 _ _ _ _ _ _ _ _; first
      | refine oQ vpt ?_
      | refine oQ vpf ?_
      | refine oW ?_
      | refine n_reg [0, 1, 4] ?_
      | refine gYq vpt ?_
      | refine gYq vpf ?_
      | refine gN ?_
      | refine gNf ?_
      | refine gY ?_
      | refine gT ?_
      | refine gif h (fun hc h => ?_) (fun hc h => ?_)
      | refine gfi h (fun hc h => ?_) (fun hc h => ?_)
      | with_reducible refine mI h (fun hc h => ?_)
      | with_reducible refine mE h (fun hc h => ?_)
      | with_reducible refine mS h (fun h => ?_)
      | refine oWs ?_
      | refine gYs ?_
      | refine gifs h (fun hc h => ?_) (fun hc h => ?_)
      | refine gfis h (fun hc h => ?_) (fun hc h => ?_)
      | (fail_if_success (refine g_lit ?_)); refine g_dt ?_
      | (fail_if_success (refine g_lit ?_)); refine g_df ?_)
    | (show E1 _ _ _ _ _ _ _; first
      | refine c_seq ?_
      | refine c_reg ?_
      | refine c_ret ?_)
    | (show E2 _ _ _ _ _ _ _; first
      | refine n_seq ?_
      | (refine n_end hT ?_; cases h; first | rfl | exact congrArg AV.bool (by rw [Bool.eq_iff_iff]; simp)))
    | with_reducible refine mI h (fun hc h => ?_)
    | with_reducible refine mE h (fun hc h => ?_)
    | with_reducible refine mS h (fun h => ?_)
    | refine mT h (fun h => ?_)
    | refine mF h (fun h => ?_)
    | (cases h; done)
theorem regletref04_Style.does {k : Nat} {a0_0 : Int} {a0_1 : Int} {a0_2 : Int} {a0_3 : Int} {a0_4 : Int} {a0_5 : Int} {l0_6 : List (S110)} {a0_7 : Bool} {r : (Int)} (h : regletref04_Style.f k a0_0 a0_1 a0_2 a0_3 a0_4 a0_5 l0_6 a0_7 = some r) (G : Objs) : Does Try.prog true 47 [.agg [.int .i64 a0_0, .int .i64 a0_1, .int .i64 a0_2, .int .i64 a0_3, .int .i64 a0_4, .int .i64 a0_5, .sl (l0_6.map Enc.enc), .bool a0_7]] G (fun x _ => x = .int .i64 r) := by
  unfold regletref04_Style.f at h
  try simp only [rdc98, rdc98', rq_T110, rq_L2, rq_T73, rq_L5, rq_T98, rq_T75, rq_T43, rq_L10, rq_T28, rq_L12, rq_T24, rq_L14, rq_T44, rq_L16, rq_T49, rq_I, rq_bt, wrap64] at h
  refine does_walk 1 (F := cfg [(15, 28)]) tb_ok mixed Try.func47 rfl (fun T hT => ?_)
  repeat' first
    | (show E3 _ _ _ _ _ _ _ _; first
      | refine oQ vL ?_
      | refine oQ vE ?_
      | refine oQ vpt ?_
      | refine oQ vpf ?_
      | refine oBS ?_
      | refine oLd ?_
      | refine oW ?_
      | refine n_reg [0, 1, 2, 3, 4, 5, 6, 21, 29, 40, 44, 49, 91, 95] ?_
      | refine gYq vL ?_
      | refine gYq vE ?_
      | refine gYq vpt ?_
      | refine gYq vpf ?_
      | refine gN ?_
      | refine gNf ?_
      | refine gY ?_
      | refine gT ?_
      | refine mB h (fun t ht h => oC (vC (fun G => regletref04_fits.does ht G)) ?_)
      | refine gif h (fun hc h => ?_) (fun hc h => ?_)
      | refine gfi h (fun hc h => ?_) (fun hc h => ?_)
      | with_reducible refine mI h (fun hc h => ?_)
      | with_reducible refine mE h (fun hc h => ?_)
      | with_reducible refine mS h (fun h => ?_)
      | refine oWs ?_
      | refine oWl ?_
      | refine gYs ?_
      | refine gifs h (fun hc h => ?_) (fun hc h => ?_)
      | refine gfis h (fun hc h => ?_) (fun hc h => ?_)
      | (fail_if_success (refine g_lit ?_)); refine g_dt ?_
      | (fail_if_success (refine g_lit ?_)); refine g_df ?_)
    | (show E1 _ _ _ _ _ _ _; first
      | refine c_seq ?_
      | refine c_reg ?_
      | refine c_drwf ?_
      | refine c_drw ?_
      | refine c_blk ?_
      | refine c_exit ?_
      | refine c_ret ?_
      | refine c_skip ?_
      | refine c_tt ?_
      | refine c_ff ?_
      | refine c_if h (fun hc h => ?_) (fun hc h => ?_)
      | refine c_fi h (fun hc h => ?_) (fun hc h => ?_)
      | with_reducible refine mI h (fun hc h => ?_)
      | with_reducible refine mE h (fun hc h => ?_)
      | with_reducible refine mS h (fun h => ?_)
      | refine c_ifs h (fun hc h => ?_) (fun hc h => ?_)
      | refine c_fis h (fun hc h => ?_) (fun hc h => ?_)
      | (refine lp10 (fun x3 x4 x102000 x102001 x102002 x102003 x102004 x102005 x102006 x102007 => [(3, .sl (x3.map Enc.enc)), (4, .int .i64 x4), (1, .lptr 1 0)]) (fun x3 x4 x102000 x102001 x102002 x102003 x102004 x102005 x102006 x102007 => [(1, [.int .i64 x102000, .int .i64 x102001, .int .i64 x102002, .int .i64 x102003, .int .i64 x102004, .int .i64 x102005, .sl (x102006.map Enc.enc), .bool x102007])]) (fun k_ x3 x4 x102000 x102001 x102002 x102003 x102004 x102005 x102006 x102007 => k_ ≤ k ∧ regletref04_Style.l0 k_ x3 x4 x102000 x102001 x102002 x102003 x102004 x102005 x102006 x102007 = some r) ⟨Nat.le_refl _, h⟩ ?_; intro k x3 x4 x102000 x102001 x102002 x102003 x102004 x102005 x102006 x102007 h; obtain ⟨hk, h⟩ := h; rcases k with _ | k; (simp only [regletref04_Style.l0] at h; cases h); simp only [regletref04_Style.l0, rdc98, rdc98', rq_T110, rq_L2, rq_T73, rq_L5, rq_T98, rq_T75, rq_T43, rq_L10, rq_T28, rq_L12, rq_T24, rq_L14, rq_T44, rq_L16, rq_T49, rq_I, rq_bt, wrap64] at h)
      | (refine lp9 (fun x5 x102000 x102001 x102002 x102003 x102004 x102005 x102006 x102007 => [(5, .int .i64 x5), (1, .lptr 1 0)]) (fun x5 x102000 x102001 x102002 x102003 x102004 x102005 x102006 x102007 => [(1, [.int .i64 x102000, .int .i64 x102001, .int .i64 x102002, .int .i64 x102003, .int .i64 x102004, .int .i64 x102005, .sl (x102006.map Enc.enc), .bool x102007])]) (fun k_ x5 x102000 x102001 x102002 x102003 x102004 x102005 x102006 x102007 => k_ ≤ k ∧ regletref04_Style.l1 k_ x5 x102000 x102001 x102002 x102003 x102004 x102005 x102006 x102007 = some r) ⟨Nat.le_refl _, h⟩ ?_; intro k x5 x102000 x102001 x102002 x102003 x102004 x102005 x102006 x102007 h; obtain ⟨hk, h⟩ := h; rcases k with _ | k; (simp only [regletref04_Style.l1] at h; cases h); simp only [regletref04_Style.l1, rdc98, rdc98', rq_T110, rq_L2, rq_T73, rq_L5, rq_T98, rq_T75, rq_T43, rq_L10, rq_T28, rq_L12, rq_T24, rq_L14, rq_T44, rq_L16, rq_T49, rq_I, rq_bt, wrap64] at h)
      | refine c_dt ?_
      | refine c_df ?_)
    | (show E2 _ _ _ _ _ _ _; first
      | refine n_seq ?_
      | (refine n_end hT ?_; cases h; first | rfl | exact congrArg AV.bool (by rw [Bool.eq_iff_iff]; simp))
      | refine ag9 rfl ⟨by omega, h⟩
      | refine ag10 rfl ⟨by omega, h⟩)
    | (show E4 _ _ _ _ _ _ _ _ _; first
      | refine dQ vL ?_
      | refine dQ vE ?_
      | refine dQ vpt ?_
      | refine dQ vpf ?_
      | refine dW ?_
      | refine dE ?_
      | refine dYq vL ?_
      | refine dYq vE ?_
      | refine dYq vpt ?_
      | refine dYq vpf ?_
      | refine dN ?_
      | refine dNf ?_
      | refine dY ?_
      | refine dT ?_
      | refine dif_ h (fun hc h => ?_) (fun hc h => ?_)
      | refine dfi h (fun hc h => ?_) (fun hc h => ?_)
      | with_reducible refine mI h (fun hc h => ?_)
      | with_reducible refine mE h (fun hc h => ?_)
      | with_reducible refine mS h (fun h => ?_)
      | refine dif_s h (fun hc h => ?_) (fun hc h => ?_)
      | refine dfis h (fun hc h => ?_) (fun hc h => ?_))
    | (show E5 _ _ _ _ _ _ _ _; first
      | refine tQ vL ?_
      | refine tQ vE ?_
      | refine tQ vpt ?_
      | refine tQ vpf ?_
      | refine tYq vL ?_
      | refine tYq vE ?_
      | refine tYq vpt ?_
      | refine tYq vpf ?_
      | refine tN ?_
      | refine tNf ?_
      | refine tY ?_
      | refine tT ?_
      | refine tW ?_
      | refine n_drw [0, 1, 2, 3, 4, 5, 6, 21, 29, 40, 44, 49, 91, 95] ?_
      | refine tif h (fun hc h => ?_) (fun hc h => ?_)
      | refine tfi h (fun hc h => ?_) (fun hc h => ?_)
      | with_reducible refine mI h (fun hc h => ?_)
      | with_reducible refine mE h (fun hc h => ?_)
      | with_reducible refine mS h (fun h => ?_))
    | with_reducible refine mI h (fun hc h => ?_)
    | with_reducible refine mE h (fun hc h => ?_)
    | with_reducible refine mS h (fun h => ?_)
    | (rcases k with _ | k; (simp only [regletref04_Style.j1] at h; cases h); simp only [regletref04_Style.j1, rdc98, rdc98', rq_T110, rq_L2, rq_T73, rq_L5, rq_T98, rq_T75, rq_T43, rq_L10, rq_T28, rq_L12, rq_T24, rq_L14, rq_T44, rq_L16, rq_T49, rq_I, rq_bt, wrap64] at h)
    | (rcases k with _ | k; (simp only [regletref04_Style.j3] at h; cases h); simp only [regletref04_Style.j3, rdc98, rdc98', rq_T110, rq_L2, rq_T73, rq_L5, rq_T98, rq_T75, rq_T43, rq_L10, rq_T28, rq_L12, rq_T24, rq_L14, rq_T44, rq_L16, rq_T49, rq_I, rq_bt, wrap64] at h)
    | refine mT h (fun h => ?_)
    | refine mF h (fun h => ?_)
    | (cases h; done)
theorem regletref04_Check.does {k : Nat} {l0 : List (S73)} {r : (Int × Int)} (h : regletref04_Check.f k l0 = some r) (G : Objs) : Does Try.prog true 27 [.sl (l0.map Enc.enc)] G (fun x _ => x = .tup [.int .i64 r.1, .int .i64 r.2]) := by
  unfold regletref04_Check.f at h
  try simp only [rdc98, rdc98', rq_T110, rq_L2, rq_T73, rq_L5, rq_T98, rq_T75, rq_T43, rq_L10, rq_T28, rq_L12, rq_T24, rq_L14, rq_T44, rq_L16, rq_T49, rq_I, rq_bt, wrap64] at h
  refine does_walk 1 (F := cfg []) tb_ok mixed Try.func27 rfl (fun T hT => ?_)
  repeat' first
    | (show E3 _ _ _ _ _ _ _ _; first
      | refine oQ vL ?_
      | refine oQ vE ?_
      | refine oQ vpt ?_
      | refine oQ vpf ?_
      | refine oLd ?_
      | refine oW ?_
      | refine n_reg [0, 2, 3, 4, 5, 13, 17, 26] ?_
      | refine gYq vL ?_
      | refine gYq vE ?_
      | refine gYq vpt ?_
      | refine gYq vpf ?_
      | refine gN ?_
      | refine gNf ?_
      | refine gY ?_
      | refine gT ?_
      | refine mB h (fun t ht h => oC (vC (fun G => regletref04_Style.does ht G)) ?_)
      | refine gif h (fun hc h => ?_) (fun hc h => ?_)
      | refine gfi h (fun hc h => ?_) (fun hc h => ?_)
      | with_reducible refine mI h (fun hc h => ?_)
      | with_reducible refine mE h (fun hc h => ?_)
      | with_reducible refine mS h (fun h => ?_)
      | refine oWs ?_
      | refine gYs ?_
      | refine gifs h (fun hc h => ?_) (fun hc h => ?_)
      | refine gfis h (fun hc h => ?_) (fun hc h => ?_)
      | (fail_if_success (refine g_lit ?_)); refine g_dt ?_
      | (fail_if_success (refine g_lit ?_)); refine g_df ?_)
    | (show E1 _ _ _ _ _ _ _; first
      | refine c_seq ?_
      | refine c_reg ?_
      | refine c_blk ?_
      | refine c_exit ?_
      | refine c_ret ?_
      | refine c_skip ?_
      | refine c_tt ?_
      | refine c_ff ?_
      | refine c_if h (fun hc h => ?_) (fun hc h => ?_)
      | refine c_fi h (fun hc h => ?_) (fun hc h => ?_)
      | with_reducible refine mI h (fun hc h => ?_)
      | with_reducible refine mE h (fun hc h => ?_)
      | with_reducible refine mS h (fun h => ?_)
      | refine c_ifs h (fun hc h => ?_) (fun hc h => ?_)
      | refine c_fis h (fun hc h => ?_) (fun hc h => ?_)
      | (refine lp2 (fun x0 x4 => [(0, .sl (x0.map Enc.enc)), (4, .int .i64 x4)]) (fun x0 x4 => []) (fun k_ x0 x4 => k_ ≤ k ∧ regletref04_Check.l0 k_ x0 x4 = some r) ⟨Nat.le_refl _, h⟩ ?_; intro k x0 x4 h; obtain ⟨hk, h⟩ := h; rcases k with _ | k; (simp only [regletref04_Check.l0] at h; cases h); simp only [regletref04_Check.l0, rdc98, rdc98', rq_T110, rq_L2, rq_T73, rq_L5, rq_T98, rq_T75, rq_T43, rq_L10, rq_T28, rq_L12, rq_T24, rq_L14, rq_T44, rq_L16, rq_T49, rq_I, rq_bt, wrap64] at h)
      | refine c_dt ?_
      | refine c_df ?_)
    | (show E2 _ _ _ _ _ _ _; first
      | refine n_seq ?_
      | (refine n_ends hT ?_; cases h; first | rfl | exact congrArg AV.bool (by rw [Bool.eq_iff_iff]; simp))
      | refine ag2 rfl ⟨by omega, h⟩)
    | with_reducible refine mI h (fun hc h => ?_)
    | with_reducible refine mE h (fun hc h => ?_)
    | with_reducible refine mS h (fun h => ?_)
    | (rcases k with _ | k; (simp only [regletref04_Check.j0] at h; cases h); simp only [regletref04_Check.j0, rdc98, rdc98', rq_T110, rq_L2, rq_T73, rq_L5, rq_T98, rq_T75, rq_T43, rq_L10, rq_T28, rq_L12, rq_T24, rq_L14, rq_T44, rq_L16, rq_T49, rq_I, rq_bt, wrap64] at h)
    | refine mT h (fun h => ?_)
    | refine mF h (fun h => ?_)
    | (cases h; done)
theorem metrics_unit.does {a0 : Int} {a1 : Int} {r : (Bool)} (h : metrics_unit.f a0 a1 = some r) (G : Objs) : Does Try.prog true 60 [.int .i64 a0, .int .i64 a1] G (fun x _ => x = .bool r) := by
  unfold metrics_unit.f at h
  try simp only [rdc98, rdc98', rq_T110, rq_L2, rq_T73, rq_L5, rq_T98, rq_T75, rq_T43, rq_L10, rq_T28, rq_L12, rq_T24, rq_L14, rq_T44, rq_L16, rq_T49, rq_I, rq_bt, wrap64] at h
  refine does_walk 2 (F := cfg []) tb_ok mixed Try.func60 rfl (fun T hT => ?_)
  repeat' first
    | (show E3 _ _ _ _ _ _ _ _; first
      | refine oQ vpt ?_
      | refine oQ vpf ?_
      | refine oW ?_
      | refine n_reg [0, 1, 4] ?_
      | refine gYq vpt ?_
      | refine gYq vpf ?_
      | refine gN ?_
      | refine gNf ?_
      | refine gY ?_
      | refine gT ?_
      | refine gif h (fun hc h => ?_) (fun hc h => ?_)
      | refine gfi h (fun hc h => ?_) (fun hc h => ?_)
      | with_reducible refine mI h (fun hc h => ?_)
      | with_reducible refine mE h (fun hc h => ?_)
      | with_reducible refine mS h (fun h => ?_)
      | refine oWs ?_
      | refine gYs ?_
      | refine gifs h (fun hc h => ?_) (fun hc h => ?_)
      | refine gfis h (fun hc h => ?_) (fun hc h => ?_)
      | (fail_if_success (refine g_lit ?_)); refine g_dt ?_
      | (fail_if_success (refine g_lit ?_)); refine g_df ?_)
    | (show E1 _ _ _ _ _ _ _; first
      | refine c_seq ?_
      | refine c_reg ?_
      | refine c_ret ?_)
    | (show E2 _ _ _ _ _ _ _; first
      | refine n_seq ?_
      | (refine n_end hT ?_; cases h; first | rfl | exact congrArg AV.bool (by rw [Bool.eq_iff_iff]; simp)))
    | with_reducible refine mI h (fun hc h => ?_)
    | with_reducible refine mE h (fun hc h => ?_)
    | with_reducible refine mS h (fun h => ?_)
    | refine mT h (fun h => ?_)
    | refine mF h (fun h => ?_)
    | (cases h; done)
theorem metrics_check.does {k : Nat} {a0_0 : Int} {a0_1 : Int} {a0_2 : Int} {a0_3 : Int} {a0_4 : Int} {a0_5 : Int} {l0_6 : List (S110)} {a0_7 : Bool} {r : (Int)} (h : metrics_check.f k a0_0 a0_1 a0_2 a0_3 a0_4 a0_5 l0_6 a0_7 = some r) (G : Objs) : Does Try.prog true 48 [.agg [.int .i64 a0_0, .int .i64 a0_1, .int .i64 a0_2, .int .i64 a0_3, .int .i64 a0_4, .int .i64 a0_5, .sl (l0_6.map Enc.enc), .bool a0_7]] G (fun x _ => x = .int .i64 r) := by
  unfold metrics_check.f at h
  try simp only [rdc98, rdc98', rq_T110, rq_L2, rq_T73, rq_L5, rq_T98, rq_T75, rq_T43, rq_L10, rq_T28, rq_L12, rq_T24, rq_L14, rq_T44, rq_L16, rq_T49, rq_I, rq_bt, wrap64] at h
  refine does_walk 1 (F := cfg []) tb_ok mixed Try.func48 rfl (fun T hT => ?_)
  repeat' first
    | (show E3 _ _ _ _ _ _ _ _; first
      | refine oQ vL ?_
      | refine oQ vE ?_
      | refine oQ vpt ?_
      | refine oQ vpf ?_
      | refine oLd ?_
      | refine oW ?_
      | refine n_reg [0, 1, 2, 3, 5, 46, 50, 52, 53, 54, 55, 73, 77] ?_
      | refine gYq vL ?_
      | refine gYq vE ?_
      | refine gYq vpt ?_
      | refine gYq vpf ?_
      | refine gN ?_
      | refine gNf ?_
      | refine gY ?_
      | refine gT ?_
      | refine mB h (fun t ht h => oC (vC (fun G => metrics_unit.does ht G)) ?_)
      | refine mB h (fun t ht h => gC (vC (fun G => metrics_unit.does ht G)) ?_)
      | refine gif h (fun hc h => ?_) (fun hc h => ?_)
      | refine gfi h (fun hc h => ?_) (fun hc h => ?_)
      | with_reducible refine mI h (fun hc h => ?_)
      | with_reducible refine mE h (fun hc h => ?_)
      | with_reducible refine mS h (fun h => ?_)
      | refine oWs ?_
      | refine oWl ?_
      | refine gYs ?_
      | refine gifs h (fun hc h => ?_) (fun hc h => ?_)
      | refine gfis h (fun hc h => ?_) (fun hc h => ?_)
      | (fail_if_success (refine g_lit ?_)); refine g_dt ?_
      | (fail_if_success (refine g_lit ?_)); refine g_df ?_)
    | (show E1 _ _ _ _ _ _ _; first
      | refine c_seq ?_
      | refine c_reg ?_
      | refine c_blk ?_
      | refine c_exit ?_
      | refine c_ret ?_
      | refine c_skip ?_
      | refine c_tt ?_
      | refine c_ff ?_
      | refine c_if h (fun hc h => ?_) (fun hc h => ?_)
      | refine c_fi h (fun hc h => ?_) (fun hc h => ?_)
      | with_reducible refine mI h (fun hc h => ?_)
      | with_reducible refine mE h (fun hc h => ?_)
      | with_reducible refine mS h (fun h => ?_)
      | refine c_ifs h (fun hc h => ?_) (fun hc h => ?_)
      | refine c_fis h (fun hc h => ?_) (fun hc h => ?_)
      | (refine lp4 (fun x3 x52 x53 x54 => [(3, .int .i64 x3), (52, .sl (x52.map Enc.enc)), (53, .int .i64 x53), (54, .int .i64 x54)]) (fun x3 x52 x53 x54 => []) (fun k_ x3 x52 x53 x54 => k_ ≤ k ∧ metrics_check.l0 k_ x3 x52 x53 x54 = some r) ⟨Nat.le_refl _, h⟩ ?_; intro k x3 x52 x53 x54 h; obtain ⟨hk, h⟩ := h; rcases k with _ | k; (simp only [metrics_check.l0] at h; cases h); simp only [metrics_check.l0, rdc98, rdc98', rq_T110, rq_L2, rq_T73, rq_L5, rq_T98, rq_T75, rq_T43, rq_L10, rq_T28, rq_L12, rq_T24, rq_L14, rq_T44, rq_L16, rq_T49, rq_I, rq_bt, wrap64] at h)
      | refine c_dt ?_
      | refine c_df ?_)
    | (show E2 _ _ _ _ _ _ _; first
      | refine n_seq ?_
      | (refine n_end hT ?_; cases h; first | rfl | exact congrArg AV.bool (by rw [Bool.eq_iff_iff]; simp))
      | refine ag4 rfl ⟨by omega, h⟩)
    | with_reducible refine mI h (fun hc h => ?_)
    | with_reducible refine mE h (fun hc h => ?_)
    | with_reducible refine mS h (fun h => ?_)
    | (rcases k with _ | k; (simp only [metrics_check.j0] at h; cases h); simp only [metrics_check.j0, rdc98, rdc98', rq_T110, rq_L2, rq_T73, rq_L5, rq_T98, rq_T75, rq_T43, rq_L10, rq_T28, rq_L12, rq_T24, rq_L14, rq_T44, rq_L16, rq_T49, rq_I, rq_bt, wrap64] at h)
    | (rcases k with _ | k; (simp only [metrics_check.j2] at h; cases h); simp only [metrics_check.j2, rdc98, rdc98', rq_T110, rq_L2, rq_T73, rq_L5, rq_T98, rq_T75, rq_T43, rq_L10, rq_T28, rq_L12, rq_T24, rq_L14, rq_T44, rq_L16, rq_T49, rq_I, rq_bt, wrap64] at h)
    | refine mT h (fun h => ?_)
    | refine mF h (fun h => ?_)
    | (cases h; done)
theorem metrics_New.does {k : Nat} {l0 : List (S73)} {r : ((List (S98)) × Int × Int)} (h : metrics_New.f k l0 = some r) (G : Objs) : Does Try.prog true 28 [.sl (l0.map Enc.enc)] G (fun x _ => x = .tup [pv r.1, .int .i64 r.2.1, .int .i64 r.2.2]) := by
  unfold metrics_New.f at h
  try simp only [rdc98, rdc98', rq_T110, rq_L2, rq_T73, rq_L5, rq_T98, rq_T75, rq_T43, rq_L10, rq_T28, rq_L12, rq_T24, rq_L14, rq_T44, rq_L16, rq_T49, rq_I, rq_bt, wrap64] at h
  refine does_walk 1 (F := cfg [(11, 1007)]) tb_ok mixed Try.func28 rfl (fun T hT => ?_)
  repeat' first
    | (show E3 _ _ _ _ _ _ _ _; first
      | refine oQ vL ?_
      | refine oQ vLv ?_
      | refine oQ vE ?_
      | refine oQ vEv ?_
      | refine oQ vEo ?_
      | refine oQ vpt ?_
      | refine oQ vpf ?_
      | refine oLe vLe ?_
      | refine oBS ?_
      | refine oB ?_
      | refine oLd ?_
      | refine oW ?_
      | refine n_reg [0, 2, 3, 4, 5, 6, 7, 8, 16, 19, 20, 21, 22, 29] ?_
      | refine gYq vL ?_
      | refine gYq vLv ?_
      | refine gYq vE ?_
      | refine gYq vEv ?_
      | refine gYq vEo ?_
      | refine gYq vpt ?_
      | refine gYq vpf ?_
      | refine gLe vLe ?_
      | refine gN ?_
      | refine gNf ?_
      | refine gY ?_
      | refine gT ?_
      | refine oAv (⟨_, _, _⟩ : S110) ?_
      | refine oA (⟨_, _, _⟩ : S110) ?_
      | refine oAe (⟨_, _, _⟩ : S110) ?_
      | refine oAl (⟨_, _, _⟩ : S110) ?_
      | refine oAv (⟨_, _, _, _, _, _, _, _⟩ : S73) ?_
      | refine oA (⟨_, _, _, _, _, _, _, _⟩ : S73) ?_
      | refine oAe (⟨_, _, _, _, _, _, _, _⟩ : S73) ?_
      | refine oAl (⟨_, _, _, _, _, _, _, _⟩ : S73) ?_
      | refine oMv ?_
      | refine oM ?_
      | refine oMe ?_
      | refine oMl ?_
      | refine mB h (fun t ht h => oC (vC (fun G => metrics_check.does ht G)) ?_)
      | refine fz 26 ?_
      | refine gif h (fun hc h => ?_) (fun hc h => ?_)
      | refine gfi h (fun hc h => ?_) (fun hc h => ?_)
      | with_reducible refine mI h (fun hc h => ?_)
      | with_reducible refine mE h (fun hc h => ?_)
      | with_reducible refine mS h (fun h => ?_)
      | refine oSe (⟨_, _, _, _, _, _, _, _⟩ : S73) ?_
      | refine oWs ?_
      | refine oWl ?_
      | refine gYs ?_
      | refine gifs h (fun hc h => ?_) (fun hc h => ?_)
      | refine gfis h (fun hc h => ?_) (fun hc h => ?_)
      | (fail_if_success (refine g_lit ?_)); refine g_dt ?_
      | (fail_if_success (refine g_lit ?_)); refine g_df ?_)
    | (show E1 _ _ _ _ _ _ _; first
      | refine c_seq ?_
      | refine c_reg ?_
      | (show E1 _ _ _ (.region 11 _ _) _ _ _; refine fzo (.l 7 6) ?_)
      | refine c_drwf ?_
      | refine c_drw ?_
      | refine c_blk ?_
      | refine c_exit ?_
      | refine c_ret ?_
      | refine c_skip ?_
      | refine c_tt ?_
      | refine c_ff ?_
      | refine c_if h (fun hc h => ?_) (fun hc h => ?_)
      | refine c_fi h (fun hc h => ?_) (fun hc h => ?_)
      | with_reducible refine mI h (fun hc h => ?_)
      | with_reducible refine mE h (fun hc h => ?_)
      | with_reducible refine mS h (fun h => ?_)
      | refine c_ifs h (fun hc h => ?_) (fun hc h => ?_)
      | refine c_fis h (fun hc h => ?_) (fun hc h => ?_)
      | (refine lp4 (fun x19 x20 x21 x126000 => [(19, .sl (x19.map Enc.enc)), (20, .int .i64 x20), (21, .int .i64 x21), (5, .lptr 18 0)]) (fun x19 x20 x21 x126000 => [(18, [.own 8 (x126000.map Enc.enc)])]) (fun k_ x19 x20 x21 x126000 => k_ ≤ k ∧ metrics_New.l0 k_ x19 x20 x21 x126000 = some r) ⟨Nat.le_refl _, h⟩ ?_; intro k x19 x20 x21 x126000 h; obtain ⟨hk, h⟩ := h; rcases k with _ | k; (simp only [metrics_New.l0] at h; cases h); simp only [metrics_New.l0, rdc98, rdc98', rq_T110, rq_L2, rq_T73, rq_L5, rq_T98, rq_T75, rq_T43, rq_L10, rq_T28, rq_L12, rq_T24, rq_L14, rq_T44, rq_L16, rq_T49, rq_I, rq_bt, wrap64] at h)
      | refine c_dt ?_
      | refine c_df ?_)
    | (show E2 _ _ _ _ _ _ _; first
      | refine n_seq ?_
      | (refine n_ends hT ?_; cases h; first | rfl | exact congrArg AV.bool (by rw [Bool.eq_iff_iff]; simp))
      | refine ag4 rfl ⟨by omega, h⟩)
    | (show E4 _ _ _ _ _ _ _ _ _; first
      | refine dQ vLe ?_
      | refine dQ vL ?_
      | refine dQ vLv ?_
      | refine dQ vE ?_
      | refine dQ vEv ?_
      | refine dQ vEo ?_
      | refine dQ vpt ?_
      | refine dQ vpf ?_
      | refine dQ vBS ?_
      | refine dW ?_
      | refine dE ?_
      | refine dEl ?_ ?_)
    | (show E5 _ _ _ _ _ _ _ _; first
      | refine tAl (⟨_, _, _⟩ : S110) ?_
      | refine tAl (⟨_, _, _, _, _, _, _, _⟩ : S73) ?_
      | refine tMl ?_
      | refine tSe (⟨_, _, _, _, _, _, _, _⟩ : S73) ?_
      | refine tQ vL ?_
      | refine tQ vLv ?_
      | refine tQ vE ?_
      | refine tQ vEv ?_
      | refine tQ vEo ?_
      | refine tQ vpt ?_
      | refine tQ vpf ?_
      | refine tW ?_
      | refine n_drw [0, 2, 3, 4, 5, 6, 7, 8, 16, 19, 20, 21, 22, 29] ?_)
    | with_reducible refine mI h (fun hc h => ?_)
    | with_reducible refine mE h (fun hc h => ?_)
    | with_reducible refine mS h (fun h => ?_)
    | refine mT h (fun h => ?_)
    | refine mF h (fun h => ?_)
    | (cases h; done)
theorem regletlaw15_table.does {k : Nat} {l0 : List (S73)} {r : ((List (S98)))} (h : regletlaw15_table.f k l0 = some r) (G : Objs) : Does Try.prog true 11 [.sl (l0.map Enc.enc)] G (fun x _ => x = pv r) := by
  unfold regletlaw15_table.f at h
  try simp only [rdc98, rdc98', rq_T110, rq_L2, rq_T73, rq_L5, rq_T98, rq_T75, rq_T43, rq_L10, rq_T28, rq_L12, rq_T24, rq_L14, rq_T44, rq_L16, rq_T49, rq_I, rq_bt, wrap64] at h
  refine does_walk 1 (F := cfg []) tb_ok mixed Try.func11 rfl (fun T hT => ?_)
  repeat' first
    | (show E3 _ _ _ _ _ _ _ _; first
      | refine oW ?_
      | refine n_reg [0, 2, 3, 5, 14] ?_
      | refine mB h (fun t ht h => oC (vC (fun G => regletref04_Check.does ht G)) ?_)
      | (refine mB h (fun t ht h => ?_); rcases t with ⟨(_ | ⟨p0, ps0⟩), t1, t2⟩ <;> refine oC (vC (fun G => metrics_New.does ht G)) ?_)
      | with_reducible refine mI h (fun hc h => ?_)
      | with_reducible refine mE h (fun hc h => ?_)
      | with_reducible refine mS h (fun h => ?_)
      | refine oWs ?_)
    | (show E1 _ _ _ _ _ _ _; first
      | refine c_seq ?_
      | refine c_reg ?_
      | refine c_ret ?_
      | refine c_skip ?_
      | refine c_tt ?_
      | refine c_ff ?_
      | refine c_if h (fun hc h => ?_) (fun hc h => ?_)
      | refine c_fi h (fun hc h => ?_) (fun hc h => ?_)
      | with_reducible refine mI h (fun hc h => ?_)
      | with_reducible refine mE h (fun hc h => ?_)
      | with_reducible refine mS h (fun h => ?_)
      | refine c_ifs h (fun hc h => ?_) (fun hc h => ?_)
      | refine c_fis h (fun hc h => ?_) (fun hc h => ?_)
      | refine c_dt ?_
      | refine c_df ?_)
    | (show E2 _ _ _ _ _ _ _; first
      | refine n_seq ?_
      | (refine n_end hT ?_; cases h; first | rfl | exact congrArg AV.bool (by rw [Bool.eq_iff_iff]; simp)))
    | with_reducible refine mI h (fun hc h => ?_)
    | with_reducible refine mE h (fun hc h => ?_)
    | with_reducible refine mS h (fun h => ?_)
    | refine mT h (fun h => ?_)
    | refine mF h (fun h => ?_)
    | (cases h; done)
theorem runes_Kind.does {k : Nat} {a0 : Int} {r : (Int)} (h : runes_Kind.f k a0 = some r) (G : Objs) : Does Try.prog true 32 [.int .i32 a0] G (fun x _ => x = .int .i64 r) := by
  unfold runes_Kind.f at h
  try simp only [rdc98, rdc98', rq_T110, rq_L2, rq_T73, rq_L5, rq_T98, rq_T75, rq_T43, rq_L10, rq_T28, rq_L12, rq_T24, rq_L14, rq_T44, rq_L16, rq_T49, rq_I, rq_bt, wrap64] at h
  refine does_walk 1 (F := cfg []) tb_ok mixed Try.func32 rfl (fun T hT => ?_)
  repeat' first
    | (show E3 _ _ _ _ _ _ _ _; first
      | refine oW ?_
      | refine n_reg [0, 2, 3, 4, 7, 10, 12, 14, 17, 20, 22] ?_
      | with_reducible refine mI h (fun hc h => ?_)
      | with_reducible refine mE h (fun hc h => ?_)
      | with_reducible refine mS h (fun h => ?_)
      | refine oWs ?_)
    | (show E1 _ _ _ _ _ _ _; first
      | refine c_seq ?_
      | refine c_reg ?_
      | refine c_blk ?_
      | refine c_ret ?_
      | refine c_skip ?_
      | refine c_tt ?_
      | refine c_ff ?_
      | refine c_if h (fun hc h => ?_) (fun hc h => ?_)
      | refine c_fi h (fun hc h => ?_) (fun hc h => ?_)
      | with_reducible refine mI h (fun hc h => ?_)
      | with_reducible refine mE h (fun hc h => ?_)
      | with_reducible refine mS h (fun h => ?_)
      | refine c_ifs h (fun hc h => ?_) (fun hc h => ?_)
      | refine c_fis h (fun hc h => ?_) (fun hc h => ?_)
      | refine c_dt ?_
      | refine c_df ?_)
    | (show E2 _ _ _ _ _ _ _; first
      | refine n_seq ?_
      | (refine n_end hT ?_; cases h; first | rfl | exact congrArg AV.bool (by rw [Bool.eq_iff_iff]; simp)))
    | with_reducible refine mI h (fun hc h => ?_)
    | with_reducible refine mE h (fun hc h => ?_)
    | with_reducible refine mS h (fun h => ?_)
    | (rcases k with _ | k; (simp only [runes_Kind.j0] at h; cases h); simp only [runes_Kind.j0, rdc98, rdc98', rq_T110, rq_L2, rq_T73, rq_L5, rq_T98, rq_T75, rq_T43, rq_L10, rq_T28, rq_L12, rq_T24, rq_L14, rq_T44, rq_L16, rq_T49, rq_I, rq_bt, wrap64] at h)
    | (rcases k with _ | k; (simp only [runes_Kind.j1] at h; cases h); simp only [runes_Kind.j1, rdc98, rdc98', rq_T110, rq_L2, rq_T73, rq_L5, rq_T98, rq_T75, rq_T43, rq_L10, rq_T28, rq_L12, rq_T24, rq_L14, rq_T44, rq_L16, rq_T49, rq_I, rq_bt, wrap64] at h)
    | (rcases k with _ | k; (simp only [runes_Kind.j2] at h; cases h); simp only [runes_Kind.j2, rdc98, rdc98', rq_T110, rq_L2, rq_T73, rq_L5, rq_T98, rq_T75, rq_T43, rq_L10, rq_T28, rq_L12, rq_T24, rq_L14, rq_T44, rq_L16, rq_T49, rq_I, rq_bt, wrap64] at h)
    | (rcases k with _ | k; (simp only [runes_Kind.j3] at h; cases h); simp only [runes_Kind.j3, rdc98, rdc98', rq_T110, rq_L2, rq_T73, rq_L5, rq_T98, rq_T75, rq_T43, rq_L10, rq_T28, rq_L12, rq_T24, rq_L14, rq_T44, rq_L16, rq_T49, rq_I, rq_bt, wrap64] at h)
    | refine mT h (fun h => ?_)
    | refine mF h (fun h => ?_)
    | (cases h; done)
theorem runes_size.does {a0 : ByteArray} {a1 : Int} {r : Int} (h : runes_size.f a0 a1 = some r) (G : Objs) : Does Try.prog true 61 [.str a0, .int .i64 a1] G (fun x _ => x = .int .i64 r) := by
  obtain ⟨k, h⟩ : ∃ k, runes_size.g k a0 a1 = some r := by
    unfold runes_size.f at h
    by_cases hs : (a0.size : Int) ≤ 4611686018427387904
    · rw [if_pos hs] at h; cases h; exact ⟨5, rs_g a0 a1 hs⟩
    · rw [if_neg hs] at h; cases h
  unfold runes_size.g at h
  try simp only [wrap64, rq_bt] at h
  refine does_walk 2 (F := cfg []) tb_ok mixed Try.func61 rfl (fun T hT => ?_)
  refine c_seq ?_; refine c_reg ?_; refine oW ?_; refine n_reg [0, 1] ?_; refine n_seq ?_
  refine sc6 0 (fun x0 x1 x5 x6 x7 x9 => [(0, .str x0), (1, .int .i64 x1), (5, .int .i64 x5), (6, .int .u8 x6), (7, .int .u8 x7), (9, .int .i64 x9)]) (fun x0 x1 x5 x6 x7 x9 => []) (fun k_ x0 x1 x5 x6 x7 x9 => k_ ≤ k ∧ runes_size.m k_ x0 x1 x5 x6 x7 x9 = some r) (fun k x0 x1 x5 x6 x7 x9 h => ?_) (fun H => ?_)
  · obtain ⟨hk, h⟩ := h
    rcases k with _ | k; (simp only [runes_size.m] at h; cases h); simp only [runes_size.m, rdc98, rdc98', rq_T110, rq_L2, rq_T73, rq_L5, rq_T98, rq_T75, rq_T43, rq_L10, rq_T28, rq_L12, rq_T24, rq_L14, rq_T44, rq_L16, rq_T49, rq_I, rq_bt, wrap64] at h
    repeat' first
      | (show E3 _ _ _ _ _ _ _ _; first
        | refine oQ vB ?_
        | refine oQ vpt ?_
        | refine oQ vpf ?_
        | refine oW ?_
        | refine n_reg [0, 1, 4, 5, 6, 7, 8, 9, 17, 24, 26, 27, 30, 37, 40, 44, 46, 48, 69] ?_
        | refine gYq vB ?_
        | refine gYq vpt ?_
        | refine gYq vpf ?_
        | refine gN ?_
        | refine gNf ?_
        | refine gY ?_
        | refine gT ?_
        | refine gif h (fun hc h => ?_) (fun hc h => ?_)
        | refine gfi h (fun hc h => ?_) (fun hc h => ?_)
        | with_reducible refine mI h (fun hc h => ?_)
        | with_reducible refine mE h (fun hc h => ?_)
        | with_reducible refine mS h (fun h => ?_)
        | refine oWs ?_
        | refine gYs ?_
        | refine gifs h (fun hc h => ?_) (fun hc h => ?_)
        | refine gfis h (fun hc h => ?_) (fun hc h => ?_)
        | (fail_if_success (refine g_lit ?_)); refine g_dt ?_
        | (fail_if_success (refine g_lit ?_)); refine g_df ?_)
      | (show E1 _ _ _ _ _ _ _; first
        | refine c_goto ?_
        | refine c_seq ?_
        | refine c_reg ?_
        | refine c_blk ?_
        | refine c_ret ?_
        | refine c_skip ?_
        | refine c_lab ?_
        | refine c_tt ?_
        | refine c_ff ?_
        | refine c_if h (fun hc h => ?_) (fun hc h => ?_)
        | refine c_fi h (fun hc h => ?_) (fun hc h => ?_)
        | with_reducible refine mI h (fun hc h => ?_)
        | with_reducible refine mE h (fun hc h => ?_)
        | with_reducible refine mS h (fun h => ?_)
        | refine c_ifs h (fun hc h => ?_) (fun hc h => ?_)
        | refine c_fis h (fun hc h => ?_) (fun hc h => ?_)
        | refine c_dt ?_
        | refine c_df ?_)
      | (show E2 _ _ _ _ _ _ _; first
        | refine jp6 rfl ⟨by omega, h⟩
        | refine n_seq ?_
        | (refine n_end hT ?_; cases h; first | rfl | exact congrArg AV.bool (by rw [Bool.eq_iff_iff]; simp)))
      | with_reducible refine mI h (fun hc h => ?_)
      | with_reducible refine mE h (fun hc h => ?_)
      | with_reducible refine mS h (fun h => ?_)
      | refine mT h (fun h => ?_)
      | refine mF h (fun h => ?_)
      | (cases h; done)
  · repeat' first
      | (show E3 _ _ _ _ _ _ _ _; first
        | refine oQ vB ?_
        | refine oQ vpt ?_
        | refine oQ vpf ?_
        | refine oW ?_
        | refine n_reg [0, 1, 4, 5, 6, 7, 8, 9, 17, 24, 26, 27, 30, 37, 40, 44, 46, 48, 69] ?_
        | refine gYq vB ?_
        | refine gYq vpt ?_
        | refine gYq vpf ?_
        | refine gN ?_
        | refine gNf ?_
        | refine gY ?_
        | refine gT ?_
        | refine gif h (fun hc h => ?_) (fun hc h => ?_)
        | refine gfi h (fun hc h => ?_) (fun hc h => ?_)
        | with_reducible refine mI h (fun hc h => ?_)
        | with_reducible refine mE h (fun hc h => ?_)
        | with_reducible refine mS h (fun h => ?_)
        | refine oWs ?_
        | refine gYs ?_
        | refine gifs h (fun hc h => ?_) (fun hc h => ?_)
        | refine gfis h (fun hc h => ?_) (fun hc h => ?_)
        | (fail_if_success (refine g_lit ?_)); refine g_dt ?_
        | (fail_if_success (refine g_lit ?_)); refine g_df ?_)
      | (show E1 _ _ _ _ _ _ _; first
        | refine c_goto ?_
        | refine c_seq ?_
        | refine c_reg ?_
        | refine c_blk ?_
        | refine c_ret ?_
        | refine c_skip ?_
        | refine c_lab ?_
        | refine c_tt ?_
        | refine c_ff ?_
        | refine c_if h (fun hc h => ?_) (fun hc h => ?_)
        | refine c_fi h (fun hc h => ?_) (fun hc h => ?_)
        | with_reducible refine mI h (fun hc h => ?_)
        | with_reducible refine mE h (fun hc h => ?_)
        | with_reducible refine mS h (fun h => ?_)
        | refine c_ifs h (fun hc h => ?_) (fun hc h => ?_)
        | refine c_fis h (fun hc h => ?_) (fun hc h => ?_)
        | refine c_dt ?_
        | refine c_df ?_)
      | (show E2 _ _ _ _ _ _ _; first
        | exact wk2 (H _ _ _ _ _ _ _ ⟨Nat.le_refl _, h⟩) (by ((repeat refine And.intro rfl ?_); exact trivial)) trivial
        | refine jp6 rfl ⟨by omega, h⟩
        | refine n_seq ?_
        | (refine n_end hT ?_; cases h; first | rfl | exact congrArg AV.bool (by rw [Bool.eq_iff_iff]; simp)))
      | with_reducible refine mI h (fun hc h => ?_)
      | with_reducible refine mE h (fun hc h => ?_)
      | with_reducible refine mS h (fun h => ?_)
      | refine mT h (fun h => ?_)
      | refine mF h (fun h => ?_)
      | (cases h; done)

theorem runes_First.does {k : Nat} {a0 : ByteArray} {r : (Int × Int)} (h : runes_First.f k a0 = some r) (G : Objs) : Does Try.prog true 49 [.str a0] G (fun x _ => x = .tup [.int .i32 r.1, .int .i64 r.2]) := by
  unfold runes_First.f at h
  try simp only [rdc98, rdc98', rq_T110, rq_L2, rq_T73, rq_L5, rq_T98, rq_T75, rq_T43, rq_L10, rq_T28, rq_L12, rq_T24, rq_L14, rq_T44, rq_L16, rq_T49, rq_I, rq_bt, wrap64] at h
  refine does_walk 1 (F := cfg []) tb_ok mixed Try.func49 rfl (fun T hT => ?_)
  repeat' first
    | (show E3 _ _ _ _ _ _ _ _; first
      | refine oW ?_
      | refine n_reg [0, 2, 3, 4, 6, 12, 13, 14] ?_
      | refine mB h (fun t ht h => oC (vC (fun G => runes_size.does ht G)) ?_)
      | refine oNx h (fun hc h => ?_) (fun hc h => ?_)
      | with_reducible refine mI h (fun hc h => ?_)
      | with_reducible refine mE h (fun hc h => ?_)
      | with_reducible refine mS h (fun h => ?_)
      | refine oWs ?_)
    | (show E1 _ _ _ _ _ _ _; first
      | refine c_seq ?_
      | refine c_reg ?_
      | refine c_blk ?_
      | refine c_exit ?_
      | refine c_ret ?_
      | refine c_skip ?_
      | refine c_tt ?_
      | refine c_ff ?_
      | refine c_if h (fun hc h => ?_) (fun hc h => ?_)
      | refine c_fi h (fun hc h => ?_) (fun hc h => ?_)
      | with_reducible refine mI h (fun hc h => ?_)
      | with_reducible refine mE h (fun hc h => ?_)
      | with_reducible refine mS h (fun h => ?_)
      | refine c_ifs h (fun hc h => ?_) (fun hc h => ?_)
      | refine c_fis h (fun hc h => ?_) (fun hc h => ?_)
      | (refine lp3 (fun x4 x149000 x149001 => [(4, .int .i64 x4), (12, .iter x149000 x149001.toNat)]) (fun x4 x149000 x149001 => []) (fun k_ x4 x149000 x149001 => k_ ≤ k ∧ runes_First.l0 k_ x4 x149000 x149001 = some r) ⟨Nat.le_refl _, h⟩ ?_; intro k x4 x149000 x149001 h; obtain ⟨hk, h⟩ := h; rcases k with _ | k; (simp only [runes_First.l0] at h; cases h); simp only [runes_First.l0, rdc98, rdc98', rq_T110, rq_L2, rq_T73, rq_L5, rq_T98, rq_T75, rq_T43, rq_L10, rq_T28, rq_L12, rq_T24, rq_L14, rq_T44, rq_L16, rq_T49, rq_I, rq_bt, wrap64, itP_] at h)
      | refine c_dt ?_
      | refine c_df ?_)
    | (show E2 _ _ _ _ _ _ _; first
      | refine n_seq ?_
      | (refine n_ends hT ?_; cases h; first | rfl | exact congrArg AV.bool (by rw [Bool.eq_iff_iff]; simp))
      | refine ag3 rfl ⟨by omega, h⟩)
    | with_reducible refine mI h (fun hc h => ?_)
    | with_reducible refine mE h (fun hc h => ?_)
    | with_reducible refine mS h (fun h => ?_)
    | refine mT h (fun h => ?_)
    | refine mF h (fun h => ?_)
    | (cases h; done)
theorem locate_shown.does {k : Nat} {a0 : ByteArray} {r : (Int)} (h : locate_shown.f k a0 = some r) (G : Objs) : Does Try.prog true 30 [.str a0] G (fun x _ => x = .int .i64 r) := by
  unfold locate_shown.f at h
  try simp only [rdc98, rdc98', rq_T110, rq_L2, rq_T73, rq_L5, rq_T98, rq_T75, rq_T43, rq_L10, rq_T28, rq_L12, rq_T24, rq_L14, rq_T44, rq_L16, rq_T49, rq_I, rq_bt, wrap64] at h
  refine does_walk 1 (F := cfg []) tb_ok mixed Try.func30 rfl (fun T hT => ?_)
  repeat' first
    | (show E3 _ _ _ _ _ _ _ _; first
      | refine oW ?_
      | refine n_reg [0, 2, 3, 4, 5, 7, 9, 10, 11, 15, 16] ?_
      | refine mB h (fun t ht h => oC (vC (fun G => runes_Kind.does ht G)) ?_)
      | refine mB h (fun t ht h => oC (vC (fun G => runes_First.does ht G)) ?_)
      | refine oNx h (fun hc h => ?_) (fun hc h => ?_)
      | with_reducible refine mI h (fun hc h => ?_)
      | with_reducible refine mE h (fun hc h => ?_)
      | with_reducible refine mS h (fun h => ?_)
      | refine oWs ?_)
    | (show E1 _ _ _ _ _ _ _; first
      | refine c_seq ?_
      | refine c_reg ?_
      | refine c_blk ?_
      | refine c_exit ?_
      | refine c_ret ?_
      | refine c_skip ?_
      | refine c_tt ?_
      | refine c_ff ?_
      | refine c_if h (fun hc h => ?_) (fun hc h => ?_)
      | refine c_fi h (fun hc h => ?_) (fun hc h => ?_)
      | with_reducible refine mI h (fun hc h => ?_)
      | with_reducible refine mE h (fun hc h => ?_)
      | with_reducible refine mS h (fun h => ?_)
      | refine c_ifs h (fun hc h => ?_) (fun hc h => ?_)
      | refine c_fis h (fun hc h => ?_) (fun hc h => ?_)
      | (refine lp4 (fun x0 x3 x150000 x150001 => [(0, .str x0), (3, .int .i64 x3), (9, .iter x150000 x150001.toNat)]) (fun x0 x3 x150000 x150001 => []) (fun k_ x0 x3 x150000 x150001 => k_ ≤ k ∧ locate_shown.l0 k_ x0 x3 x150000 x150001 = some r) ⟨Nat.le_refl _, h⟩ ?_; intro k x0 x3 x150000 x150001 h; obtain ⟨hk, h⟩ := h; rcases k with _ | k; (simp only [locate_shown.l0] at h; cases h); simp only [locate_shown.l0, rdc98, rdc98', rq_T110, rq_L2, rq_T73, rq_L5, rq_T98, rq_T75, rq_T43, rq_L10, rq_T28, rq_L12, rq_T24, rq_L14, rq_T44, rq_L16, rq_T49, rq_I, rq_bt, wrap64, itP_] at h)
      | refine c_dt ?_
      | refine c_df ?_)
    | (show E2 _ _ _ _ _ _ _; first
      | refine n_seq ?_
      | (refine n_end hT ?_; cases h; first | rfl | exact congrArg AV.bool (by rw [Bool.eq_iff_iff]; simp))
      | refine ag4 rfl ⟨by omega, h⟩)
    | with_reducible refine mI h (fun hc h => ?_)
    | with_reducible refine mE h (fun hc h => ?_)
    | with_reducible refine mS h (fun h => ?_)
    | refine mT h (fun h => ?_)
    | refine mF h (fun h => ?_)
    | (cases h; done)
theorem locate_styleAt.does {k : Nat} {l0 : List (S75)} {a1 : Int} {r : (Int)} (h : locate_styleAt.f k l0 a1 = some r) (G : Objs) : Does Try.prog true 31 [.sl (l0.map Enc.enc), .int .i64 a1] G (fun x _ => x = .int .i64 r) := by
  unfold locate_styleAt.f at h
  try simp only [rdc98, rdc98', rq_T110, rq_L2, rq_T73, rq_L5, rq_T98, rq_T75, rq_T43, rq_L10, rq_T28, rq_L12, rq_T24, rq_L14, rq_T44, rq_L16, rq_T49, rq_I, rq_bt, wrap64] at h
  refine does_walk 2 (F := cfg []) tb_ok mixed Try.func31 rfl (fun T hT => ?_)
  repeat' first
    | (show E3 _ _ _ _ _ _ _ _; first
      | refine oQ vL ?_
      | refine oQ vE ?_
      | refine oLd ?_
      | refine oW ?_
      | refine n_reg [0, 1, 4, 6, 7, 8, 9, 10, 15, 19] ?_
      | with_reducible refine mI h (fun hc h => ?_)
      | with_reducible refine mE h (fun hc h => ?_)
      | with_reducible refine mS h (fun h => ?_)
      | refine oWs ?_
      | refine oWl ?_)
    | (show E1 _ _ _ _ _ _ _; first
      | refine c_seq ?_
      | refine c_reg ?_
      | refine c_blk ?_
      | refine c_exit ?_
      | refine c_ret ?_
      | refine c_skip ?_
      | refine c_tt ?_
      | refine c_ff ?_
      | refine c_if h (fun hc h => ?_) (fun hc h => ?_)
      | refine c_fi h (fun hc h => ?_) (fun hc h => ?_)
      | with_reducible refine mI h (fun hc h => ?_)
      | with_reducible refine mE h (fun hc h => ?_)
      | with_reducible refine mS h (fun h => ?_)
      | refine c_ifs h (fun hc h => ?_) (fun hc h => ?_)
      | refine c_fis h (fun hc h => ?_) (fun hc h => ?_)
      | (refine lp4 (fun x1 x7 x8 x9 => [(1, .int .i64 x1), (7, .sl (x7.map Enc.enc)), (8, .int .i64 x8), (9, .int .i64 x9)]) (fun x1 x7 x8 x9 => []) (fun k_ x1 x7 x8 x9 => k_ ≤ k ∧ locate_styleAt.l0 k_ x1 x7 x8 x9 = some r) ⟨Nat.le_refl _, h⟩ ?_; intro k x1 x7 x8 x9 h; obtain ⟨hk, h⟩ := h; rcases k with _ | k; (simp only [locate_styleAt.l0] at h; cases h); simp only [locate_styleAt.l0, rdc98, rdc98', rq_T110, rq_L2, rq_T73, rq_L5, rq_T98, rq_T75, rq_T43, rq_L10, rq_T28, rq_L12, rq_T24, rq_L14, rq_T44, rq_L16, rq_T49, rq_I, rq_bt, wrap64] at h)
      | refine c_dt ?_
      | refine c_df ?_)
    | (show E2 _ _ _ _ _ _ _; first
      | refine n_seq ?_
      | (refine n_end hT ?_; cases h; first | rfl | exact congrArg AV.bool (by rw [Bool.eq_iff_iff]; simp))
      | refine ag4 rfl ⟨by omega, h⟩)
    | with_reducible refine mI h (fun hc h => ?_)
    | with_reducible refine mE h (fun hc h => ?_)
    | with_reducible refine mS h (fun h => ?_)
    | refine mT h (fun h => ?_)
    | refine mF h (fun h => ?_)
    | (cases h; done)
theorem scaled_Clamp.does {a0 : Int} {r : (Int)} (h : scaled_Clamp.f a0 = some r) (G : Objs) : Does Try.prog true 50 [.int .i64 a0] G (fun x _ => x = .int .i64 r) := by
  unfold scaled_Clamp.f at h
  try simp only [rdc98, rdc98', rq_T110, rq_L2, rq_T73, rq_L5, rq_T98, rq_T75, rq_T43, rq_L10, rq_T28, rq_L12, rq_T24, rq_L14, rq_T44, rq_L16, rq_T49, rq_I, rq_bt, wrap64] at h
  refine does_walk 1 (F := cfg []) tb_ok mixed Try.func50 rfl (fun T hT => ?_)
  repeat' first
    | (show E3 _ _ _ _ _ _ _ _; first
      | refine oQ vmax ?_
      | refine oQ vmin ?_
      | refine oW ?_
      | refine n_reg [0, 2] ?_
      | with_reducible refine mI h (fun hc h => ?_)
      | with_reducible refine mE h (fun hc h => ?_)
      | with_reducible refine mS h (fun h => ?_)
      | refine oWs ?_)
    | (show E1 _ _ _ _ _ _ _; first
      | refine c_seq ?_
      | refine c_reg ?_
      | refine c_ret ?_)
    | (show E2 _ _ _ _ _ _ _; first
      | refine n_seq ?_
      | (refine n_end hT ?_; cases h; first | rfl | exact congrArg AV.bool (by rw [Bool.eq_iff_iff]; simp)))
    | with_reducible refine mI h (fun hc h => ?_)
    | with_reducible refine mE h (fun hc h => ?_)
    | with_reducible refine mS h (fun h => ?_)
    | refine mT h (fun h => ?_)
    | refine mF h (fun h => ?_)
    | (cases h; done)
theorem scaled_Add.does {a0 : Int} {a1 : Int} {r : (Int)} (h : scaled_Add.f a0 a1 = some r) (G : Objs) : Does Try.prog true 33 [.int .i64 a0, .int .i64 a1] G (fun x _ => x = .int .i64 r) := by
  unfold scaled_Add.f at h
  try simp only [rdc98, rdc98', rq_T110, rq_L2, rq_T73, rq_L5, rq_T98, rq_T75, rq_T43, rq_L10, rq_T28, rq_L12, rq_T24, rq_L14, rq_T44, rq_L16, rq_T49, rq_I, rq_bt, wrap64] at h
  refine does_walk 2 (F := cfg []) tb_ok mixed Try.func33 rfl (fun T hT => ?_)
  repeat' first
    | (show E3 _ _ _ _ _ _ _ _; first
      | refine oW ?_
      | refine n_reg [0, 1, 4] ?_
      | refine mB h (fun t ht h => oC (vC (fun G => scaled_Clamp.does ht G)) ?_)
      | with_reducible refine mI h (fun hc h => ?_)
      | with_reducible refine mE h (fun hc h => ?_)
      | with_reducible refine mS h (fun h => ?_)
      | refine oWs ?_)
    | (show E1 _ _ _ _ _ _ _; first
      | refine c_seq ?_
      | refine c_reg ?_
      | refine c_ret ?_)
    | (show E2 _ _ _ _ _ _ _; first
      | refine n_seq ?_
      | (refine n_end hT ?_; cases h; first | rfl | exact congrArg AV.bool (by rw [Bool.eq_iff_iff]; simp)))
    | with_reducible refine mI h (fun hc h => ?_)
    | with_reducible refine mE h (fun hc h => ?_)
    | with_reducible refine mS h (fun h => ?_)
    | refine mT h (fun h => ?_)
    | refine mF h (fun h => ?_)
    | (cases h; done)
theorem metrics_Table_Check.does {l0 : S98} {l0s : List S98} {a1 : Int} {r : (Int)} (h : metrics_Table_Check.f (l0 :: l0s) a1 = some r) (G : Objs) : Does Try.prog true 62 [.ptrF (Enc.enc l0), .int .i64 a1] G (fun x _ => x = .int .i64 r) := by
  unfold metrics_Table_Check.f at h
  try simp only [rdc98, rdc98', rq_T110, rq_L2, rq_T73, rq_L5, rq_T98, rq_T75, rq_T43, rq_L10, rq_T28, rq_L12, rq_T24, rq_L14, rq_T44, rq_L16, rq_T49, rq_I, rq_bt, wrap64] at h
  refine does_walk 2 (F := cfg []) tb_ok mixed Try.func62 rfl (fun T hT => ?_)
  repeat' first
    | (show E3 _ _ _ _ _ _ _ _; first
      | refine oQ vL ?_
      | refine oQ vpt ?_
      | refine oQ vpf ?_
      | refine oW ?_
      | refine n_reg [0, 1, 4, 15] ?_
      | refine gYq vL ?_
      | refine gYq vpt ?_
      | refine gYq vpf ?_
      | refine gN ?_
      | refine gNf ?_
      | refine gY ?_
      | refine gT ?_
      | refine gif h (fun hc h => ?_) (fun hc h => ?_)
      | refine gfi h (fun hc h => ?_) (fun hc h => ?_)
      | with_reducible refine mI h (fun hc h => ?_)
      | with_reducible refine mE h (fun hc h => ?_)
      | with_reducible refine mS h (fun h => ?_)
      | refine oWs ?_
      | refine gYs ?_
      | refine gifs h (fun hc h => ?_) (fun hc h => ?_)
      | refine gfis h (fun hc h => ?_) (fun hc h => ?_)
      | (fail_if_success (refine g_lit ?_)); refine g_dt ?_
      | (fail_if_success (refine g_lit ?_)); refine g_df ?_)
    | (show E1 _ _ _ _ _ _ _; first
      | refine c_seq ?_
      | refine c_reg ?_
      | refine c_ret ?_
      | refine c_skip ?_
      | refine c_tt ?_
      | refine c_ff ?_
      | refine c_if h (fun hc h => ?_) (fun hc h => ?_)
      | refine c_fi h (fun hc h => ?_) (fun hc h => ?_)
      | with_reducible refine mI h (fun hc h => ?_)
      | with_reducible refine mE h (fun hc h => ?_)
      | with_reducible refine mS h (fun h => ?_)
      | refine c_ifs h (fun hc h => ?_) (fun hc h => ?_)
      | refine c_fis h (fun hc h => ?_) (fun hc h => ?_)
      | refine c_dt ?_
      | refine c_df ?_)
    | (show E2 _ _ _ _ _ _ _; first
      | refine n_seq ?_
      | (refine n_end hT ?_; cases h; first | rfl | exact congrArg AV.bool (by rw [Bool.eq_iff_iff]; simp)))
    | with_reducible refine mI h (fun hc h => ?_)
    | with_reducible refine mE h (fun hc h => ?_)
    | with_reducible refine mS h (fun h => ?_)
    | refine mT h (fun h => ?_)
    | refine mF h (fun h => ?_)
    | (cases h; done)
theorem metrics_Table_of.does {l0 : S98} {l0s : List S98} {a1 : Int} {r : (Int × Int × Int × Int × Int × Int × (List (S110)) × Bool)} (h : metrics_Table_of.f (l0 :: l0s) a1 = some r) (G : Objs) : Does Try.prog true 51 [.ptrF (Enc.enc l0), .int .i64 a1] G (fun x _ => x = .agg [.int .i64 r.1, .int .i64 r.2.1, .int .i64 r.2.2.1, .int .i64 r.2.2.2.1, .int .i64 r.2.2.2.2.1, .int .i64 r.2.2.2.2.2.1, .sl (r.2.2.2.2.2.2.1.map Enc.enc), .bool r.2.2.2.2.2.2.2]) := by
  unfold metrics_Table_of.f at h
  try simp only [rdc98, rdc98', rq_T110, rq_L2, rq_T73, rq_L5, rq_T98, rq_T75, rq_T43, rq_L10, rq_T28, rq_L12, rq_T24, rq_L14, rq_T44, rq_L16, rq_T49, rq_I, rq_bt, wrap64] at h
  refine does_walk 2 (F := cfg []) tb_ok mixed Try.func51 rfl (fun T hT => ?_)
  repeat' first
    | (show E3 _ _ _ _ _ _ _ _; first
      | refine oQ vE ?_
      | refine oB ?_
      | refine oLd ?_
      | refine oW ?_
      | refine n_reg [0, 1, 4, 8] ?_
      | refine mB h (fun t ht h => oC (vC (fun G => metrics_Table_Check.does ht G)) ?_)
      | with_reducible refine mI h (fun hc h => ?_)
      | with_reducible refine mE h (fun hc h => ?_)
      | with_reducible refine mS h (fun h => ?_)
      | refine oWs ?_
      | refine oWl ?_)
    | (show E1 _ _ _ _ _ _ _; first
      | refine c_seq ?_
      | refine c_reg ?_
      | refine c_ret ?_
      | refine c_skip ?_
      | refine c_tt ?_
      | refine c_ff ?_
      | refine c_if h (fun hc h => ?_) (fun hc h => ?_)
      | refine c_fi h (fun hc h => ?_) (fun hc h => ?_)
      | with_reducible refine mI h (fun hc h => ?_)
      | with_reducible refine mE h (fun hc h => ?_)
      | with_reducible refine mS h (fun h => ?_)
      | refine c_ifs h (fun hc h => ?_) (fun hc h => ?_)
      | refine c_fis h (fun hc h => ?_) (fun hc h => ?_)
      | refine c_dt ?_
      | refine c_df ?_)
    | (show E2 _ _ _ _ _ _ _; first
      | refine n_seq ?_
      | (refine n_end hT ?_; cases h; first | rfl | exact congrArg AV.bool (by rw [Bool.eq_iff_iff]; simp)))
    | with_reducible refine mI h (fun hc h => ?_)
    | with_reducible refine mE h (fun hc h => ?_)
    | with_reducible refine mS h (fun h => ?_)
    | refine mT h (fun h => ?_)
    | refine mF h (fun h => ?_)
    | (cases h; done)
theorem metrics_lookup.does {k : Nat} {a0_0 : Int} {a0_1 : Int} {a0_2 : Int} {a0_3 : Int} {a0_4 : Int} {a0_5 : Int} {l0_6 : List (S110)} {a0_7 : Bool} {a1 : Int} {r : (Int)} (h : metrics_lookup.f k a0_0 a0_1 a0_2 a0_3 a0_4 a0_5 l0_6 a0_7 a1 = some r) (G : Objs) : Does Try.prog true 52 [.agg [.int .i64 a0_0, .int .i64 a0_1, .int .i64 a0_2, .int .i64 a0_3, .int .i64 a0_4, .int .i64 a0_5, .sl (l0_6.map Enc.enc), .bool a0_7], .int .i64 a1] G (fun x _ => x = .int .i64 r) := by
  unfold metrics_lookup.f at h
  try simp only [rdc98, rdc98', rq_T110, rq_L2, rq_T73, rq_L5, rq_T98, rq_T75, rq_T43, rq_L10, rq_T28, rq_L12, rq_T24, rq_L14, rq_T44, rq_L16, rq_T49, rq_I, rq_bt, wrap64] at h
  refine does_walk 2 (F := cfg [(1, 4)]) tb_ok mixed Try.func52 rfl (fun T hT => ?_)
  repeat' first
    | (show E3 _ _ _ _ _ _ _ _; first
      | refine oQ vL ?_
      | refine oQ vE ?_
      | refine oQ vpt ?_
      | refine oQ vpf ?_
      | refine oW ?_
      | refine n_reg [0, 1, 2, 4, 5, 6, 7, 13, 25, 43] ?_
      | refine gYq vL ?_
      | refine gYq vE ?_
      | refine gYq vpt ?_
      | refine gYq vpf ?_
      | refine gN ?_
      | refine gNf ?_
      | refine gY ?_
      | refine gT ?_
      | refine gif h (fun hc h => ?_) (fun hc h => ?_)
      | refine gfi h (fun hc h => ?_) (fun hc h => ?_)
      | with_reducible refine mI h (fun hc h => ?_)
      | with_reducible refine mE h (fun hc h => ?_)
      | with_reducible refine mS h (fun h => ?_)
      | refine oWs ?_
      | refine oWl ?_
      | refine gYs ?_
      | refine gifs h (fun hc h => ?_) (fun hc h => ?_)
      | refine gfis h (fun hc h => ?_) (fun hc h => ?_)
      | (fail_if_success (refine g_lit ?_)); refine g_dt ?_
      | (fail_if_success (refine g_lit ?_)); refine g_df ?_)
    | (show E1 _ _ _ _ _ _ _; first
      | refine c_seq ?_
      | refine c_reg ?_
      | refine c_drwf ?_
      | refine c_drw ?_
      | refine c_blk ?_
      | refine c_exit ?_
      | refine c_ret ?_
      | refine c_skip ?_
      | refine c_tt ?_
      | refine c_ff ?_
      | refine c_if h (fun hc h => ?_) (fun hc h => ?_)
      | refine c_fi h (fun hc h => ?_) (fun hc h => ?_)
      | with_reducible refine mI h (fun hc h => ?_)
      | with_reducible refine mE h (fun hc h => ?_)
      | with_reducible refine mS h (fun h => ?_)
      | refine c_ifs h (fun hc h => ?_) (fun hc h => ?_)
      | refine c_fis h (fun hc h => ?_) (fun hc h => ?_)
      | (refine lp11 (fun x1 x5 x6 x168000 x168001 x168002 x168003 x168004 x168005 x168006 x168007 => [(1, .int .i64 x1), (5, .int .i64 x5), (6, .int .i64 x6), (2, .lptr 2 0)]) (fun x1 x5 x6 x168000 x168001 x168002 x168003 x168004 x168005 x168006 x168007 => [(2, [.int .i64 x168000, .int .i64 x168001, .int .i64 x168002, .int .i64 x168003, .int .i64 x168004, .int .i64 x168005, .sl (x168006.map Enc.enc), .bool x168007])]) (fun k_ x1 x5 x6 x168000 x168001 x168002 x168003 x168004 x168005 x168006 x168007 => k_ ≤ k ∧ metrics_lookup.l0 k_ x1 x5 x6 x168000 x168001 x168002 x168003 x168004 x168005 x168006 x168007 = some r) ⟨Nat.le_refl _, h⟩ ?_; intro k x1 x5 x6 x168000 x168001 x168002 x168003 x168004 x168005 x168006 x168007 h; obtain ⟨hk, h⟩ := h; rcases k with _ | k; (simp only [metrics_lookup.l0] at h; cases h); simp only [metrics_lookup.l0, rdc98, rdc98', rq_T110, rq_L2, rq_T73, rq_L5, rq_T98, rq_T75, rq_T43, rq_L10, rq_T28, rq_L12, rq_T24, rq_L14, rq_T44, rq_L16, rq_T49, rq_I, rq_bt, wrap64] at h)
      | refine c_dt ?_
      | refine c_df ?_)
    | (show E2 _ _ _ _ _ _ _; first
      | refine n_seq ?_
      | (refine n_end hT ?_; cases h; first | rfl | exact congrArg AV.bool (by rw [Bool.eq_iff_iff]; simp))
      | refine ag11 rfl ⟨by omega, h⟩)
    | (show E4 _ _ _ _ _ _ _ _ _; first
      | refine dQ vL ?_
      | refine dQ vE ?_
      | refine dQ vpt ?_
      | refine dQ vpf ?_
      | refine dW ?_
      | refine dE ?_)
    | (show E5 _ _ _ _ _ _ _ _; first
      | refine tQ vL ?_
      | refine tQ vE ?_
      | refine tQ vpt ?_
      | refine tQ vpf ?_
      | refine tW ?_
      | refine n_drw [0, 1, 2, 4, 5, 6, 7, 13, 25, 43] ?_)
    | with_reducible refine mI h (fun hc h => ?_)
    | with_reducible refine mE h (fun hc h => ?_)
    | with_reducible refine mS h (fun h => ?_)
    | refine mT h (fun h => ?_)
    | refine mF h (fun h => ?_)
    | (cases h; done)
theorem metrics_Table_Width.does {k : Nat} {l0 : S98} {l0s : List S98} {a1 : Int} {a2 : Int} {r : (Int)} (h : metrics_Table_Width.f k (l0 :: l0s) a1 a2 = some r) (G : Objs) : Does Try.prog true 34 [.ptrF (Enc.enc l0), .int .i64 a1, .int .i32 a2] G (fun x _ => x = .int .i64 r) := by
  unfold metrics_Table_Width.f at h
  try simp only [rdc98, rdc98', rq_T110, rq_L2, rq_T73, rq_L5, rq_T98, rq_T75, rq_T43, rq_L10, rq_T28, rq_L12, rq_T24, rq_L14, rq_T44, rq_L16, rq_T49, rq_I, rq_bt, wrap64] at h
  refine does_walk 3 (F := cfg []) tb_ok mixed Try.func34 rfl (fun T hT => ?_)
  repeat' first
    | (show E3 _ _ _ _ _ _ _ _; first
      | refine oLd ?_
      | refine oW ?_
      | refine n_reg [0, 1, 2, 6, 7, 12, 13, 18] ?_
      | refine mB h (fun t ht h => oC (vC (fun G => runes_Kind.does ht G)) ?_)
      | refine mB h (fun t ht h => oC (vC (fun G => metrics_Table_of.does ht G)) ?_)
      | refine mB h (fun t ht h => oC (vC (fun G => metrics_lookup.does ht G)) ?_)
      | with_reducible refine mI h (fun hc h => ?_)
      | with_reducible refine mE h (fun hc h => ?_)
      | with_reducible refine mS h (fun h => ?_)
      | refine oWs ?_
      | refine oWl ?_)
    | (show E1 _ _ _ _ _ _ _; first
      | refine c_seq ?_
      | refine c_reg ?_
      | refine c_blk ?_
      | refine c_ret ?_
      | refine c_skip ?_
      | refine c_tt ?_
      | refine c_ff ?_
      | refine c_if h (fun hc h => ?_) (fun hc h => ?_)
      | refine c_fi h (fun hc h => ?_) (fun hc h => ?_)
      | with_reducible refine mI h (fun hc h => ?_)
      | with_reducible refine mE h (fun hc h => ?_)
      | with_reducible refine mS h (fun h => ?_)
      | refine c_ifs h (fun hc h => ?_) (fun hc h => ?_)
      | refine c_fis h (fun hc h => ?_) (fun hc h => ?_)
      | refine c_dt ?_
      | refine c_df ?_)
    | (show E2 _ _ _ _ _ _ _; first
      | refine n_seq ?_
      | (refine n_end hT ?_; cases h; first | rfl | exact congrArg AV.bool (by rw [Bool.eq_iff_iff]; simp)))
    | with_reducible refine mI h (fun hc h => ?_)
    | with_reducible refine mE h (fun hc h => ?_)
    | with_reducible refine mS h (fun h => ?_)
    | (rcases k with _ | k; (simp only [metrics_Table_Width.j0] at h; cases h); simp only [metrics_Table_Width.j0, rdc98, rdc98', rq_T110, rq_L2, rq_T73, rq_L5, rq_T98, rq_T75, rq_T43, rq_L10, rq_T28, rq_L12, rq_T24, rq_L14, rq_T44, rq_L16, rq_T49, rq_I, rq_bt, wrap64] at h)
    | refine mT h (fun h => ?_)
    | refine mF h (fun h => ?_)
    | (cases h; done)
theorem metrics_Table_Space.does {l0 : S98} {l0s : List S98} {a1 : Int} {r : (Int × Int × Int)} (h : metrics_Table_Space.f (l0 :: l0s) a1 = some r) (G : Objs) : Does Try.prog true 53 [.ptrF (Enc.enc l0), .int .i64 a1] G (fun x _ => x = .tup [.int .i64 r.1, .int .i64 r.2.1, .int .i64 r.2.2]) := by
  unfold metrics_Table_Space.f at h
  try simp only [rdc98, rdc98', rq_T110, rq_L2, rq_T73, rq_L5, rq_T98, rq_T75, rq_T43, rq_L10, rq_T28, rq_L12, rq_T24, rq_L14, rq_T44, rq_L16, rq_T49, rq_I, rq_bt, wrap64] at h
  refine does_walk 2 (F := cfg [(2, 8)]) tb_ok mixed Try.func53 rfl (fun T hT => ?_)
  repeat' first
    | (show E3 _ _ _ _ _ _ _ _; first
      | refine oW ?_
      | refine n_reg [0, 1, 4, 5, 6, 7] ?_
      | refine mB h (fun t ht h => oC (vC (fun G => metrics_Table_of.does ht G)) ?_)
      | with_reducible refine mI h (fun hc h => ?_)
      | with_reducible refine mE h (fun hc h => ?_)
      | with_reducible refine mS h (fun h => ?_)
      | refine oWs ?_
      | refine oWl ?_)
    | (show E1 _ _ _ _ _ _ _; first
      | refine c_seq ?_
      | refine c_reg ?_
      | refine c_drwf ?_
      | refine c_drw ?_
      | refine c_ret ?_)
    | (show E2 _ _ _ _ _ _ _; first
      | refine n_seq ?_
      | (refine n_ends hT ?_; cases h; first | rfl | exact congrArg AV.bool (by rw [Bool.eq_iff_iff]; simp)))
    | (show E4 _ _ _ _ _ _ _ _ _; first
      | refine dW ?_
      | refine dE ?_)
    | (show E5 _ _ _ _ _ _ _ _; first
      | refine tW ?_
      | refine n_drw [0, 1, 4, 5, 6, 7] ?_)
    | with_reducible refine mI h (fun hc h => ?_)
    | with_reducible refine mE h (fun hc h => ?_)
    | with_reducible refine mS h (fun h => ?_)
    | refine mT h (fun h => ?_)
    | refine mF h (fun h => ?_)
    | (cases h; done)
theorem bits_Mul64.does {a0 : Int} {a1 : Int} {r : (Int × Int)} (h : bits_Mul64.f a0 a1 = some r) (G : Objs) : Does Try.prog true 70 [.int .u64 a0, .int .u64 a1] G (fun x _ => x = .tup [.int .u64 r.1, .int .u64 r.2]) := by
  unfold bits_Mul64.f at h
  try simp only [rdc98, rdc98', rq_T110, rq_L2, rq_T73, rq_L5, rq_T98, rq_T75, rq_T43, rq_L10, rq_T28, rq_L12, rq_T24, rq_L14, rq_T44, rq_L16, rq_T49, rq_I, rq_bt, wrap64] at h
  refine does_walk 2 (F := cfg []) tb_ok mixed Try.func70 rfl (fun T hT => ?_)
  repeat' first
    | (show E3 _ _ _ _ _ _ _ _; first
      | refine oQ (vShr 4294967296) ?_
      | refine oW ?_
      | refine n_reg [0, 1, 4, 5, 6, 7, 8, 9, 10, 11, 12, 13] ?_
      | with_reducible refine mI h (fun hc h => ?_)
      | with_reducible refine mE h (fun hc h => ?_)
      | with_reducible refine mS h (fun h => ?_)
      | refine oWs ?_)
    | (show E1 _ _ _ _ _ _ _; first
      | refine c_seq ?_
      | refine c_reg ?_
      | refine c_ret ?_)
    | (show E2 _ _ _ _ _ _ _; first
      | refine n_seq ?_
      | (refine n_ends hT ?_; cases h; first | rfl | exact congrArg AV.bool (by rw [Bool.eq_iff_iff]; simp)))
    | with_reducible refine mI h (fun hc h => ?_)
    | with_reducible refine mE h (fun hc h => ?_)
    | with_reducible refine mS h (fun h => ?_)
    | refine mT h (fun h => ?_)
    | refine mF h (fun h => ?_)
    | (cases h; done)
end Go.AL.X
