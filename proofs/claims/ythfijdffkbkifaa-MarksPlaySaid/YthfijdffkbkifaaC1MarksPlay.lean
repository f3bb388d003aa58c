/- What each function does: it answers as its model tells, and changes nothing (in 7 texts, numbered 2). -/
import Derived.Test.YthfijdffkbkifaaTMarksPlay
namespace Go.AL.X
open Go.Proofs Go.Proofs.Ythfijdffkbkifaa.PMarksPlay
set_option linter.unusedVariables false
set_option linter.unusedSimpArgs false
set_option maxRecDepth 100000
set_option maxHeartbeats 16000000
theorem marks_Set_Delete.does {k : Nat} {p0_0 : Int} {p0_1 : Int} {p0_2 : List (S46)} {a1 : Int} {a2 : Int} {r : (Int × Int × Int × (List (S46)))} (h : marks_Set_Delete.f k p0_0 p0_1 p0_2 a1 a2 = some r) : DoesL Try.prog 20 [.int .i64 a1, .int .i64 a2] [.int .i64 p0_0, .int .i64 p0_1, .own 3 (p0_2.map Enc.enc)] (fun x c => x = .int .i64 r.1 ∧ c = [.int .i64 r.2.1, .int .i64 r.2.2.1, .own 3 (r.2.2.2.map Enc.enc)]) := by
  unfold marks_Set_Delete.f at h
  try simp only [rdc46, rdc46', rq_T46, rq_T51, rq_T34, rq_bt, wrap64, bl, tl_eq, tl_lit, tl_nil, Bool.false_eq_true, if_false, if_true] at h
  refine doesL_walk 3 (F := cfgL []) tb_ok mixed Try.func20 rfl (fun T hT => ?_)
  repeat' first
    | (show E3 _ _ _ _ _ _ _ _; first
      | refine oQ vL ?_
      | refine oQ vLv ?_
      | refine oQ vLo ?_
      | refine oQ vE ?_
      | refine oQ vEv ?_
      | refine oQ vEo ?_
      | refine oQ vpt ?_
      | refine oQ vpf ?_
      | refine oLe vLe ?_
      | refine oW ?_
      | refine n_reg [0, 1, 2, 6, 7, 8, 23, 38, 39, 40, 48, 65] ?_
      | refine gYq vL ?_
      | refine gYq vLv ?_
      | refine gYq vLo ?_
      | refine gYq vE ?_
      | refine gYq vEv ?_
      | refine gYq vEo ?_
      | refine gYq vpt ?_
      | refine gYq vpf ?_
      | refine gLe vLe ?_
      | refine gN ?_
      | refine gNf ?_
      | refine gY ?_
      | refine gT ?_
      | refine gif h (fun hc h => ?_) (fun hc h => ?_)
      | refine gfi h (fun hc h => ?_) (fun hc h => ?_)
      | with_reducible refine mI h (fun hc h => ?_)
      | with_reducible refine mE h (fun hc h => ?_)
      | with_reducible refine mS h (fun h => ?_)
      | refine oSf (α := S46) (β := Int) (fun y z => { y with f1 := z }) (fun z => AV.int .i64 z) ?_
      | refine oSfl (α := S46) (β := Int) (fun y z => { y with f1 := z }) (fun z => AV.int .i64 z) ?_
      | refine oWs ?_
      | refine oWl ?_
      | refine gYs ?_
      | refine gifs h (fun hc h => ?_) (fun hc h => ?_)
      | refine gfis h (fun hc h => ?_) (fun hc h => ?_)
      | (fail_if_success (refine g_lit ?_)); refine g_dt ?_
      | (fail_if_success (refine g_lit ?_)); refine g_df ?_)
    | (show E1 _ _ _ _ _ _ _; first
      | refine c_seq ?_
      | refine c_reg ?_
      | refine c_blk ?_
      | refine c_exit ?_
      | refine c_ret ?_
      | refine c_skip ?_
      | refine c_tt ?_
      | refine c_ff ?_
      | refine c_if h (fun hc h => ?_) (fun hc h => ?_)
      | refine c_fi h (fun hc h => ?_) (fun hc h => ?_)
      | with_reducible refine mI h (fun hc h => ?_)
      | with_reducible refine mE h (fun hc h => ?_)
      | with_reducible refine mS h (fun h => ?_)
      | refine c_ifs h (fun hc h => ?_) (fun hc h => ?_)
      | refine c_fis h (fun hc h => ?_) (fun hc h => ?_)
      | (refine lp7 (fun x1 x2 x38 x39 x1000000_0 x1000000_1 x1000000_2 => [(1, .int .i64 x1), (2, .int .i64 x2), (38, .int .i64 x38), (39, .int .i64 x39), (0, .lptr 1000000 0)]) (fun x1 x2 x38 x39 x1000000_0 x1000000_1 x1000000_2 => [(1000000, [.int .i64 x1000000_0, .int .i64 x1000000_1, .own 3 (x1000000_2.map Enc.enc)])]) (fun k_ x1 x2 x38 x39 x1000000_0 x1000000_1 x1000000_2 => k_ ≤ k ∧ marks_Set_Delete.l0 k_ x1 x2 x38 x39 x1000000_0 x1000000_1 x1000000_2 = some r) ⟨Nat.le_refl _, h⟩ ?_; intro k x1 x2 x38 x39 x1000000_0 x1000000_1 x1000000_2 h; obtain ⟨hk, h⟩ := h; rcases k with _ | k; (simp only [marks_Set_Delete.l0] at h; cases h); simp only [marks_Set_Delete.l0, rdc46, rdc46', rq_T46, rq_T51, rq_T34, rq_bt, wrap64, bl, tl_eq, tl_lit, tl_nil, Bool.false_eq_true, if_false, if_true] at h)
      | refine c_dt ?_
      | refine c_df ?_)
    | (show E2 _ _ _ _ _ _ _; first
      | refine n_seq ?_
      | (refine n_endL hT ?_; cases h; first | exact ⟨rfl, rfl⟩ | exact ⟨congrArg AV.bool (by rw [Bool.eq_iff_iff]; simp), rfl⟩)
      | refine ag7 rfl ⟨by omega, h⟩)
    | (show E4 _ _ _ _ _ _ _; first
      | refine dQ vLe ?_)
    | (show E5 _ _ _ _ _ _ _; first
      | refine tSf (α := S46) (β := Int) (fun y z => { y with f1 := z }) (fun z => AV.int .i64 z) ?_)
    | with_reducible refine mI h (fun hc h => ?_)
    | with_reducible refine mE h (fun hc h => ?_)
    | with_reducible refine mS h (fun h => ?_)
    | refine mT h (fun h => ?_)
    | refine mF h (fun h => ?_)
    | (cases h; done)
theorem regletref16_Put.does {k : Nat} {a0_0 : Int} {a0_1 : Int} {l0_2 : List (S51)} {a1 : Int} {a2 : Bool} {r : (Int × Int × (List (S51)) × Int × Int)} (h : regletref16_Put.f k a0_0 a0_1 l0_2 a1 a2 = some r) (G : Objs) : Does Try.prog true 29 [.agg [.int .i64 a0_0, .int .i64 a0_1, .sl (l0_2.map Enc.enc)], .int .i64 a1, .bool a2] G (fun x _ => x = .tup [.agg [.int .i64 r.1, .int .i64 r.2.1, .sl (r.2.2.1.map Enc.enc)], .int .i64 r.2.2.2.1, .int .i64 r.2.2.2.2]) := by
  unfold regletref16_Put.f at h
  try simp only [rdc46, rdc46', rq_T46, rq_T51, rq_T34, rq_bt, wrap64, bl, tl_eq, tl_lit, tl_nil, Bool.false_eq_true, if_false, if_true] at h
  refine does_walk 3 (F := cfg [(8, 56000000)]) tb_ok mixed Try.func29 rfl (fun T hT => ?_)
  repeat' first
    | (show E3 _ _ _ _ _ _ _ _; first
      | refine oQ vL ?_
      | refine oQ vLv ?_
      | refine oQ vLo ?_
      | refine oQ vpt ?_
      | refine oQ vpf ?_
      | refine oBS ?_
      | refine oB ?_
      | refine oLd ?_
      | refine oW ?_
      | refine n_reg [0, 1, 2, 3, 6, 7, 8, 9, 17, 22] ?_
      | refine gYq vL ?_
      | refine gYq vLv ?_
      | refine gYq vLo ?_
      | refine gYq vpt ?_
      | refine gYq vpf ?_
      | refine gLe vLe ?_
      | refine gN ?_
      | refine gNf ?_
      | refine gY ?_
      | refine gT ?_
      | refine oAvd dec51 ?_
      | refine oAv (⟨_, _, _⟩ : S51) ?_
      | refine oA (⟨_, _, _⟩ : S51) ?_
      | refine oAe (⟨_, _, _⟩ : S51) ?_
      | refine oAl (⟨_, _, _⟩ : S51) ?_
      | refine oMv ?_
      | refine oM ?_
      | refine oMe ?_
      | refine oMl ?_
      | refine gif h (fun hc h => ?_) (fun hc h => ?_)
      | refine gfi h (fun hc h => ?_) (fun hc h => ?_)
      | with_reducible refine mI h (fun hc h => ?_)
      | with_reducible refine mE h (fun hc h => ?_)
      | with_reducible refine mS h (fun h => ?_)
      | refine oWs ?_
      | refine oWl ?_
      | refine gYs ?_
      | refine gifs h (fun hc h => ?_) (fun hc h => ?_)
      | refine gfis h (fun hc h => ?_) (fun hc h => ?_)
      | (fail_if_success (refine g_lit ?_)); refine g_dt ?_
      | (fail_if_success (refine g_lit ?_)); refine g_df ?_)
    | (show E1 _ _ _ _ _ _ _; first
      | (show E1 _ _ _ (.region 8 _ _) _ _ _; refine fzo (.l 3 2) ?_)
      | refine c_seq ?_
      | refine c_reg ?_
      | (show E1 _ _ _ (.region 8 _ _) _ _ _; refine c_mixf [3, 4, 5] [0, 1, 2] ?_)
      | refine c_drwf ?_
      | refine c_drw ?_
      | refine c_ret ?_
      | refine c_skip ?_
      | refine c_tt ?_
      | refine c_ff ?_
      | refine c_if h (fun hc h => ?_) (fun hc h => ?_)
      | refine c_fi h (fun hc h => ?_) (fun hc h => ?_)
      | with_reducible refine mI h (fun hc h => ?_)
      | with_reducible refine mE h (fun hc h => ?_)
      | with_reducible refine mS h (fun h => ?_)
      | refine c_ifs h (fun hc h => ?_) (fun hc h => ?_)
      | refine c_fis h (fun hc h => ?_) (fun hc h => ?_)
      | refine c_dt ?_
      | refine c_df ?_)
    | (show E2 _ _ _ _ _ _ _; first
      | refine n_seq ?_
      | (refine n_ends hT ?_; cases h; first | rfl | exact congrArg AV.bool (by rw [Bool.eq_iff_iff]; simp)))
    | (show E4 _ _ _ _ _ _ _; first
      | refine dQ vL ?_
      | refine dQ vLv ?_
      | refine dQ vLo ?_
      | refine dQ vpt ?_
      | refine dQ vpf ?_
      | refine dW ?_
      | refine dE ?_
      | refine dM1 [3, 4, 5] 3 [1, 2] [42, 43] [4, 5] ?_
      | refine dM1 [4, 5] 4 [] [] [5] ?_
      | refine dM1 [5] 5 [] [] [] ?_
      | refine dM0 ?_)
    | (show E5 _ _ _ _ _ _ _; first
      | refine tQ vL ?_
      | refine tQ vLv ?_
      | refine tQ vLo ?_
      | refine tQ vpt ?_
      | refine tQ vpf ?_
      | refine tW ?_
      | refine n_drw [0, 1, 2, 3, 6, 7, 8, 9, 17, 22] ?_
      | refine n_stgf [3, 4, 5] [0, 1, 2] ?_
      | refine n_stgf [4, 5] [1, 2] ?_
      | refine n_stgf [5] [] ?_
      | refine n_stgf [] [] ?_)
    | with_reducible refine mI h (fun hc h => ?_)
    | with_reducible refine mE h (fun hc h => ?_)
    | with_reducible refine mS h (fun h => ?_)
    | (rcases k with _ | k; (simp only [regletref16_Put.j0] at h; cases h); simp only [regletref16_Put.j0, rdc46, rdc46', rq_T46, rq_T51, rq_T34, rq_bt, wrap64, bl, tl_eq, tl_lit, tl_nil, Bool.false_eq_true, if_false, if_true] at h)
    | refine mT h (fun h => ?_)
    | refine mF h (fun h => ?_)
    | (cases h; done)
theorem regletref16_Insert.does {k : Nat} {a0_0 : Int} {a0_1 : Int} {l0_2 : List (S51)} {a1 : Int} {a2 : Int} {r : (Int × Int × (List (S51)) × Int)} (h : regletref16_Insert.f k a0_0 a0_1 l0_2 a1 a2 = some r) (G : Objs) : Does Try.prog true 30 [.agg [.int .i64 a0_0, .int .i64 a0_1, .sl (l0_2.map Enc.enc)], .int .i64 a1, .int .i64 a2] G (fun x _ => x = .tup [.agg [.int .i64 r.1, .int .i64 r.2.1, .sl (r.2.2.1.map Enc.enc)], .int .i64 r.2.2.2]) := by
  unfold regletref16_Insert.f at h
  try simp only [rdc46, rdc46', rq_T46, rq_T51, rq_T34, rq_bt, wrap64, bl, tl_eq, tl_lit, tl_nil, Bool.false_eq_true, if_false, if_true] at h
  refine does_walk 3 (F := cfg []) tb_ok mixed Try.func30 rfl (fun T hT => ?_)
  repeat' first
    | (show E3 _ _ _ _ _ _ _ _; first
      | refine oQ vL ?_
      | refine oQ vLv ?_
      | refine oQ vLo ?_
      | refine oQ vE ?_
      | refine oQ vEv ?_
      | refine oQ vEo ?_
      | refine oQ vpt ?_
      | refine oQ vpf ?_
      | refine oLe vLe ?_
      | refine oBS ?_
      | refine oB ?_
      | refine oLd ?_
      | refine oW ?_
      | refine n_reg [0, 1, 2, 3, 6, 7, 8, 9, 10, 18, 21, 27, 33, 55] ?_
      | refine gYq vL ?_
      | refine gYq vLv ?_
      | refine gYq vLo ?_
      | refine gYq vE ?_
      | refine gYq vEv ?_
      | refine gYq vEo ?_
      | refine gYq vpt ?_
      | refine gYq vpf ?_
      | refine gLe vLe ?_
      | refine gN ?_
      | refine gNf ?_
      | refine gY ?_
      | refine gT ?_
      | refine oAvd dec51 ?_
      | refine oAv (⟨_, _, _⟩ : S51) ?_
      | refine oA (⟨_, _, _⟩ : S51) ?_
      | refine oAe (⟨_, _, _⟩ : S51) ?_
      | refine oAl (⟨_, _, _⟩ : S51) ?_
      | refine oMv ?_
      | refine oM ?_
      | refine oMe ?_
      | refine oMl ?_
      | refine gif h (fun hc h => ?_) (fun hc h => ?_)
      | refine gfi h (fun hc h => ?_) (fun hc h => ?_)
      | with_reducible refine mI h (fun hc h => ?_)
      | with_reducible refine mE h (fun hc h => ?_)
      | with_reducible refine mS h (fun h => ?_)
      | refine oWs ?_
      | refine oWl ?_
      | refine gYs ?_
      | refine gifs h (fun hc h => ?_) (fun hc h => ?_)
      | refine gfis h (fun hc h => ?_) (fun hc h => ?_)
      | (fail_if_success (refine g_lit ?_)); refine g_dt ?_
      | (fail_if_success (refine g_lit ?_)); refine g_df ?_)
    | (show E1 _ _ _ _ _ _ _; first
      | refine c_seq ?_
      | refine c_reg ?_
      | refine c_blk ?_
      | refine c_exit ?_
      | refine c_ret ?_
      | refine c_skip ?_
      | refine c_tt ?_
      | refine c_ff ?_
      | refine c_if h (fun hc h => ?_) (fun hc h => ?_)
      | refine c_fi h (fun hc h => ?_) (fun hc h => ?_)
      | with_reducible refine mI h (fun hc h => ?_)
      | with_reducible refine mE h (fun hc h => ?_)
      | with_reducible refine mS h (fun h => ?_)
      | refine c_ifs h (fun hc h => ?_) (fun hc h => ?_)
      | refine c_fis h (fun hc h => ?_) (fun hc h => ?_)
      | (refine lp7 (fun x1 x2 x8 x9 x115000 x115001 x115002 => [(1, .int .i64 x1), (2, .int .i64 x2), (8, .own 3 (x8.map Enc.enc)), (9, .int .i64 x9), (3, .lptr 3 0), (6, .lptr 6 0)]) (fun x1 x2 x8 x9 x115000 x115001 x115002 => [(3, [.int .i64 x115000, .int .i64 x115001, .sl (x115002.map Enc.enc)]), (6, [.int .i64 0, .int .i64 0, .own 3 []])]) (fun k_ x1 x2 x8 x9 x115000 x115001 x115002 => k_ ≤ k ∧ regletref16_Insert.l0 k_ x1 x2 x8 x9 x115000 x115001 x115002 = some r) ⟨Nat.le_refl _, h⟩ ?_; intro k x1 x2 x8 x9 x115000 x115001 x115002 h; obtain ⟨hk, h⟩ := h; rcases k with _ | k; (simp only [regletref16_Insert.l0] at h; cases h); simp only [regletref16_Insert.l0, rdc46, rdc46', rq_T46, rq_T51, rq_T34, rq_bt, wrap64, bl, tl_eq, tl_lit, tl_nil, Bool.false_eq_true, if_false, if_true] at h)
      | refine c_dt ?_
      | refine c_df ?_)
    | (show E2 _ _ _ _ _ _ _; first
      | refine n_seq ?_
      | (refine n_ends hT ?_; cases h; first | rfl | exact congrArg AV.bool (by rw [Bool.eq_iff_iff]; simp))
      | refine ag7 rfl ⟨by omega, h⟩)
    | (show E4 _ _ _ _ _ _ _; first
      | refine dQ vLe ?_)
    | with_reducible refine mI h (fun hc h => ?_)
    | with_reducible refine mE h (fun hc h => ?_)
    | with_reducible refine mS h (fun h => ?_)
    | (rcases k with _ | k; (simp only [regletref16_Insert.j0] at h; cases h); simp only [regletref16_Insert.j0, rdc46, rdc46', rq_T46, rq_T51, rq_T34, rq_bt, wrap64, bl, tl_eq, tl_lit, tl_nil, Bool.false_eq_true, if_false, if_true] at h)
    | refine mT h (fun h => ?_)
    | refine mF h (fun h => ?_)
    | (cases h; done)
end Go.AL.X
