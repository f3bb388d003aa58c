/- What each function does: it answers as its model tells, and changes nothing (in 7 texts, numbered 3). -/
import Derived.Test.YthfijdffkbkifaaTMarksPlay
namespace Go.AL.X
open Go.Proofs Go.Proofs.Ythfijdffkbkifaa.PMarksPlay
set_option linter.unusedVariables false
set_option linter.unusedSimpArgs false
set_option maxRecDepth 100000
set_option maxHeartbeats 16000000
theorem regletref16_Delete.does {k : Nat} {a0_0 : Int} {a0_1 : Int} {l0_2 : List (S51)} {a1 : Int} {a2 : Int} {r : (Int × Int × (List (S51)) × Int)} (h : regletref16_Delete.f k a0_0 a0_1 l0_2 a1 a2 = some r) (G : Objs) : Does Try.prog true 31 [.agg [.int .i64 a0_0, .int .i64 a0_1, .sl (l0_2.map Enc.enc)], .int .i64 a1, .int .i64 a2] G (fun x _ => x = .tup [.agg [.int .i64 r.1, .int .i64 r.2.1, .sl (r.2.2.1.map Enc.enc)], .int .i64 r.2.2.2]) := by
  unfold regletref16_Delete.f at h
  try simp only [rdc46, rdc46', rq_T46, rq_T51, rq_T34, rq_bt, wrap64, bl, tl_eq, tl_lit, tl_nil, Bool.false_eq_true, if_false, if_true] at h
  refine does_walk 3 (F := cfg []) tb_ok mixed Try.func31 rfl (fun T hT => ?_)
  repeat' first
    | (show E3 _ _ _ _ _ _ _ _; first
      | refine oQ vL ?_
      | refine oQ vLv ?_
      | refine oQ vLo ?_
      | refine oQ vE ?_
      | refine oQ vEv ?_
      | refine oQ vEo ?_
      | refine oQ vmax ?_
      | refine oQ vpt ?_
      | refine oQ vpf ?_
      | refine oLe vLe ?_
      | refine oBS ?_
      | refine oB ?_
      | refine oLd ?_
      | refine oW ?_
      | refine n_reg [0, 1, 2, 3, 6, 7, 8, 9, 10, 23, 29, 40] ?_
      | refine gYq vL ?_
      | refine gYq vLv ?_
      | refine gYq vLo ?_
      | refine gYq vE ?_
      | refine gYq vEv ?_
      | refine gYq vEo ?_
      | refine gYq vmax ?_
      | refine gYq vpt ?_
      | refine gYq vpf ?_
      | refine gLe vLe ?_
      | refine gN ?_
      | refine gNf ?_
      | refine gY ?_
      | refine gT ?_
      | refine oAvd dec51 ?_
      | refine oAv (⟨_, _, _⟩ : S51) ?_
      | refine oA (⟨_, _, _⟩ : S51) ?_
      | refine oAe (⟨_, _, _⟩ : S51) ?_
      | refine oAl (⟨_, _, _⟩ : S51) ?_
      | refine oMv ?_
      | refine oM ?_
      | refine oMe ?_
      | refine oMl ?_
      | refine gif h (fun hc h => ?_) (fun hc h => ?_)
      | refine gfi h (fun hc h => ?_) (fun hc h => ?_)
      | with_reducible refine mI h (fun hc h => ?_)
      | with_reducible refine mE h (fun hc h => ?_)
      | with_reducible refine mS h (fun h => ?_)
      | refine oWs ?_
      | refine oWl ?_
      | refine gYs ?_
      | refine gifs h (fun hc h => ?_) (fun hc h => ?_)
      | refine gfis h (fun hc h => ?_) (fun hc h => ?_)
      | (fail_if_success (refine g_lit ?_)); refine g_dt ?_
      | (fail_if_success (refine g_lit ?_)); refine g_df ?_)
    | (show E1 _ _ _ _ _ _ _; first
      | refine c_seq ?_
      | refine c_reg ?_
      | refine c_blk ?_
      | refine c_exit ?_
      | refine c_ret ?_
      | refine c_skip ?_
      | refine c_tt ?_
      | refine c_ff ?_
      | refine c_if h (fun hc h => ?_) (fun hc h => ?_)
      | refine c_fi h (fun hc h => ?_) (fun hc h => ?_)
      | with_reducible refine mI h (fun hc h => ?_)
      | with_reducible refine mE h (fun hc h => ?_)
      | with_reducible refine mS h (fun h => ?_)
      | refine c_ifs h (fun hc h => ?_) (fun hc h => ?_)
      | refine c_fis h (fun hc h => ?_) (fun hc h => ?_)
      | (refine lp7 (fun x1 x2 x8 x9 x131000 x131001 x131002 => [(1, .int .i64 x1), (2, .int .i64 x2), (8, .own 3 (x8.map Enc.enc)), (9, .int .i64 x9), (3, .lptr 3 0), (6, .lptr 6 0)]) (fun x1 x2 x8 x9 x131000 x131001 x131002 => [(3, [.int .i64 x131000, .int .i64 x131001, .sl (x131002.map Enc.enc)]), (6, [.int .i64 0, .int .i64 0, .own 3 []])]) (fun k_ x1 x2 x8 x9 x131000 x131001 x131002 => k_ ≤ k ∧ regletref16_Delete.l0 k_ x1 x2 x8 x9 x131000 x131001 x131002 = some r) ⟨Nat.le_refl _, h⟩ ?_; intro k x1 x2 x8 x9 x131000 x131001 x131002 h; obtain ⟨hk, h⟩ := h; rcases k with _ | k; (simp only [regletref16_Delete.l0] at h; cases h); simp only [regletref16_Delete.l0, rdc46, rdc46', rq_T46, rq_T51, rq_T34, rq_bt, wrap64, bl, tl_eq, tl_lit, tl_nil, Bool.false_eq_true, if_false, if_true] at h)
      | refine c_dt ?_
      | refine c_df ?_)
    | (show E2 _ _ _ _ _ _ _; first
      | refine n_seq ?_
      | (refine n_ends hT ?_; cases h; first | rfl | exact congrArg AV.bool (by rw [Bool.eq_iff_iff]; simp))
      | refine ag7 rfl ⟨by omega, h⟩)
    | (show E4 _ _ _ _ _ _ _; first
      | refine dQ vLe ?_)
    | with_reducible refine mI h (fun hc h => ?_)
    | with_reducible refine mE h (fun hc h => ?_)
    | with_reducible refine mS h (fun h => ?_)
    | (rcases k with _ | k; (simp only [regletref16_Delete.j0] at h; cases h); simp only [regletref16_Delete.j0, rdc46, rdc46', rq_T46, rq_T51, rq_T34, rq_bt, wrap64, bl, tl_eq, tl_lit, tl_nil, Bool.false_eq_true, if_false, if_true] at h)
    | refine mT h (fun h => ?_)
    | refine mF h (fun h => ?_)
    | (cases h; done)
theorem regletref16_find.does {k : Nat} {a0_0 : Int} {a0_1 : Int} {l0_2 : List (S51)} {a1 : Int} {r : (Int)} (h : regletref16_find.f k a0_0 a0_1 l0_2 a1 = some r) (G : Objs) : Does Try.prog true 35 [.agg [.int .i64 a0_0, .int .i64 a0_1, .sl (l0_2.map Enc.enc)], .int .i64 a1] G (fun x _ => x = .int .i64 r) := by
  unfold regletref16_find.f at h
  try simp only [rdc46, rdc46', rq_T46, rq_T51, rq_T34, rq_bt, wrap64, bl, tl_eq, tl_lit, tl_nil, Bool.false_eq_true, if_false, if_true] at h
  refine does_walk 2 (F := cfg []) tb_ok mixed Try.func35 rfl (fun T hT => ?_)
  repeat' first
    | (show E3 _ _ _ _ _ _ _ _; first
      | refine oQ vL ?_
      | refine oQ vE ?_
      | refine oW ?_
      | refine n_reg [0, 1, 2, 4, 5, 10, 20] ?_
      | with_reducible refine mI h (fun hc h => ?_)
      | with_reducible refine mE h (fun hc h => ?_)
      | with_reducible refine mS h (fun h => ?_)
      | refine oWs ?_
      | refine oWl ?_)
    | (show E1 _ _ _ _ _ _ _; first
      | refine c_seq ?_
      | refine c_reg ?_
      | refine c_blk ?_
      | refine c_exit ?_
      | refine c_ret ?_
      | refine c_skip ?_
      | refine c_tt ?_
      | refine c_ff ?_
      | refine c_if h (fun hc h => ?_) (fun hc h => ?_)
      | refine c_fi h (fun hc h => ?_) (fun hc h => ?_)
      | with_reducible refine mI h (fun hc h => ?_)
      | with_reducible refine mE h (fun hc h => ?_)
      | with_reducible refine mS h (fun h => ?_)
      | refine c_ifs h (fun hc h => ?_) (fun hc h => ?_)
      | refine c_fis h (fun hc h => ?_) (fun hc h => ?_)
      | (refine lp5 (fun x1 x5 x141000 x141001 x141002 => [(1, .int .i64 x1), (5, .int .i64 x5), (2, .lptr 2 0)]) (fun x1 x5 x141000 x141001 x141002 => [(2, [.int .i64 x141000, .int .i64 x141001, .sl (x141002.map Enc.enc)])]) (fun k_ x1 x5 x141000 x141001 x141002 => k_ ≤ k ∧ regletref16_find.l0 k_ x1 x5 x141000 x141001 x141002 = some r) ⟨Nat.le_refl _, h⟩ ?_; intro k x1 x5 x141000 x141001 x141002 h; obtain ⟨hk, h⟩ := h; rcases k with _ | k; (simp only [regletref16_find.l0] at h; cases h); simp only [regletref16_find.l0, rdc46, rdc46', rq_T46, rq_T51, rq_T34, rq_bt, wrap64, bl, tl_eq, tl_lit, tl_nil, Bool.false_eq_true, if_false, if_true] at h)
      | refine c_dt ?_
      | refine c_df ?_)
    | (show E2 _ _ _ _ _ _ _; first
      | refine n_seq ?_
      | (refine n_end hT ?_; cases h; first | rfl | exact congrArg AV.bool (by rw [Bool.eq_iff_iff]; simp))
      | refine ag5 rfl ⟨by omega, h⟩)
    | with_reducible refine mI h (fun hc h => ?_)
    | with_reducible refine mE h (fun hc h => ?_)
    | with_reducible refine mS h (fun h => ?_)
    | refine mT h (fun h => ?_)
    | refine mF h (fun h => ?_)
    | (cases h; done)
theorem marks_Set_Size.does {p0_0 : Int} {p0_1 : Int} {p0_2 : List (S46)} {r : (Int)} (h : marks_Set_Size.f p0_0 p0_1 p0_2 = some r) : DoesL Try.prog 18 [] [.int .i64 p0_0, .int .i64 p0_1, .own 3 (p0_2.map Enc.enc)] (fun x c => x = .int .i64 r ∧ c = [.int .i64 p0_0, .int .i64 p0_1, .own 3 (p0_2.map Enc.enc)]) := by
  unfold marks_Set_Size.f at h
  try simp only [rdc46, rdc46', rq_T46, rq_T51, rq_T34, rq_bt, wrap64, bl, tl_eq, tl_lit, tl_nil, Bool.false_eq_true, if_false, if_true] at h
  refine doesL_walk 1 (F := cfgL []) tb_ok mixed Try.func18 rfl (fun T hT => ?_)
  repeat' first
    | (show E3 _ _ _ _ _ _ _ _; first
      | refine oW ?_
      | refine n_reg [0, 2] ?_
      | with_reducible refine mI h (fun hc h => ?_)
      | with_reducible refine mE h (fun hc h => ?_)
      | with_reducible refine mS h (fun h => ?_)
      | refine oWs ?_)
    | (show E1 _ _ _ _ _ _ _; first
      | refine c_seq ?_
      | refine c_reg ?_
      | refine c_ret ?_)
    | (show E2 _ _ _ _ _ _ _; first
      | refine n_seq ?_
      | (refine n_endL hT ?_; cases h; first | exact ⟨rfl, rfl⟩ | exact ⟨congrArg AV.bool (by rw [Bool.eq_iff_iff]; simp), rfl⟩))
    | with_reducible refine mI h (fun hc h => ?_)
    | with_reducible refine mE h (fun hc h => ?_)
    | with_reducible refine mS h (fun h => ?_)
    | refine mT h (fun h => ?_)
    | refine mF h (fun h => ?_)
    | (cases h; done)
theorem marks_Set_Count.does {p0_0 : Int} {p0_1 : Int} {p0_2 : List (S46)} {r : (Int)} (h : marks_Set_Count.f p0_0 p0_1 p0_2 = some r) : DoesL Try.prog 11 [] [.int .i64 p0_0, .int .i64 p0_1, .own 3 (p0_2.map Enc.enc)] (fun x c => x = .int .i64 r ∧ c = [.int .i64 p0_0, .int .i64 p0_1, .own 3 (p0_2.map Enc.enc)]) := by
  unfold marks_Set_Count.f at h
  try simp only [rdc46, rdc46', rq_T46, rq_T51, rq_T34, rq_bt, wrap64, bl, tl_eq, tl_lit, tl_nil, Bool.false_eq_true, if_false, if_true] at h
  refine doesL_walk 1 (F := cfgL []) tb_ok mixed Try.func11 rfl (fun T hT => ?_)
  repeat' first
    | (show E3 _ _ _ _ _ _ _ _; first
      | refine oQ vL ?_
      | refine oQ vLv ?_
      | refine oQ vLo ?_
      | refine oW ?_
      | refine n_reg [0, 2] ?_
      | with_reducible refine mI h (fun hc h => ?_)
      | with_reducible refine mE h (fun hc h => ?_)
      | with_reducible refine mS h (fun h => ?_)
      | refine oWs ?_)
    | (show E1 _ _ _ _ _ _ _; first
      | refine c_seq ?_
      | refine c_reg ?_
      | refine c_ret ?_)
    | (show E2 _ _ _ _ _ _ _; first
      | refine n_seq ?_
      | (refine n_endL hT ?_; cases h; first | exact ⟨rfl, rfl⟩ | exact ⟨congrArg AV.bool (by rw [Bool.eq_iff_iff]; simp), rfl⟩))
    | with_reducible refine mI h (fun hc h => ?_)
    | with_reducible refine mE h (fun hc h => ?_)
    | with_reducible refine mS h (fun h => ?_)
    | refine mT h (fun h => ?_)
    | refine mF h (fun h => ?_)
    | (cases h; done)
theorem regletlaw16_size.does {a0 : Int} {r : (Bool)} (h : regletlaw16_size.f a0 = some r) (G : Objs) : Does Try.prog true 13 [.int .i64 a0] G (fun x _ => x = .bool r) := by
  unfold regletlaw16_size.f at h
  try simp only [rdc46, rdc46', rq_T46, rq_T51, rq_T34, rq_bt, wrap64, bl, tl_eq, tl_lit, tl_nil, Bool.false_eq_true, if_false, if_true] at h
  refine does_walk 1 (F := cfg []) tb_ok mixed Try.func13 rfl (fun T hT => ?_)
  repeat' first
    | (show E3 _ _ _ _ _ _ _ _; first
      | refine oQ vpt ?_
      | refine oQ vpf ?_
      | refine oW ?_
      | refine n_reg [0, 2] ?_
      | refine gYq vpt ?_
      | refine gYq vpf ?_
      | refine gN ?_
      | refine gNf ?_
      | refine gY ?_
      | refine gT ?_
      | refine gif h (fun hc h => ?_) (fun hc h => ?_)
      | refine gfi h (fun hc h => ?_) (fun hc h => ?_)
      | with_reducible refine mI h (fun hc h => ?_)
      | with_reducible refine mE h (fun hc h => ?_)
      | with_reducible refine mS h (fun h => ?_)
      | refine oWs ?_
      | refine gYs ?_
      | refine gifs h (fun hc h => ?_) (fun hc h => ?_)
      | refine gfis h (fun hc h => ?_) (fun hc h => ?_)
      | (fail_if_success (refine g_lit ?_)); refine g_dt ?_
      | (fail_if_success (refine g_lit ?_)); refine g_df ?_)
    | (show E1 _ _ _ _ _ _ _; first
      | refine c_seq ?_
      | refine c_reg ?_
      | refine c_ret ?_)
    | (show E2 _ _ _ _ _ _ _; first
      | refine n_seq ?_
      | (refine n_end hT ?_; cases h; first | rfl | exact congrArg AV.bool (by rw [Bool.eq_iff_iff]; simp)))
    | with_reducible refine mI h (fun hc h => ?_)
    | with_reducible refine mE h (fun hc h => ?_)
    | with_reducible refine mS h (fun h => ?_)
    | refine mT h (fun h => ?_)
    | refine mF h (fun h => ?_)
    | (cases h; done)
theorem slices_Clone.does {l0 : List (S46)} {r : ((List (S46)))} (h : slices_Clone.f l0 = some r) (G : Objs) : Does Try.prog true 26 [.sl (l0.map Enc.enc)] G (fun x _ => x = .own 3 (r.map Enc.enc)) := by
  unfold slices_Clone.f at h
  try simp only [rdc46, rdc46', rq_T46, rq_T51, rq_T34, rq_bt, wrap64, bl, tl_eq, tl_lit, tl_nil, Bool.false_eq_true, if_false, if_true] at h
  refine does_walk 1 (F := cfg []) tb_ok mixed Try.func26 rfl (fun T hT => ?_)
  repeat' first
    | (show E3 _ _ _ _ _ _ _ _; first
      | refine oBS ?_
      | (refine oNil (fun hm b => ?_) (fun hm => ?_) <;> (try (subst hm; cases b)))
      | refine oW ?_
      | refine n_reg [0, 2, 4] ?_
      | refine oAvd dec46 ?_
      | refine oAv (⟨_, _, _⟩ : S46) ?_
      | refine oA (⟨_, _, _⟩ : S46) ?_
      | refine oAe (⟨_, _, _⟩ : S46) ?_
      | refine oMv ?_
      | refine oM ?_
      | refine oMe ?_
      | with_reducible refine mI h (fun hc h => ?_)
      | with_reducible refine mE h (fun hc h => ?_)
      | with_reducible refine mS h (fun h => ?_)
      | refine oWs ?_)
    | (show E1 _ _ _ _ _ _ _; first
      | refine c_seq ?_
      | refine c_reg ?_
      | refine c_ret ?_
      | refine c_skip ?_
      | refine c_tt ?_
      | refine c_ff ?_
      | refine c_if h (fun hc h => ?_) (fun hc h => ?_)
      | refine c_fi h (fun hc h => ?_) (fun hc h => ?_)
      | with_reducible refine mI h (fun hc h => ?_)
      | with_reducible refine mE h (fun hc h => ?_)
      | with_reducible refine mS h (fun h => ?_)
      | refine c_ifs h (fun hc h => ?_) (fun hc h => ?_)
      | refine c_fis h (fun hc h => ?_) (fun hc h => ?_)
      | refine c_dt ?_
      | refine c_df ?_)
    | (show E2 _ _ _ _ _ _ _; first
      | (refine n_endO hT ?_; cases h; first | rfl | exact congrArg (AV.own _) (by simp))
      | refine n_seq ?_
      | (refine n_end hT ?_; cases h; first | rfl | exact congrArg AV.bool (by rw [Bool.eq_iff_iff]; simp)))
    | with_reducible refine mI h (fun hc h => ?_)
    | with_reducible refine mE h (fun hc h => ?_)
    | with_reducible refine mS h (fun h => ?_)
    | refine mT h (fun h => ?_)
    | refine mF h (fun h => ?_)
    | (cases h; done)
-- NO MODEL 28 marks_Set_All_1
end Go.AL.X
