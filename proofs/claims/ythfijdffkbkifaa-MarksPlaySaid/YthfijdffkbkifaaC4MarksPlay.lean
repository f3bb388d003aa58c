/- What each function does: it answers as its model tells, and changes nothing (in 7 texts, numbered 5). -/
import Derived.Test.YthfijdffkbkifaaC2MarksPlay
import Derived.Test.YthfijdffkbkifaaC3MarksPlay
import Derived.Test.YthfijdffkbkifaaTMarksPlay
namespace Go.AL.X
open Go.Proofs Go.Proofs.Ythfijdffkbkifaa.PMarksPlay
set_option linter.unusedVariables false
set_option linter.unusedSimpArgs false
set_option maxRecDepth 100000
set_option maxHeartbeats 16000000
theorem regletref16_Drop.does {k : Nat} {a0_0 : Int} {a0_1 : Int} {l0_2 : List (S51)} {a1 : Int} {r : (Int × Int × (List (S51)) × Int)} (h : regletref16_Drop.f k a0_0 a0_1 l0_2 a1 = some r) (G : Objs) : Does Try.prog true 34 [.agg [.int .i64 a0_0, .int .i64 a0_1, .sl (l0_2.map Enc.enc)], .int .i64 a1] G (fun x _ => x = .tup [.agg [.int .i64 r.1, .int .i64 r.2.1, .sl (r.2.2.1.map Enc.enc)], .int .i64 r.2.2.2]) := by
  unfold regletref16_Drop.f at h
  try simp only [rdc46, rdc46', rq_T46, rq_T51, rq_T34, rq_bt, wrap64, bl, tl_eq, tl_lit, tl_nil, Bool.false_eq_true, if_false, if_true] at h
  refine does_walk 2 (F := cfg []) tb_ok mixed Try.func34 rfl (fun T hT => ?_)
  repeat' first
    | (show E3 _ _ _ _ _ _ _ _; first
      | refine oQ vL ?_
      | refine oQ vLv ?_
      | refine oQ vLo ?_
      | refine oQ vE ?_
      | refine oQ vEv ?_
      | refine oQ vEo ?_
      | refine oLe vLe ?_
      | refine oBS ?_
      | refine oLd ?_
      | refine oW ?_
      | refine n_reg [0, 1, 2, 4, 5, 6, 7, 8, 13, 19, 24] ?_
      | refine oAvd dec51 ?_
      | refine oAv (⟨_, _, _⟩ : S51) ?_
      | refine oA (⟨_, _, _⟩ : S51) ?_
      | refine oAe (⟨_, _, _⟩ : S51) ?_
      | refine oAl (⟨_, _, _⟩ : S51) ?_
      | refine oMv ?_
      | refine oM ?_
      | refine oMe ?_
      | refine oMl ?_
      | refine mB h (fun t ht h => oC (vC (fun G => regletref16_find.does ht G)) ?_)
      | refine fz 9 ?_
      | refine fz 10 ?_
      | with_reducible refine mI h (fun hc h => ?_)
      | with_reducible refine mE h (fun hc h => ?_)
      | with_reducible refine mS h (fun h => ?_)
      | refine oWs ?_
      | refine oWl ?_)
    | (show E1 _ _ _ _ _ _ _; first
      | refine c_seq ?_
      | refine c_reg ?_
      | refine c_blk ?_
      | refine c_exit ?_
      | refine c_ret ?_
      | refine c_skip ?_
      | refine c_tt ?_
      | refine c_ff ?_
      | refine c_if h (fun hc h => ?_) (fun hc h => ?_)
      | refine c_fi h (fun hc h => ?_) (fun hc h => ?_)
      | with_reducible refine mI h (fun hc h => ?_)
      | with_reducible refine mE h (fun hc h => ?_)
      | with_reducible refine mS h (fun h => ?_)
      | refine c_ifs h (fun hc h => ?_) (fun hc h => ?_)
      | refine c_fis h (fun hc h => ?_) (fun hc h => ?_)
      | (refine lp6 (fun x6 x7 x8 x153000 x153001 x153002 => [(6, .int .i64 x6), (7, .own 3 (x7.map Enc.enc)), (8, .int .i64 x8), (2, .lptr 2 0), (4, .lptr 4 0)]) (fun x6 x7 x8 x153000 x153001 x153002 => [(2, [.int .i64 x153000, .int .i64 x153001, .sl (x153002.map Enc.enc)]), (4, [.int .i64 0, .int .i64 0, .own 3 []])]) (fun k_ x6 x7 x8 x153000 x153001 x153002 => k_ ≤ k ∧ regletref16_Drop.l0 k_ x6 x7 x8 x153000 x153001 x153002 = some r) ⟨Nat.le_refl _, h⟩ ?_; intro k x6 x7 x8 x153000 x153001 x153002 h; obtain ⟨hk, h⟩ := h; rcases k with _ | k; (simp only [regletref16_Drop.l0] at h; cases h); simp only [regletref16_Drop.l0, rdc46, rdc46', rq_T46, rq_T51, rq_T34, rq_bt, wrap64, bl, tl_eq, tl_lit, tl_nil, Bool.false_eq_true, if_false, if_true] at h)
      | refine c_dt ?_
      | refine c_df ?_)
    | (show E2 _ _ _ _ _ _ _; first
      | refine n_seq ?_
      | (refine n_ends hT ?_; cases h; first | rfl | exact congrArg AV.bool (by rw [Bool.eq_iff_iff]; simp))
      | refine ag6 rfl ⟨by omega, h⟩)
    | (show E4 _ _ _ _ _ _ _; first
      | refine dQ vLe ?_)
    | with_reducible refine mI h (fun hc h => ?_)
    | with_reducible refine mE h (fun hc h => ?_)
    | with_reducible refine mS h (fun h => ?_)
    | refine mT h (fun h => ?_)
    | refine mF h (fun h => ?_)
    | (cases h; done)
theorem marks_Set_All.does {p0_0 : Int} {p0_1 : Int} {p0_2 : List (S46)} {r : ((List (S46)))} (h : marks_Set_All.f p0_0 p0_1 p0_2 = some r) : DoesL Try.prog 15 [] [.int .i64 p0_0, .int .i64 p0_1, .own 3 (p0_2.map Enc.enc)] (fun x c => x = .own 3 (r.map Enc.enc) ∧ c = [.int .i64 p0_0, .int .i64 p0_1, .own 3 (p0_2.map Enc.enc)]) := by
  unfold marks_Set_All.f at h
  try simp only [rdc46, rdc46', rq_T46, rq_T51, rq_T34, rq_bt, wrap64, bl, tl_eq, tl_lit, tl_nil, Bool.false_eq_true, if_false, if_true] at h
  refine doesL_walk 1 (F := cfgL []) tb_ok mixed Try.func15 rfl (fun T hT => ?_)
  repeat' first
    | (show E3 _ _ _ _ _ _ _ _; first
      | refine oVw ?_
      | refine mB h (fun t ht h => oV (fun G => slices_Clone.does ht G) (plain_map pl46) ?_)
      | refine mI h (fun hc h => oSo (markSort_ok hc) ?_)
      | refine oSo (markSort_ok (by assumption)) ?_
      | refine oW ?_
      | refine n_reg [0, 2, 3] ?_
      | refine fz 7 ?_
      | refine fz 9 ?_
      | with_reducible refine mI h (fun hc h => ?_)
      | with_reducible refine mE h (fun hc h => ?_)
      | with_reducible refine mS h (fun h => ?_)
      | refine oWs ?_)
    | (show E1 _ _ _ _ _ _ _; first
      | refine c_seq ?_
      | refine c_reg ?_
      | refine c_ret ?_)
    | (show E2 _ _ _ _ _ _ _; first
      | refine n_seq ?_
      | (refine n_endLO hT ?_; cases h; first | exact ⟨rfl, rfl⟩ | exact ⟨congrArg (AV.own _) (by simp), rfl⟩)
      | (refine n_endL hT ?_; cases h; first | exact ⟨rfl, rfl⟩ | exact ⟨congrArg AV.bool (by rw [Bool.eq_iff_iff]; simp), rfl⟩))
    | with_reducible refine mI h (fun hc h => ?_)
    | with_reducible refine mE h (fun hc h => ?_)
    | with_reducible refine mS h (fun h => ?_)
    | refine mT h (fun h => ?_)
    | refine mF h (fun h => ?_)
    | (cases h; done)
theorem regletref16_Get.does {k : Nat} {a0_0 : Int} {a0_1 : Int} {l0_2 : List (S51)} {a1 : Int} {r : (Int × Int × Bool × Int)} (h : regletref16_Get.f k a0_0 a0_1 l0_2 a1 = some r) (G : Objs) : Does Try.prog true 21 [.agg [.int .i64 a0_0, .int .i64 a0_1, .sl (l0_2.map Enc.enc)], .int .i64 a1] G (fun x _ => x = .tup [.agg [.int .i64 r.1, .int .i64 r.2.1, .bool r.2.2.1], .int .i64 r.2.2.2]) := by
  unfold regletref16_Get.f at h
  try simp only [rdc46, rdc46', rq_T46, rq_T51, rq_T34, rq_bt, wrap64, bl, tl_eq, tl_lit, tl_nil, Bool.false_eq_true, if_false, if_true] at h
  refine does_walk 2 (F := cfg []) tb_ok mixed Try.func21 rfl (fun T hT => ?_)
  repeat' first
    | (show E3 _ _ _ _ _ _ _ _; first
      | refine oQ vE ?_
      | refine oB ?_
      | refine oLd ?_
      | refine oW ?_
      | refine n_reg [0, 1, 2, 4, 5, 6, 11] ?_
      | refine mB h (fun t ht h => oC (vC (fun G => regletref16_find.does ht G)) ?_)
      | with_reducible refine mI h (fun hc h => ?_)
      | with_reducible refine mE h (fun hc h => ?_)
      | with_reducible refine mS h (fun h => ?_)
      | refine oWs ?_
      | refine oWl ?_)
    | (show E1 _ _ _ _ _ _ _; first
      | refine c_seq ?_
      | refine c_reg ?_
      | refine c_ret ?_
      | refine c_skip ?_
      | refine c_tt ?_
      | refine c_ff ?_
      | refine c_if h (fun hc h => ?_) (fun hc h => ?_)
      | refine c_fi h (fun hc h => ?_) (fun hc h => ?_)
      | with_reducible refine mI h (fun hc h => ?_)
      | with_reducible refine mE h (fun hc h => ?_)
      | with_reducible refine mS h (fun h => ?_)
      | refine c_ifs h (fun hc h => ?_) (fun hc h => ?_)
      | refine c_fis h (fun hc h => ?_) (fun hc h => ?_)
      | refine c_dt ?_
      | refine c_df ?_)
    | (show E2 _ _ _ _ _ _ _; first
      | refine n_seq ?_
      | (refine n_ends hT ?_; cases h; first | rfl | exact congrArg AV.bool (by rw [Bool.eq_iff_iff]; simp)))
    | with_reducible refine mI h (fun hc h => ?_)
    | with_reducible refine mE h (fun hc h => ?_)
    | with_reducible refine mS h (fun h => ?_)
    | refine mT h (fun h => ?_)
    | refine mF h (fun h => ?_)
    | (cases h; done)
theorem marks_Set_find.does {k : Nat} {p0_0 : Int} {p0_1 : Int} {p0_2 : List (S46)} {a1 : Int} {r : (Int)} (h : marks_Set_find.f k p0_0 p0_1 p0_2 a1 = some r) : DoesL Try.prog 24 [.int .i64 a1] [.int .i64 p0_0, .int .i64 p0_1, .own 3 (p0_2.map Enc.enc)] (fun x c => x = .int .i64 r ∧ c = [.int .i64 p0_0, .int .i64 p0_1, .own 3 (p0_2.map Enc.enc)]) := by
  unfold marks_Set_find.f at h
  try simp only [rdc46, rdc46', rq_T46, rq_T51, rq_T34, rq_bt, wrap64, bl, tl_eq, tl_lit, tl_nil, Bool.false_eq_true, if_false, if_true] at h
  refine doesL_walk 2 (F := cfgL []) tb_ok mixed Try.func24 rfl (fun T hT => ?_)
  repeat' first
    | (show E3 _ _ _ _ _ _ _ _; first
      | refine oW ?_
      | refine fzl 3 ?_
      | refine n_reg [0, 1, 3, 4] ?_
      | refine mB h (fun t ht h => oC (vC (fun G => slices_IndexFunc.does ht G)) ?_)
      | with_reducible refine mI h (fun hc h => ?_)
      | with_reducible refine mE h (fun hc h => ?_)
      | with_reducible refine mS h (fun h => ?_)
      | refine oWs ?_
      | refine oWl ?_)
    | (show E1 _ _ _ _ _ _ _; first
      | refine c_seq ?_
      | refine c_reg ?_
      | refine c_ret ?_)
    | (show E2 _ _ _ _ _ _ _; first
      | refine n_seq ?_
      | (refine n_endL hT ?_; cases h; first | exact ⟨rfl, rfl⟩ | exact ⟨congrArg AV.bool (by rw [Bool.eq_iff_iff]; simp), rfl⟩))
    | with_reducible refine mI h (fun hc h => ?_)
    | with_reducible refine mE h (fun hc h => ?_)
    | with_reducible refine mS h (fun h => ?_)
    | refine mT h (fun h => ?_)
    | refine mF h (fun h => ?_)
    | (cases h; done)
theorem marks_Set_Drop.does {k : Nat} {p0_0 : Int} {p0_1 : Int} {p0_2 : List (S46)} {a1 : Int} {r : (Int × Int × Int × (List (S46)))} (h : marks_Set_Drop.f k p0_0 p0_1 p0_2 a1 = some r) : DoesL Try.prog 12 [.int .i64 a1] [.int .i64 p0_0, .int .i64 p0_1, .own 3 (p0_2.map Enc.enc)] (fun x c => x = .int .i64 r.1 ∧ c = [.int .i64 r.2.1, .int .i64 r.2.2.1, .own 3 (r.2.2.2.map Enc.enc)]) := by
  unfold marks_Set_Drop.f at h
  try simp only [rdc46, rdc46', rq_T46, rq_T51, rq_T34, rq_bt, wrap64, bl, tl_eq, tl_lit, tl_nil, Bool.false_eq_true, if_false, if_true] at h
  refine doesL_walk 2 (F := cfgL []) tb_ok mixed Try.func12 rfl (fun T hT => ?_)
  repeat' first
    | (show E3 _ _ _ _ _ _ _ _; first
      | refine mB h (fun t ht h => oL (marks_Set_find.does ht) ?_)
      | refine mB h (fun t ht h => oCTl (fun G => slices_Delete.does ht G) ?_)
      | refine oW ?_
      | refine n_reg [0, 1, 4, 5, 10] ?_
      | refine fz 6 ?_
      | refine fz 7 ?_
      | refine fz 15 ?_
      | refine fz 16 ?_
      | refine fz 18 ?_
      | with_reducible refine mI h (fun hc h => ?_)
      | with_reducible refine mE h (fun hc h => ?_)
      | with_reducible refine mS h (fun h => ?_)
      | refine oWs ?_
      | refine oWl ?_)
    | (show E1 _ _ _ _ _ _ _; first
      | refine c_seq ?_
      | refine c_reg ?_
      | refine c_ret ?_
      | refine c_skip ?_
      | refine c_tt ?_
      | refine c_ff ?_
      | refine c_if h (fun hc h => ?_) (fun hc h => ?_)
      | refine c_fi h (fun hc h => ?_) (fun hc h => ?_)
      | with_reducible refine mI h (fun hc h => ?_)
      | with_reducible refine mE h (fun hc h => ?_)
      | with_reducible refine mS h (fun h => ?_)
      | refine c_ifs h (fun hc h => ?_) (fun hc h => ?_)
      | refine c_fis h (fun hc h => ?_) (fun hc h => ?_)
      | refine c_dt ?_
      | refine c_df ?_)
    | (show E2 _ _ _ _ _ _ _; first
      | refine n_seq ?_
      | (refine n_endL hT ?_; cases h; first | exact ⟨rfl, rfl⟩ | exact ⟨congrArg AV.bool (by rw [Bool.eq_iff_iff]; simp), rfl⟩))
    | with_reducible refine mI h (fun hc h => ?_)
    | with_reducible refine mE h (fun hc h => ?_)
    | with_reducible refine mS h (fun h => ?_)
    | refine mT h (fun h => ?_)
    | refine mF h (fun h => ?_)
    | (cases h; done)
theorem marks_Set_Move.does {k : Nat} {p0_0 : Int} {p0_1 : Int} {p0_2 : List (S46)} {a1 : Int} {a2 : Int} {r : (Int × Int × Int × (List (S46)))} (h : marks_Set_Move.f k p0_0 p0_1 p0_2 a1 a2 = some r) : DoesL Try.prog 33 [.int .i64 a1, .int .i64 a2] [.int .i64 p0_0, .int .i64 p0_1, .own 3 (p0_2.map Enc.enc)] (fun x c => x = .int .i64 r.1 ∧ c = [.int .i64 r.2.1, .int .i64 r.2.2.1, .own 3 (r.2.2.2.map Enc.enc)]) := by
  unfold marks_Set_Move.f at h
  try simp only [rdc46, rdc46', rq_T46, rq_T51, rq_T34, rq_bt, wrap64, bl, tl_eq, tl_lit, tl_nil, Bool.false_eq_true, if_false, if_true] at h
  refine doesL_walk 3 (F := cfgL []) tb_ok mixed Try.func33 rfl (fun T hT => ?_)
  repeat' first
    | (show E3 _ _ _ _ _ _ _ _; first
      | refine oQ vE ?_
      | refine oQ vEv ?_
      | refine oQ vEo ?_
      | refine oQ vpt ?_
      | refine oQ vpf ?_
      | refine oLe vLe ?_
      | refine mB h (fun t ht h => oL (marks_Set_find.does ht) ?_)
      | refine oW ?_
      | refine n_reg [0, 1, 2, 6, 7, 12, 22] ?_
      | refine gYq vE ?_
      | refine gYq vEv ?_
      | refine gYq vEo ?_
      | refine gYq vpt ?_
      | refine gYq vpf ?_
      | refine gLe vLe ?_
      | refine gN ?_
      | refine gNf ?_
      | refine gY ?_
      | refine gT ?_
      | refine gif h (fun hc h => ?_) (fun hc h => ?_)
      | refine gfi h (fun hc h => ?_) (fun hc h => ?_)
      | with_reducible refine mI h (fun hc h => ?_)
      | with_reducible refine mE h (fun hc h => ?_)
      | with_reducible refine mS h (fun h => ?_)
      | refine oSf (α := S46) (β := Int) (fun y z => { y with f1 := z }) (fun z => AV.int .i64 z) ?_
      | refine oSfl (α := S46) (β := Int) (fun y z => { y with f1 := z }) (fun z => AV.int .i64 z) ?_
      | refine oWs ?_
      | refine oWl ?_
      | refine gYs ?_
      | refine gifs h (fun hc h => ?_) (fun hc h => ?_)
      | refine gfis h (fun hc h => ?_) (fun hc h => ?_)
      | (fail_if_success (refine g_lit ?_)); refine g_dt ?_
      | (fail_if_success (refine g_lit ?_)); refine g_df ?_)
    | (show E1 _ _ _ _ _ _ _; first
      | refine c_seq ?_
      | refine c_reg ?_
      | refine c_ret ?_
      | refine c_skip ?_
      | refine c_tt ?_
      | refine c_ff ?_
      | refine c_if h (fun hc h => ?_) (fun hc h => ?_)
      | refine c_fi h (fun hc h => ?_) (fun hc h => ?_)
      | with_reducible refine mI h (fun hc h => ?_)
      | with_reducible refine mE h (fun hc h => ?_)
      | with_reducible refine mS h (fun h => ?_)
      | refine c_ifs h (fun hc h => ?_) (fun hc h => ?_)
      | refine c_fis h (fun hc h => ?_) (fun hc h => ?_)
      | refine c_dt ?_
      | refine c_df ?_)
    | (show E2 _ _ _ _ _ _ _; first
      | refine n_seq ?_
      | (refine n_endL hT ?_; cases h; first | exact ⟨rfl, rfl⟩ | exact ⟨congrArg AV.bool (by rw [Bool.eq_iff_iff]; simp), rfl⟩))
    | (show E4 _ _ _ _ _ _ _; first
      | refine dQ vLe ?_)
    | (show E5 _ _ _ _ _ _ _; first
      | refine tSf (α := S46) (β := Int) (fun y z => { y with f1 := z }) (fun z => AV.int .i64 z) ?_)
    | with_reducible refine mI h (fun hc h => ?_)
    | with_reducible refine mE h (fun hc h => ?_)
    | with_reducible refine mS h (fun h => ?_)
    | refine mT h (fun h => ?_)
    | refine mF h (fun h => ?_)
    | (cases h; done)
end Go.AL.X
