/- What each function does: it answers as its model tells, and changes nothing (in 8 texts, numbered 6). -/
import Derived.Test.YthfijdffkbkifaaC0MarksBetween
import Derived.Test.YthfijdffkbkifaaC1MarksBetween
import Derived.Test.YthfijdffkbkifaaC2MarksBetween
import Derived.Test.YthfijdffkbkifaaC4MarksBetween
import Derived.Test.YthfijdffkbkifaaTMarksBetween
namespace Go.AL.X
open Go.Proofs Go.Proofs.Ythfijdffkbkifaa.PMarksBetween
set_option linter.unusedVariables false
set_option linter.unusedSimpArgs false
set_option maxRecDepth 100000
set_option maxHeartbeats 16000000
theorem marks_Set_Drop.does {k : Nat} {p0_0 : Int} {p0_1 : Int} {p0_2 : List (S46)} {a1 : Int} {r : (Int × Int × Int × (List (S46)))} (h : marks_Set_Drop.f k p0_0 p0_1 p0_2 a1 = some r) : DoesL Try.prog 12 [.int .i64 a1] [.int .i64 p0_0, .int .i64 p0_1, .own 3 (p0_2.map Enc.enc)] (fun x c => x = .int .i64 r.1 ∧ c = [.int .i64 r.2.1, .int .i64 r.2.2.1, .own 3 (r.2.2.2.map Enc.enc)]) := by
  unfold marks_Set_Drop.f at h
  try simp only [rdc46, rdc46', rq_T46, rq_T51, rq_T34, rq_T56, rq_I, rq_bt, wrap64, bl, tl_eq, tl_lit, tl_nil, Bool.false_eq_true, if_false, if_true] at h
  refine doesL_walk 2 (F := cfgL []) tb_ok mixed Try.func12 rfl (fun T hT => ?_)
  repeat' first
    | (show E3 _ _ _ _ _ _ _ _; first
      | refine mB h (fun t ht h => oL (marks_Set_find.does ht) ?_)
      | refine mB h (fun t ht h => oCTl (fun G => slices_Delete.does ht G) ?_)
      | refine oW ?_
      | refine n_reg [0, 1, 4, 5, 10] ?_
      | refine fz 6 ?_
      | refine fz 7 ?_
      | refine fz 15 ?_
      | refine fz 16 ?_
      | refine fz 18 ?_
      | with_reducible refine mI h (fun hc h => ?_)
      | with_reducible refine mE h (fun hc h => ?_)
      | with_reducible refine mS h (fun h => ?_)
      | refine oWs ?_
      | refine oWl ?_)
    | (show E1 _ _ _ _ _ _ _; first
      | refine c_seq ?_
      | refine c_reg ?_
      | refine c_ret ?_
      | refine c_skip ?_
      | refine c_tt ?_
      | refine c_ff ?_
      | refine c_if h (fun hc h => ?_) (fun hc h => ?_)
      | refine c_fi h (fun hc h => ?_) (fun hc h => ?_)
      | with_reducible refine mI h (fun hc h => ?_)
      | with_reducible refine mE h (fun hc h => ?_)
      | with_reducible refine mS h (fun h => ?_)
      | refine c_ifs h (fun hc h => ?_) (fun hc h => ?_)
      | refine c_fis h (fun hc h => ?_) (fun hc h => ?_)
      | refine c_dt ?_
      | refine c_df ?_)
    | (show E2 _ _ _ _ _ _ _; first
      | refine n_seq ?_
      | (refine n_endL hT ?_; cases h; first | exact ⟨rfl, rfl⟩ | exact ⟨congrArg AV.bool (by rw [Bool.eq_iff_iff]; simp), rfl⟩))
    | with_reducible refine mI h (fun hc h => ?_)
    | with_reducible refine mE h (fun hc h => ?_)
    | with_reducible refine mS h (fun h => ?_)
    | refine mT h (fun h => ?_)
    | refine mF h (fun h => ?_)
    | (cases h; done)
theorem marks_Set_Move.does {k : Nat} {p0_0 : Int} {p0_1 : Int} {p0_2 : List (S46)} {a1 : Int} {a2 : Int} {r : (Int × Int × Int × (List (S46)))} (h : marks_Set_Move.f k p0_0 p0_1 p0_2 a1 a2 = some r) : DoesL Try.prog 33 [.int .i64 a1, .int .i64 a2] [.int .i64 p0_0, .int .i64 p0_1, .own 3 (p0_2.map Enc.enc)] (fun x c => x = .int .i64 r.1 ∧ c = [.int .i64 r.2.1, .int .i64 r.2.2.1, .own 3 (r.2.2.2.map Enc.enc)]) := by
  unfold marks_Set_Move.f at h
  try simp only [rdc46, rdc46', rq_T46, rq_T51, rq_T34, rq_T56, rq_I, rq_bt, wrap64, bl, tl_eq, tl_lit, tl_nil, Bool.false_eq_true, if_false, if_true] at h
  refine doesL_walk 3 (F := cfgL []) tb_ok mixed Try.func33 rfl (fun T hT => ?_)
  repeat' first
    | (show E3 _ _ _ _ _ _ _ _; first
      | refine oQ vE ?_
      | refine oQ vEv ?_
      | refine oQ vEo ?_
      | refine oQ vpt ?_
      | refine oQ vpf ?_
      | refine oLe vLe ?_
      | refine mB h (fun t ht h => oL (marks_Set_find.does ht) ?_)
      | refine oW ?_
      | refine n_reg [0, 1, 2, 6, 7, 12, 22] ?_
      | refine gYq vE ?_
      | refine gYq vEv ?_
      | refine gYq vEo ?_
      | refine gYq vpt ?_
      | refine gYq vpf ?_
      | refine gLe vLe ?_
      | refine gN ?_
      | refine gNf ?_
      | refine gY ?_
      | refine gT ?_
      | refine gif h (fun hc h => ?_) (fun hc h => ?_)
      | refine gfi h (fun hc h => ?_) (fun hc h => ?_)
      | with_reducible refine mI h (fun hc h => ?_)
      | with_reducible refine mE h (fun hc h => ?_)
      | with_reducible refine mS h (fun h => ?_)
      | refine oSf (α := S46) (β := Int) (fun y z => { y with f1 := z }) (fun z => AV.int .i64 z) ?_
      | refine oSfl (α := S46) (β := Int) (fun y z => { y with f1 := z }) (fun z => AV.int .i64 z) ?_
      | refine oWs ?_
      | refine oWl ?_
      | refine gYs ?_
      | refine gifs h (fun hc h => ?_) (fun hc h => ?_)
      | refine gfis h (fun hc h => ?_) (fun hc h => ?_)
      | (fail_if_success (refine g_lit ?_)); refine g_dt ?_
      | (fail_if_success (refine g_lit ?_)); refine g_df ?_)
    | (show E1 _ _ _ _ _ _ _; first
      | refine c_seq ?_
      | refine c_reg ?_
      | refine c_ret ?_
      | refine c_skip ?_
      | refine c_tt ?_
      | refine c_ff ?_
      | refine c_if h (fun hc h => ?_) (fun hc h => ?_)
      | refine c_fi h (fun hc h => ?_) (fun hc h => ?_)
      | with_reducible refine mI h (fun hc h => ?_)
      | with_reducible refine mE h (fun hc h => ?_)
      | with_reducible refine mS h (fun h => ?_)
      | refine c_ifs h (fun hc h => ?_) (fun hc h => ?_)
      | refine c_fis h (fun hc h => ?_) (fun hc h => ?_)
      | refine c_dt ?_
      | refine c_df ?_)
    | (show E2 _ _ _ _ _ _ _; first
      | refine n_seq ?_
      | (refine n_endL hT ?_; cases h; first | exact ⟨rfl, rfl⟩ | exact ⟨congrArg AV.bool (by rw [Bool.eq_iff_iff]; simp), rfl⟩))
    | (show E4 _ _ _ _ _ _ _; first
      | refine dQ vLe ?_)
    | (show E5 _ _ _ _ _ _ _; first
      | refine tSf (α := S46) (β := Int) (fun y z => { y with f1 := z }) (fun z => AV.int .i64 z) ?_)
    | with_reducible refine mI h (fun hc h => ?_)
    | with_reducible refine mE h (fun hc h => ?_)
    | with_reducible refine mS h (fun h => ?_)
    | refine mT h (fun h => ?_)
    | refine mF h (fun h => ?_)
    | (cases h; done)
theorem marks_Set_Get.does {k : Nat} {p0_0 : Int} {p0_1 : Int} {p0_2 : List (S46)} {a1 : Int} {r : (Int × Int × Bool × Int)} (h : marks_Set_Get.f k p0_0 p0_1 p0_2 a1 = some r) : DoesL Try.prog 17 [.int .i64 a1] [.int .i64 p0_0, .int .i64 p0_1, .own 3 (p0_2.map Enc.enc)] (fun x c => x = .tup [.agg [.int .i64 r.1, .int .i64 r.2.1, .bool r.2.2.1], .int .i64 r.2.2.2] ∧ c = [.int .i64 p0_0, .int .i64 p0_1, .own 3 (p0_2.map Enc.enc)]) := by
  unfold marks_Set_Get.f at h
  try simp only [rdc46, rdc46', rq_T46, rq_T51, rq_T34, rq_T56, rq_I, rq_bt, wrap64, bl, tl_eq, tl_lit, tl_nil, Bool.false_eq_true, if_false, if_true] at h
  refine doesL_walk 2 (F := cfgL []) tb_ok mixed Try.func17 rfl (fun T hT => ?_)
  repeat' first
    | (show E3 _ _ _ _ _ _ _ _; first
      | refine oQ vE ?_
      | refine oQ vEv ?_
      | refine oQ vEo ?_
      | refine oLe vLe ?_
      | refine oB ?_
      | refine oLd ?_
      | refine mB h (fun t ht h => oL (marks_Set_find.does ht) ?_)
      | refine oW ?_
      | refine n_reg [0, 1, 4, 5, 6, 11] ?_
      | with_reducible refine mI h (fun hc h => ?_)
      | with_reducible refine mE h (fun hc h => ?_)
      | with_reducible refine mS h (fun h => ?_)
      | refine oWs ?_
      | refine oWl ?_)
    | (show E1 _ _ _ _ _ _ _; first
      | refine c_seq ?_
      | refine c_reg ?_
      | refine c_ret ?_
      | refine c_skip ?_
      | refine c_tt ?_
      | refine c_ff ?_
      | refine c_if h (fun hc h => ?_) (fun hc h => ?_)
      | refine c_fi h (fun hc h => ?_) (fun hc h => ?_)
      | with_reducible refine mI h (fun hc h => ?_)
      | with_reducible refine mE h (fun hc h => ?_)
      | with_reducible refine mS h (fun h => ?_)
      | refine c_ifs h (fun hc h => ?_) (fun hc h => ?_)
      | refine c_fis h (fun hc h => ?_) (fun hc h => ?_)
      | refine c_dt ?_
      | refine c_df ?_)
    | (show E2 _ _ _ _ _ _ _; first
      | refine n_seq ?_
      | (refine n_endsL hT ?_; cases h; first | exact ⟨rfl, rfl⟩ | exact ⟨congrArg AV.bool (by rw [Bool.eq_iff_iff]; simp), rfl⟩))
    | (show E4 _ _ _ _ _ _ _; first
      | refine dQ vLe ?_)
    | with_reducible refine mI h (fun hc h => ?_)
    | with_reducible refine mE h (fun hc h => ?_)
    | with_reducible refine mS h (fun h => ?_)
    | refine mT h (fun h => ?_)
    | refine mF h (fun h => ?_)
    | (cases h; done)
theorem regletlaw16_step.does {k : Nat} {p0_0 : Int} {p0_1 : Int} {p0_2 : List (S46)} {a1_0 : Int} {a1_1 : Int} {l1_2 : List (S51)} {a2_0 : Int} {a2_1 : Int} {a2_2 : Int} {a2_3 : Bool} {r : (Int × Int × (List (S51)) × Bool × Int × Int × (List (S46)))} (h : regletlaw16_step.f k p0_0 p0_1 p0_2 a1_0 a1_1 l1_2 a2_0 a2_1 a2_2 a2_3 = some r) : DoesL Try.prog 16 [.agg [.int .i64 a1_0, .int .i64 a1_1, .sl (l1_2.map Enc.enc)], .agg [.int .i64 a2_0, .int .i64 a2_1, .int .i64 a2_2, .bool a2_3]] [.int .i64 p0_0, .int .i64 p0_1, .own 3 (p0_2.map Enc.enc)] (fun x c => x = .tup [.agg [.int .i64 r.1, .int .i64 r.2.1, .sl (r.2.2.1.map Enc.enc)], .bool r.2.2.2.1] ∧ c = [.int .i64 r.2.2.2.2.1, .int .i64 r.2.2.2.2.2.1, .own 3 (r.2.2.2.2.2.2.map Enc.enc)]) := by
  unfold regletlaw16_step.f at h
  try simp only [rdc46, rdc46', rq_T46, rq_T51, rq_T34, rq_T56, rq_I, rq_bt, wrap64, bl, tl_eq, tl_lit, tl_nil, Bool.false_eq_true, if_false, if_true] at h
  refine doesL_walk 3 (F := cfgL [(8, 1600000000), (11, 1600000000), (14, 1600000000), (17, 400000000)]) tb_ok mixed Try.func16 rfl (fun T hT => ?_)
  repeat' first
    | (show E3 _ _ _ _ _ _ _ _; first
      | refine oQ vpt ?_
      | refine oQ vpf ?_
      | refine oLd ?_
      | refine mB h (fun t ht h => oL (marks_Set_Put.does ht) ?_)
      | refine oW ?_
      | refine n_reg [0, 1, 2, 4, 5, 6, 7, 8, 9, 10, 11, 12, 13, 14, 15, 16, 17, 18, 19, 20, 22, 23, 53, 73, 93, 113] ?_
      | refine gYq vpt ?_
      | refine gYq vpf ?_
      | refine gLe vLe ?_
      | refine gN ?_
      | refine gNf ?_
      | refine gY ?_
      | refine gT ?_
      | refine mB h (fun t ht h => oC (vC (fun G => regletref16_Put.does ht G)) ?_)
      | refine mB h (fun t ht h => oC (vC (fun G => regletref16_Insert.does ht G)) ?_)
      | refine mB h (fun t ht h => oC (vC (fun G => regletref16_Delete.does ht G)) ?_)
      | refine mB h (fun t ht h => oC (vC (fun G => regletref16_Move.does ht G)) ?_)
      | refine mB h (fun t ht h => oC (vC (fun G => regletref16_Drop.does ht G)) ?_)
      | refine gif h (fun hc h => ?_) (fun hc h => ?_)
      | refine gfi h (fun hc h => ?_) (fun hc h => ?_)
      | with_reducible refine mI h (fun hc h => ?_)
      | with_reducible refine mE h (fun hc h => ?_)
      | with_reducible refine mS h (fun h => ?_)
      | refine oWs ?_
      | refine oWl ?_
      | refine gYs ?_
      | refine gifs h (fun hc h => ?_) (fun hc h => ?_)
      | refine gfis h (fun hc h => ?_) (fun hc h => ?_)
      | (fail_if_success (refine g_lit ?_)); refine g_dt ?_
      | (fail_if_success (refine g_lit ?_)); refine g_df ?_)
    | (show E1 _ _ _ _ _ _ _; first
      | (show E1 _ _ _ (.region 8 _ _) _ _ _; refine fzo (.l 13 2) ?_)
      | (show E1 _ _ _ (.region 11 _ _) _ _ _; refine fzo (.l 15 2) ?_)
      | (show E1 _ _ _ (.region 14 _ _) _ _ _; refine fzo (.l 17 2) ?_)
      | (show E1 _ _ _ (.region 17 _ _) _ _ _; refine fzo (.l 19 2) ?_)
      | refine c_seq ?_
      | refine c_reg ?_
      | (show E1 _ _ _ (.region 17 _ _) _ _ _; refine c_mixf [4, 7, 8] [0, 1, 2, 3, 5] ?_)
      | (show E1 _ _ _ (.region 14 _ _) _ _ _; refine c_mixf [6, 9, 10] [0, 1, 2, 3, 4, 5, 7] ?_)
      | (show E1 _ _ _ (.region 11 _ _) _ _ _; refine c_mixf [6, 9, 10] [0, 1, 2, 3, 4, 5, 7] ?_)
      | (show E1 _ _ _ (.region 8 _ _) _ _ _; refine c_mixf [6, 9, 10] [0, 1, 2, 3, 4, 5, 7] ?_)
      | refine c_drwf ?_
      | refine c_drw ?_
      | refine c_blk ?_
      | refine c_ret ?_
      | refine c_skip ?_
      | refine c_tt ?_
      | refine c_ff ?_
      | refine c_if h (fun hc h => ?_) (fun hc h => ?_)
      | refine c_fi h (fun hc h => ?_) (fun hc h => ?_)
      | with_reducible refine mI h (fun hc h => ?_)
      | with_reducible refine mE h (fun hc h => ?_)
      | with_reducible refine mS h (fun h => ?_)
      | refine c_ifs h (fun hc h => ?_) (fun hc h => ?_)
      | refine c_fis h (fun hc h => ?_) (fun hc h => ?_)
      | refine c_dt ?_
      | refine c_df ?_)
    | (show E2 _ _ _ _ _ _ _; first
      | refine n_seq ?_
      | (refine n_endsL hT ?_; cases h; first | exact ⟨rfl, rfl⟩ | exact ⟨congrArg AV.bool (by rw [Bool.eq_iff_iff]; simp), rfl⟩))
    | (show E4 _ _ _ _ _ _ _; first
      | refine dQ vpt ?_
      | refine dQ vpf ?_
      | refine dW ?_
      | refine dE ?_
      | refine dM1 [6, 9, 10] 6 [0, 7] [64, 71] [9, 10] ?_
      | refine dM1 [9, 10] 9 [7, 8] [71, 72] [10] ?_
      | refine dM1 [10] 10 [] [] [] ?_
      | refine dM0 ?_
      | refine dM1 [6, 9, 10] 6 [0, 7] [84, 91] [9, 10] ?_
      | refine dM1 [9, 10] 9 [7, 8] [91, 92] [10] ?_
      | refine dM1 [10] 10 [] [] [] ?_
      | refine dM0 ?_
      | refine dM1 [6, 9, 10] 6 [0, 7] [104, 111] [9, 10] ?_
      | refine dM1 [9, 10] 9 [7, 8] [111, 112] [10] ?_
      | refine dM1 [10] 10 [] [] [] ?_
      | refine dM0 ?_
      | refine dM1 [4, 7, 8] 4 [0, 5] [122, 127] [7, 8] ?_
      | refine dM1 [7, 8] 7 [5, 6] [127, 128] [8] ?_
      | refine dM1 [8] 8 [] [] [] ?_
      | refine dM0 ?_)
    | (show E5 _ _ _ _ _ _ _; first
      | refine mB h (fun t ht h => tL (marks_Set_Drop.does ht) ?_)
      | refine mB h (fun t ht h => tL (marks_Set_Insert.does ht) ?_)
      | refine mB h (fun t ht h => tL (marks_Set_Delete.does ht) ?_)
      | refine mB h (fun t ht h => tL (marks_Set_Move.does ht) ?_)
      | refine tQ vpt ?_
      | refine tQ vpf ?_
      | refine tW ?_
      | refine n_drw [0, 1, 2, 4, 5, 6, 7, 8, 9, 10, 11, 12, 13, 14, 15, 16, 17, 18, 19, 20, 22, 23, 53, 73, 93, 113] ?_
      | refine n_stgf [6, 9, 10] [0, 1, 2, 3, 4, 5, 7] ?_
      | refine n_stgf [9, 10] [0, 7, 8] ?_
      | refine n_stgf [10] [7, 8] ?_
      | refine n_stgf [] [] ?_
      | refine n_stgf [6, 9, 10] [0, 1, 2, 3, 4, 5, 7] ?_
      | refine n_stgf [9, 10] [0, 7, 8] ?_
      | refine n_stgf [10] [7, 8] ?_
      | refine n_stgf [] [] ?_
      | refine n_stgf [6, 9, 10] [0, 1, 2, 3, 4, 5, 7] ?_
      | refine n_stgf [9, 10] [0, 7, 8] ?_
      | refine n_stgf [10] [7, 8] ?_
      | refine n_stgf [] [] ?_
      | refine n_stgf [4, 7, 8] [0, 1, 2, 3, 5] ?_
      | refine n_stgf [7, 8] [0, 5, 6] ?_
      | refine n_stgf [8] [5, 6] ?_
      | refine n_stgf [] [] ?_)
    | with_reducible refine mI h (fun hc h => ?_)
    | with_reducible refine mE h (fun hc h => ?_)
    | with_reducible refine mS h (fun h => ?_)
    | refine mT h (fun h => ?_)
    | refine mF h (fun h => ?_)
    | (cases h; done)
end Go.AL.X
