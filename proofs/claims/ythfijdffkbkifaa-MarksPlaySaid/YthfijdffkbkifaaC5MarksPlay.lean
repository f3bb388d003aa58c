/- What each function does: it answers as its model tells, and changes nothing (in 7 texts, numbered 6). -/
import Derived.Test.YthfijdffkbkifaaC0MarksPlay
import Derived.Test.YthfijdffkbkifaaC1MarksPlay
import Derived.Test.YthfijdffkbkifaaC2MarksPlay
import Derived.Test.YthfijdffkbkifaaC3MarksPlay
import Derived.Test.YthfijdffkbkifaaC4MarksPlay
import Derived.Test.YthfijdffkbkifaaTMarksPlay
namespace Go.AL.X
open Go.Proofs Go.Proofs.Ythfijdffkbkifaa.PMarksPlay
set_option linter.unusedVariables false
set_option linter.unusedSimpArgs false
set_option maxRecDepth 100000
set_option maxHeartbeats 16000000
theorem marks_Set_Get.does {k : Nat} {p0_0 : Int} {p0_1 : Int} {p0_2 : List (S46)} {a1 : Int} {r : (Int × Int × Bool × Int)} (h : marks_Set_Get.f k p0_0 p0_1 p0_2 a1 = some r) : DoesL Try.prog 17 [.int .i64 a1] [.int .i64 p0_0, .int .i64 p0_1, .own 3 (p0_2.map Enc.enc)] (fun x c => x = .tup [.agg [.int .i64 r.1, .int .i64 r.2.1, .bool r.2.2.1], .int .i64 r.2.2.2] ∧ c = [.int .i64 p0_0, .int .i64 p0_1, .own 3 (p0_2.map Enc.enc)]) := by
  unfold marks_Set_Get.f at h
  try simp only [rdc46, rdc46', rq_T46, rq_T51, rq_T34, rq_bt, wrap64, bl, tl_eq, tl_lit, tl_nil, Bool.false_eq_true, if_false, if_true] at h
  refine doesL_walk 2 (F := cfgL []) tb_ok mixed Try.func17 rfl (fun T hT => ?_)
  repeat' first
    | (show E3 _ _ _ _ _ _ _ _; first
      | refine oQ vE ?_
      | refine oQ vEv ?_
      | refine oQ vEo ?_
      | refine oLe vLe ?_
      | refine oB ?_
      | refine oLd ?_
      | refine mB h (fun t ht h => oL (marks_Set_find.does ht) ?_)
      | refine oW ?_
      | refine n_reg [0, 1, 4, 5, 6, 11] ?_
      | with_reducible refine mI h (fun hc h => ?_)
      | with_reducible refine mE h (fun hc h => ?_)
      | with_reducible refine mS h (fun h => ?_)
      | refine oWs ?_
      | refine oWl ?_)
    | (show E1 _ _ _ _ _ _ _; first
      | refine c_seq ?_
      | refine c_reg ?_
      | refine c_ret ?_
      | refine c_skip ?_
      | refine c_tt ?_
      | refine c_ff ?_
      | refine c_if h (fun hc h => ?_) (fun hc h => ?_)
      | refine c_fi h (fun hc h => ?_) (fun hc h => ?_)
      | with_reducible refine mI h (fun hc h => ?_)
      | with_reducible refine mE h (fun hc h => ?_)
      | with_reducible refine mS h (fun h => ?_)
      | refine c_ifs h (fun hc h => ?_) (fun hc h => ?_)
      | refine c_fis h (fun hc h => ?_) (fun hc h => ?_)
      | refine c_dt ?_
      | refine c_df ?_)
    | (show E2 _ _ _ _ _ _ _; first
      | refine n_seq ?_
      | (refine n_endsL hT ?_; cases h; first | exact ⟨rfl, rfl⟩ | exact ⟨congrArg AV.bool (by rw [Bool.eq_iff_iff]; simp), rfl⟩))
    | (show E4 _ _ _ _ _ _ _; first
      | refine dQ vLe ?_)
    | with_reducible refine mI h (fun hc h => ?_)
    | with_reducible refine mE h (fun hc h => ?_)
    | with_reducible refine mS h (fun h => ?_)
    | refine mT h (fun h => ?_)
    | refine mF h (fun h => ?_)
    | (cases h; done)
theorem regletlaw16_step.does {k : Nat} {p0_0 : Int} {p0_1 : Int} {p0_2 : List (S46)} {a1_0 : Int} {a1_1 : Int} {l1_2 : List (S51)} {a2_0 : Int} {a2_1 : Int} {a2_2 : Int} {a2_3 : Bool} {r : (Int × Int × (List (S51)) × Bool × Int × Int × (List (S46)))} (h : regletlaw16_step.f k p0_0 p0_1 p0_2 a1_0 a1_1 l1_2 a2_0 a2_1 a2_2 a2_3 = some r) : DoesL Try.prog 16 [.agg [.int .i64 a1_0, .int .i64 a1_1, .sl (l1_2.map Enc.enc)], .agg [.int .i64 a2_0, .int .i64 a2_1, .int .i64 a2_2, .bool a2_3]] [.int .i64 p0_0, .int .i64 p0_1, .own 3 (p0_2.map Enc.enc)] (fun x c => x = .tup [.agg [.int .i64 r.1, .int .i64 r.2.1, .sl (r.2.2.1.map Enc.enc)], .bool r.2.2.2.1] ∧ c = [.int .i64 r.2.2.2.2.1, .int .i64 r.2.2.2.2.2.1, .own 3 (r.2.2.2.2.2.2.map Enc.enc)]) := by
  unfold regletlaw16_step.f at h
  try simp only [rdc46, rdc46', rq_T46, rq_T51, rq_T34, rq_bt, wrap64, bl, tl_eq, tl_lit, tl_nil, Bool.false_eq_true, if_false, if_true] at h
  refine doesL_walk 3 (F := cfgL [(8, 1600000000), (11, 1600000000), (14, 1600000000), (17, 400000000)]) tb_ok mixed Try.func16 rfl (fun T hT => ?_)
  repeat' first
    | (show E3 _ _ _ _ _ _ _ _; first
      | refine oQ vpt ?_
      | refine oQ vpf ?_
      | refine oLd ?_
      | refine mB h (fun t ht h => oL (marks_Set_Put.does ht) ?_)
      | refine oW ?_
      | refine n_reg [0, 1, 2, 4, 5, 6, 7, 8, 9, 10, 11, 12, 13, 14, 15, 16, 17, 18, 19, 20, 22, 23, 53, 73, 93, 113] ?_
      | refine gYq vpt ?_
      | refine gYq vpf ?_
      | refine gLe vLe ?_
      | refine gN ?_
      | refine gNf ?_
      | refine gY ?_
      | refine gT ?_
      | refine mB h (fun t ht h => oC (vC (fun G => regletref16_Put.does ht G)) ?_)
      | refine mB h (fun t ht h => oC (vC (fun G => regletref16_Insert.does ht G)) ?_)
      | refine mB h (fun t ht h => oC (vC (fun G => regletref16_Delete.does ht G)) ?_)
      | refine mB h (fun t ht h => oC (vC (fun G => regletref16_Move.does ht G)) ?_)
      | refine mB h (fun t ht h => oC (vC (fun G => regletref16_Drop.does ht G)) ?_)
      | refine gif h (fun hc h => ?_) (fun hc h => ?_)
      | refine gfi h (fun hc h => ?_) (fun hc h => ?_)
      | with_reducible refine mI h (fun hc h => ?_)
      | with_reducible refine mE h (fun hc h => ?_)
      | with_reducible refine mS h (fun h => ?_)
      | refine oWs ?_
      | refine oWl ?_
      | refine gYs ?_
      | refine gifs h (fun hc h => ?_) (fun hc h => ?_)
      | refine gfis h (fun hc h => ?_) (fun hc h => ?_)
      | (fail_if_success (refine g_lit ?_)); refine g_dt ?_
      | (fail_if_success (refine g_lit ?_)); refine g_df ?_)
    | (show E1 _ _ _ _ _ _ _; first
      | (show E1 _ _ _ (.region 8 _ _) _ _ _; refine fzo (.l 13 2) ?_)
      | (show E1 _ _ _ (.region 11 _ _) _ _ _; refine fzo (.l 15 2) ?_)
      | (show E1 _ _ _ (.region 14 _ _) _ _ _; refine fzo (.l 17 2) ?_)
      | (show E1 _ _ _ (.region 17 _ _) _ _ _; refine fzo (.l 19 2) ?_)
      | refine c_seq ?_
      | refine c_reg ?_
      | (show E1 _ _ _ (.region 17 _ _) _ _ _; refine c_mixf [4, 7, 8] [0, 1, 2, 3, 5] ?_)
      | (show E1 _ _ _ (.region 14 _ _) _ _ _; refine c_mixf [6, 9, 10] [0, 1, 2, 3, 4, 5, 7] ?_)
      | (show E1 _ _ _ (.region 11 _ _) _ _ _; refine c_mixf [6, 9, 10] [0, 1, 2, 3, 4, 5, 7] ?_)
      | (show E1 _ _ _ (.region 8 _ _) _ _ _; refine c_mixf [6, 9, 10] [0, 1, 2, 3, 4, 5, 7] ?_)
      | refine c_drwf ?_
      | refine c_drw ?_
      | refine c_blk ?_
      | refine c_ret ?_
      | refine c_skip ?_
      | refine c_tt ?_
      | refine c_ff ?_
      | refine c_if h (fun hc h => ?_) (fun hc h => ?_)
      | refine c_fi h (fun hc h => ?_) (fun hc h => ?_)
      | with_reducible refine mI h (fun hc h => ?_)
      | with_reducible refine mE h (fun hc h => ?_)
      | with_reducible refine mS h (fun h => ?_)
      | refine c_ifs h (fun hc h => ?_) (fun hc h => ?_)
      | refine c_fis h (fun hc h => ?_) (fun hc h => ?_)
      | refine c_dt ?_
      | refine c_df ?_)
    | (show E2 _ _ _ _ _ _ _; first
      | refine n_seq ?_
      | (refine n_endsL hT ?_; cases h; first | exact ⟨rfl, rfl⟩ | exact ⟨congrArg AV.bool (by rw [Bool.eq_iff_iff]; simp), rfl⟩))
    | (show E4 _ _ _ _ _ _ _; first
      | refine dQ vpt ?_
      | refine dQ vpf ?_
      | refine dW ?_
      | refine dE ?_
      | refine dM1 [6, 9, 10] 6 [0, 7] [64, 71] [9, 10] ?_
      | refine dM1 [9, 10] 9 [7, 8] [71, 72] [10] ?_
      | refine dM1 [10] 10 [] [] [] ?_
      | refine dM0 ?_
      | refine dM1 [6, 9, 10] 6 [0, 7] [84, 91] [9, 10] ?_
      | refine dM1 [9, 10] 9 [7, 8] [91, 92] [10] ?_
      | refine dM1 [10] 10 [] [] [] ?_
      | refine dM0 ?_
      | refine dM1 [6, 9, 10] 6 [0, 7] [104, 111] [9, 10] ?_
      | refine dM1 [9, 10] 9 [7, 8] [111, 112] [10] ?_
      | refine dM1 [10] 10 [] [] [] ?_
      | refine dM0 ?_
      | refine dM1 [4, 7, 8] 4 [0, 5] [122, 127] [7, 8] ?_
      | refine dM1 [7, 8] 7 [5, 6] [127, 128] [8] ?_
      | refine dM1 [8] 8 [] [] [] ?_
      | refine dM0 ?_)
    | (show E5 _ _ _ _ _ _ _; first
      | refine mB h (fun t ht h => tL (marks_Set_Drop.does ht) ?_)
      | refine mB h (fun t ht h => tL (marks_Set_Insert.does ht) ?_)
      | refine mB h (fun t ht h => tL (marks_Set_Delete.does ht) ?_)
      | refine mB h (fun t ht h => tL (marks_Set_Move.does ht) ?_)
      | refine tQ vpt ?_
      | refine tQ vpf ?_
      | refine tW ?_
      | refine n_drw [0, 1, 2, 4, 5, 6, 7, 8, 9, 10, 11, 12, 13, 14, 15, 16, 17, 18, 19, 20, 22, 23, 53, 73, 93, 113] ?_
      | refine n_stgf [6, 9, 10] [0, 1, 2, 3, 4, 5, 7] ?_
      | refine n_stgf [9, 10] [0, 7, 8] ?_
      | refine n_stgf [10] [7, 8] ?_
      | refine n_stgf [] [] ?_
      | refine n_stgf [6, 9, 10] [0, 1, 2, 3, 4, 5, 7] ?_
      | refine n_stgf [9, 10] [0, 7, 8] ?_
      | refine n_stgf [10] [7, 8] ?_
      | refine n_stgf [] [] ?_
      | refine n_stgf [6, 9, 10] [0, 1, 2, 3, 4, 5, 7] ?_
      | refine n_stgf [9, 10] [0, 7, 8] ?_
      | refine n_stgf [10] [7, 8] ?_
      | refine n_stgf [] [] ?_
      | refine n_stgf [4, 7, 8] [0, 1, 2, 3, 5] ?_
      | refine n_stgf [7, 8] [0, 5, 6] ?_
      | refine n_stgf [8] [5, 6] ?_
      | refine n_stgf [] [] ?_)
    | with_reducible refine mI h (fun hc h => ?_)
    | with_reducible refine mE h (fun hc h => ?_)
    | with_reducible refine mS h (fun h => ?_)
    | refine mT h (fun h => ?_)
    | refine mF h (fun h => ?_)
    | (cases h; done)
theorem regletlaw16_played.does {k : Nat} {a0 : Int} {l1 : List (S34)} {r : ((Option (Int × Int × (List (S46)))) × Int × Int × (List (S51)))} (h : regletlaw16_played.f k a0 l1 = some r) : Does Try.prog false 14 [.int .i64 a0, .sl (l1.map Enc.enc)] O0 (fun x G_ => match r.1 with | none => x = .tup [.nilp, .agg [.int .i64 r.2.1, .int .i64 r.2.2.1, .sl (r.2.2.2.map Enc.enc)]] ∧ G_ = O0 | some b => ∃ id, x = .tup [.ptr id 0, .agg [.int .i64 r.2.1, .int .i64 r.2.2.1, .sl (r.2.2.2.map Enc.enc)]] ∧ G_ = Objs.set O0 id [.int .i64 b.1, .int .i64 b.2.1, .own 3 (b.2.2.map Enc.enc)]) := by
  unfold regletlaw16_played.f at h
  try simp only [rdc46, rdc46', rq_T46, rq_T51, rq_T34, rq_bt, wrap64, bl, tl_eq, tl_lit, tl_nil, Bool.false_eq_true, if_false, if_true] at h
  refine does_walk 2 (F := cfgL [(4, 2), (8, 7232000000), (10, 2), (12, 3)]) tb_ok mixed Try.func14 rfl (fun T hT => ?_)
  repeat' first
    | (show E3 _ _ _ _ _ _ _ _; first
      | refine oQ vL ?_
      | refine oQ vE ?_
      | refine oQ vpt ?_
      | refine oQ vpf ?_
      | refine oB ?_
      | refine oLd ?_
      | (refine mB h (fun t ht h => ?_); obtain ⟨_ | ⟨b0, b1, b2⟩, ts⟩ := t <;> refine oP (marks_New.does ht) (fun r_ G_ hp => ?_) (fun r_ G_ hp => ?_) <;> first | (obtain ⟨rfl, rfl⟩ := hp; first | exact ⟨rfl, rfl⟩ | (try simp only at h)) | (obtain ⟨id, rfl, rfl⟩ := hp; first | exact ⟨rfl, rfl⟩ | (try simp only at h)))
      | refine oW ?_
      | refine n_reg [0, 1, 4, 5, 6, 7, 8, 9, 10, 11, 24, 33, 47] ?_
      | refine gYq vL ?_
      | refine gYq vE ?_
      | refine gYq vpt ?_
      | refine gYq vpf ?_
      | refine gN ?_
      | refine gNf ?_
      | refine gY ?_
      | refine gT ?_
      | refine gif h (fun hc h => ?_) (fun hc h => ?_)
      | refine gfi h (fun hc h => ?_) (fun hc h => ?_)
      | with_reducible refine mI h (fun hc h => ?_)
      | with_reducible refine mE h (fun hc h => ?_)
      | with_reducible refine mS h (fun h => ?_)
      | refine oWs ?_
      | refine oWl ?_
      | refine gYs ?_
      | refine gifs h (fun hc h => ?_) (fun hc h => ?_)
      | refine gfis h (fun hc h => ?_) (fun hc h => ?_)
      | (fail_if_success (refine g_lit ?_)); refine g_dt ?_
      | (fail_if_success (refine g_lit ?_)); refine g_df ?_)
    | (show E1 _ _ _ _ _ _ _; first
      | (show E1 _ _ _ (.region 4 _ _) _ _ _; refine fzo (.l 6 2) ?_)
      | (show E1 _ _ _ (.region 8 _ _) _ _ _; refine fzo (.l 6 2) ?_)
      | (show E1 _ _ _ (.region 10 _ _) _ _ _; refine fzo (.l 6 2) ?_)
      | (show E1 _ _ _ (.region 12 _ _) _ _ _; refine fzo (.l 6 2) ?_)
      | refine c_opn 4 ?_
      | refine c_opn 7 ?_
      | (show E1 _ _ _ (.region 8 _ _) _ _ _; refine c_mixf [6, 10, 11, 12] [0, 1, 2, 3, 4, 5] ?_)
      | refine c_seq ?_
      | refine c_reg ?_
      | refine c_drwf ?_
      | refine c_drw ?_
      | refine c_blk ?_
      | refine c_exit ?_
      | refine c_ret ?_
      | refine c_skip ?_
      | refine c_tt ?_
      | refine c_ff ?_
      | refine c_if h (fun hc h => ?_) (fun hc h => ?_)
      | refine c_fi h (fun hc h => ?_) (fun hc h => ?_)
      | with_reducible refine mI h (fun hc h => ?_)
      | with_reducible refine mE h (fun hc h => ?_)
      | with_reducible refine mS h (fun h => ?_)
      | refine c_ifs h (fun hc h => ?_) (fun hc h => ?_)
      | refine c_fis h (fun hc h => ?_) (fun hc h => ?_)
      | (refine c_del ?_; refine lp8 (fun x1 x9 x6_0 x6_1 x6_2 x7_0 x7_1 x7_2 => [(1, .sl (x1.map Enc.enc)), (9, .int .i64 x9), (6, .lptr 6 0), (7, .lptr 7 0), (5, .lptr 5 0)]) (fun x1 x9 x6_0 x6_1 x6_2 x7_0 x7_1 x7_2 => [(6, [.int .i64 x6_0, .int .i64 x6_1, .sl (x6_2.map Enc.enc)]), (7, [.int .i64 x7_0, .int .i64 x7_1, .own 3 (x7_2.map Enc.enc)]), (5, [.int .i64 0, .int .i64 0, .own 3 []])]) (fun k_ x1 x9 x6_0 x6_1 x6_2 x7_0 x7_1 x7_2 => k_ ≤ k ∧ regletlaw16_played.l0 k_ x1 x9 x6_0 x6_1 x6_2 x7_0 x7_1 x7_2 = some r) ⟨Nat.le_refl _, h⟩ ?_; intro k x1 x9 x6_0 x6_1 x6_2 x7_0 x7_1 x7_2 h; obtain ⟨hk, h⟩ := h; rcases k with _ | k; (simp only [regletlaw16_played.l0] at h; cases h); simp only [regletlaw16_played.l0, rdc46, rdc46', rq_T46, rq_T51, rq_T34, rq_bt, wrap64, bl, tl_eq, tl_lit, tl_nil, Bool.false_eq_true, if_false, if_true] at h)
      | (refine lp8 (fun x1 x9 x6_0 x6_1 x6_2 x7_0 x7_1 x7_2 => [(1, .sl (x1.map Enc.enc)), (9, .int .i64 x9), (6, .lptr 6 0), (7, .lptr 7 0), (5, .lptr 5 0)]) (fun x1 x9 x6_0 x6_1 x6_2 x7_0 x7_1 x7_2 => [(6, [.int .i64 x6_0, .int .i64 x6_1, .sl (x6_2.map Enc.enc)]), (7, [.int .i64 x7_0, .int .i64 x7_1, .own 3 (x7_2.map Enc.enc)]), (5, [.int .i64 0, .int .i64 0, .own 3 []])]) (fun k_ x1 x9 x6_0 x6_1 x6_2 x7_0 x7_1 x7_2 => k_ ≤ k ∧ regletlaw16_played.l0 k_ x1 x9 x6_0 x6_1 x6_2 x7_0 x7_1 x7_2 = some r) ⟨Nat.le_refl _, h⟩ ?_; intro k x1 x9 x6_0 x6_1 x6_2 x7_0 x7_1 x7_2 h; obtain ⟨hk, h⟩ := h; rcases k with _ | k; (simp only [regletlaw16_played.l0] at h; cases h); simp only [regletlaw16_played.l0, rdc46, rdc46', rq_T46, rq_T51, rq_T34, rq_bt, wrap64, bl, tl_eq, tl_lit, tl_nil, Bool.false_eq_true, if_false, if_true] at h)
      | refine c_dt ?_
      | refine c_df ?_)
    | (show E2 _ _ _ _ _ _ _; first
      | refine n_seq ?_
      | (refine n_endsP 4 4 hT (fun id => ?_); cases h; exact (show ∃ _, _ ∧ _ from ⟨id, rfl, rfl⟩))
      | (refine n_endsP 4 7 hT (fun id => ?_); cases h; exact (show ∃ _, _ ∧ _ from ⟨id, rfl, rfl⟩))
      | (refine n_ends hT ?_; cases h; exact (show _ ∧ _ from ⟨rfl, rfl⟩))
      | refine ag8 rfl ⟨by omega, h⟩)
    | (show E4 _ _ _ _ _ _ _; first
      | refine dQ vL ?_
      | refine dQ vE ?_
      | refine dQ vpt ?_
      | refine dQ vpf ?_
      | refine dW ?_
      | refine dE ?_
      | refine dM2 [6, 10, 11, 12] 6 [] [] [10, 11, 12] 10 [0, 1, 2, 3, 4, 5] [37, 38, 39, 40, 41, 42] [6, 11, 12] ?_ ?_
      | refine dM1 [10, 11, 12] 10 [7, 8, 9] [36, 44, 45] [11, 12] ?_
      | refine dM1 [6, 11, 12] 6 [] [] [11, 12] ?_
      | refine dM1 [11, 12] 11 [9] [45] [12] ?_
      | refine dM1 [12] 12 [] [] [] ?_
      | refine dM0 ?_)
    | (show E5 _ _ _ _ _ _ _; first
      | refine mB h (fun t ht h => tL (regletlaw16_step.does ht) ?_)
      | refine tQ vL ?_
      | refine tQ vE ?_
      | refine tQ vpt ?_
      | refine tQ vpf ?_
      | refine tW ?_
      | refine n_drw [0, 1, 4, 5, 6, 7, 8, 9, 10, 11, 24, 33, 47] ?_
      | refine n_stgf [6, 10, 11, 12] [0, 1, 2, 3, 4, 5] ?_
      | refine n_stgf [10, 11, 12] [7, 8, 9] ?_
      | refine n_stgf [6, 11, 12] [0, 1, 2, 3, 4, 5] ?_
      | refine n_stgf [11, 12] [7, 8, 9] ?_
      | refine n_stgf [12] [9] ?_
      | refine n_stgf [] [] ?_)
    | with_reducible refine mI h (fun hc h => ?_)
    | with_reducible refine mE h (fun hc h => ?_)
    | with_reducible refine mS h (fun h => ?_)
    | refine mT h (fun h => ?_)
    | refine mF h (fun h => ?_)
    | (cases h; done)
end Go.AL.X
