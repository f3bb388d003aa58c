/- What each function does: it answers as its model tells, and changes nothing (in 7 texts, numbered 1). -/
import Derived.Test.YthfijdffkbkifaaTMarksPlay
namespace Go.AL.X
open Go.Proofs Go.Proofs.Ythfijdffkbkifaa.PMarksPlay
set_option linter.unusedVariables false
set_option linter.unusedSimpArgs false
set_option maxRecDepth 100000
set_option maxHeartbeats 16000000
theorem marks_New.does {a0 : Int} {r : ((Option (Int × Int × (List (S46)))) × Int)} (h : marks_New.f a0 = some r) : Does Try.prog false 9 [.int .i64 a0] O0 (fun x G_ => match r.1 with | none => x = .tup [.nilp, .int .i64 r.2] ∧ G_ = O0 | some b => ∃ id, x = .tup [.ptr id 0, .int .i64 r.2] ∧ G_ = Objs.set O0 id [.int .i64 b.1, .int .i64 b.2.1, .own 3 (b.2.2.map Enc.enc)]) := by
  unfold marks_New.f at h
  try simp only [rdc46, rdc46', rq_T46, rq_T51, rq_T34, rq_bt, wrap64, bl, tl_eq, tl_lit, tl_nil, Bool.false_eq_true, if_false, if_true] at h
  refine does_walk 1 (F := cfgL []) tb_ok mixed Try.func9 rfl (fun T hT => ?_)
  repeat' first
    | (show E3 _ _ _ _ _ _ _ _; first
      | refine oQ vpt ?_
      | refine oQ vpf ?_
      | refine oB ?_
      | refine oW ?_
      | refine n_reg [0, 2, 3, 9] ?_
      | refine gYq vpt ?_
      | refine gYq vpf ?_
      | refine gN ?_
      | refine gNf ?_
      | refine gY ?_
      | refine gT ?_
      | refine gif h (fun hc h => ?_) (fun hc h => ?_)
      | refine gfi h (fun hc h => ?_) (fun hc h => ?_)
      | with_reducible refine mI h (fun hc h => ?_)
      | with_reducible refine mE h (fun hc h => ?_)
      | with_reducible refine mS h (fun h => ?_)
      | refine oWs ?_
      | refine oWl ?_
      | refine gYs ?_
      | refine gifs h (fun hc h => ?_) (fun hc h => ?_)
      | refine gfis h (fun hc h => ?_) (fun hc h => ?_)
      | (fail_if_success (refine g_lit ?_)); refine g_dt ?_
      | (fail_if_success (refine g_lit ?_)); refine g_df ?_)
    | (show E1 _ _ _ _ _ _ _; first
      | refine c_opn 2 ?_
      | refine c_seq ?_
      | refine c_reg ?_
      | refine c_ret ?_
      | refine c_skip ?_
      | refine c_tt ?_
      | refine c_ff ?_
      | refine c_if h (fun hc h => ?_) (fun hc h => ?_)
      | refine c_fi h (fun hc h => ?_) (fun hc h => ?_)
      | with_reducible refine mI h (fun hc h => ?_)
      | with_reducible refine mE h (fun hc h => ?_)
      | with_reducible refine mS h (fun h => ?_)
      | refine c_ifs h (fun hc h => ?_) (fun hc h => ?_)
      | refine c_fis h (fun hc h => ?_) (fun hc h => ?_)
      | refine c_dt ?_
      | refine c_df ?_)
    | (show E2 _ _ _ _ _ _ _; first
      | refine n_seq ?_
      | (refine n_endsP 2 2 hT (fun id => ?_); cases h; exact (show ∃ _, _ ∧ _ from ⟨id, rfl, rfl⟩))
      | (refine n_endsP 2 12 hT (fun id => ?_); cases h; exact (show ∃ _, _ ∧ _ from ⟨id, rfl, rfl⟩))
      | (refine n_ends hT ?_; cases h; exact (show _ ∧ _ from ⟨rfl, rfl⟩)))
    | with_reducible refine mI h (fun hc h => ?_)
    | with_reducible refine mE h (fun hc h => ?_)
    | with_reducible refine mS h (fun h => ?_)
    | refine mT h (fun h => ?_)
    | refine mF h (fun h => ?_)
    | (cases h; done)
theorem marks_Set_Put.does {p0_0 : Int} {p0_1 : Int} {p0_2 : List (S46)} {a1 : Int} {a2 : Bool} {r : (Int × Int × Int × Int × (List (S46)))} (h : marks_Set_Put.f p0_0 p0_1 p0_2 a1 a2 = some r) : DoesL Try.prog 10 [.int .i64 a1, .bool a2] [.int .i64 p0_0, .int .i64 p0_1, .own 3 (p0_2.map Enc.enc)] (fun x c => x = .tup [.int .i64 r.1, .int .i64 r.2.1] ∧ c = [.int .i64 r.2.2.1, .int .i64 r.2.2.2.1, .own 3 (r.2.2.2.2.map Enc.enc)]) := by
  unfold marks_Set_Put.f at h
  try simp only [rdc46, rdc46', rq_T46, rq_T51, rq_T34, rq_bt, wrap64, bl, tl_eq, tl_lit, tl_nil, Bool.false_eq_true, if_false, if_true] at h
  refine doesL_walk 3 (F := cfgL [(6, 1013)]) tb_ok mixed Try.func10 rfl (fun T hT => ?_)
  repeat' first
    | (show E3 _ _ _ _ _ _ _ _; first
      | refine oQ vL ?_
      | refine oQ vLv ?_
      | refine oQ vLo ?_
      | refine oQ vpt ?_
      | refine oQ vpf ?_
      | refine oBS ?_
      | refine oB ?_
      | refine oW ?_
      | refine n_reg [0, 1, 2, 6, 7, 8, 19] ?_
      | refine gYq vL ?_
      | refine gYq vLv ?_
      | refine gYq vLo ?_
      | refine gYq vpt ?_
      | refine gYq vpf ?_
      | refine gLe vLe ?_
      | refine gN ?_
      | refine gNf ?_
      | refine gY ?_
      | refine gT ?_
      | refine oAvd dec46 ?_
      | refine oAv (⟨_, _, _⟩ : S46) ?_
      | refine oA (⟨_, _, _⟩ : S46) ?_
      | refine oAe (⟨_, _, _⟩ : S46) ?_
      | refine oAl (⟨_, _, _⟩ : S46) ?_
      | refine oMv ?_
      | refine oM ?_
      | refine oMe ?_
      | refine gif h (fun hc h => ?_) (fun hc h => ?_)
      | refine gfi h (fun hc h => ?_) (fun hc h => ?_)
      | with_reducible refine mI h (fun hc h => ?_)
      | with_reducible refine mE h (fun hc h => ?_)
      | with_reducible refine mS h (fun h => ?_)
      | refine oWs ?_
      | refine oWl ?_
      | refine gYs ?_
      | refine gifs h (fun hc h => ?_) (fun hc h => ?_)
      | refine gfis h (fun hc h => ?_) (fun hc h => ?_)
      | (fail_if_success (refine g_lit ?_)); refine g_dt ?_
      | (fail_if_success (refine g_lit ?_)); refine g_df ?_)
    | (show E1 _ _ _ _ _ _ _; first
      | refine c_seq ?_
      | refine c_reg ?_
      | refine c_drwf ?_
      | refine c_drw ?_
      | refine c_blk ?_
      | refine c_ret ?_
      | refine c_skip ?_
      | refine c_tt ?_
      | refine c_ff ?_
      | refine c_if h (fun hc h => ?_) (fun hc h => ?_)
      | refine c_fi h (fun hc h => ?_) (fun hc h => ?_)
      | with_reducible refine mI h (fun hc h => ?_)
      | with_reducible refine mE h (fun hc h => ?_)
      | with_reducible refine mS h (fun h => ?_)
      | refine c_ifs h (fun hc h => ?_) (fun hc h => ?_)
      | refine c_fis h (fun hc h => ?_) (fun hc h => ?_)
      | refine c_dt ?_
      | refine c_df ?_)
    | (show E2 _ _ _ _ _ _ _; first
      | refine n_seq ?_
      | (refine n_endsL hT ?_; cases h; first | exact ⟨rfl, rfl⟩ | exact ⟨congrArg AV.bool (by rw [Bool.eq_iff_iff]; simp), rfl⟩))
    | (show E4 _ _ _ _ _ _ _; first
      | refine dQ vL ?_
      | refine dQ vLv ?_
      | refine dQ vLo ?_
      | refine dQ vpt ?_
      | refine dQ vpf ?_
      | refine dQ vBS ?_
      | refine dQ vBd ?_
      | refine dW ?_
      | refine dE ?_
      | refine dEl ?_ ?_)
    | (show E5 _ _ _ _ _ _ _; first
      | refine tAl (⟨_, _, _⟩ : S46) ?_
      | refine tA (⟨_, _, _⟩ : S46) ?_
      | refine tAe (⟨_, _, _⟩ : S46) ?_
      | refine tMl ?_
      | refine tM ?_
      | refine tMe ?_
      | refine tQ vL ?_
      | refine tQ vLv ?_
      | refine tQ vLo ?_
      | refine tQ vpt ?_
      | refine tQ vpf ?_
      | refine tW ?_
      | refine n_drw [0, 1, 2, 6, 7, 8, 19] ?_)
    | with_reducible refine mI h (fun hc h => ?_)
    | with_reducible refine mE h (fun hc h => ?_)
    | with_reducible refine mS h (fun h => ?_)
    | refine mT h (fun h => ?_)
    | refine mF h (fun h => ?_)
    | (cases h; done)
theorem marks_Set_find_1.does {a0_0 : Int} {a0_1 : Int} {a0_2 : Bool} {q1 : Int} {r : (Bool)} (h : marks_Set_find_1.f a0_0 a0_1 a0_2 q1 = some r) (G : Objs) : Does Try.prog true 37 [.agg [.int .i64 a0_0, .int .i64 a0_1, .bool a0_2], .ptrF [.int .i64 q1]] G (fun x _ => x = .bool r) := by
  unfold marks_Set_find_1.f at h
  try simp only [rdc46, rdc46', rq_T46, rq_T51, rq_T34, rq_bt, wrap64, bl, tl_eq, tl_lit, tl_nil, Bool.false_eq_true, if_false, if_true] at h
  refine does_walk 2 (F := cfg []) tb_ok mixed Try.func37 rfl (fun T hT => ?_)
  repeat' first
    | (show E3 _ _ _ _ _ _ _ _; first
      | refine oW ?_
      | refine n_reg [0, 1, 2, 3] ?_
      | with_reducible refine mI h (fun hc h => ?_)
      | with_reducible refine mE h (fun hc h => ?_)
      | with_reducible refine mS h (fun h => ?_)
      | refine oWs ?_
      | refine oWl ?_)
    | (show E1 _ _ _ _ _ _ _; first
      | refine c_seq ?_
      | refine c_reg ?_
      | refine c_ret ?_)
    | (show E2 _ _ _ _ _ _ _; first
      | refine n_seq ?_
      | (refine n_end hT ?_; cases h; first | rfl | exact congrArg AV.bool (by rw [Bool.eq_iff_iff]; simp)))
    | with_reducible refine mI h (fun hc h => ?_)
    | with_reducible refine mE h (fun hc h => ?_)
    | with_reducible refine mS h (fun h => ?_)
    | refine mT h (fun h => ?_)
    | refine mF h (fun h => ?_)
    | (cases h; done)
theorem marks_Set_Insert.does {k : Nat} {p0_0 : Int} {p0_1 : Int} {p0_2 : List (S46)} {a1 : Int} {a2 : Int} {r : (Int × Int × Int × (List (S46)))} (h : marks_Set_Insert.f k p0_0 p0_1 p0_2 a1 a2 = some r) : DoesL Try.prog 19 [.int .i64 a1, .int .i64 a2] [.int .i64 p0_0, .int .i64 p0_1, .own 3 (p0_2.map Enc.enc)] (fun x c => x = .int .i64 r.1 ∧ c = [.int .i64 r.2.1, .int .i64 r.2.2.1, .own 3 (r.2.2.2.map Enc.enc)]) := by
  unfold marks_Set_Insert.f at h
  try simp only [rdc46, rdc46', rq_T46, rq_T51, rq_T34, rq_bt, wrap64, bl, tl_eq, tl_lit, tl_nil, Bool.false_eq_true, if_false, if_true] at h
  refine doesL_walk 3 (F := cfgL []) tb_ok mixed Try.func19 rfl (fun T hT => ?_)
  repeat' first
    | (show E3 _ _ _ _ _ _ _ _; first
      | refine oQ vL ?_
      | refine oQ vLv ?_
      | refine oQ vLo ?_
      | refine oQ vE ?_
      | refine oQ vEv ?_
      | refine oQ vEo ?_
      | refine oQ vpt ?_
      | refine oQ vpf ?_
      | refine oLe vLe ?_
      | refine oW ?_
      | refine n_reg [0, 1, 2, 6, 7, 8, 9, 20, 23, 43, 44, 45, 73] ?_
      | refine gYq vL ?_
      | refine gYq vLv ?_
      | refine gYq vLo ?_
      | refine gYq vE ?_
      | refine gYq vEv ?_
      | refine gYq vEo ?_
      | refine gYq vpt ?_
      | refine gYq vpf ?_
      | refine gLe vLe ?_
      | refine gN ?_
      | refine gNf ?_
      | refine gY ?_
      | refine gT ?_
      | refine gif h (fun hc h => ?_) (fun hc h => ?_)
      | refine gfi h (fun hc h => ?_) (fun hc h => ?_)
      | with_reducible refine mI h (fun hc h => ?_)
      | with_reducible refine mE h (fun hc h => ?_)
      | with_reducible refine mS h (fun h => ?_)
      | refine oSf (α := S46) (β := Int) (fun y z => { y with f1 := z }) (fun z => AV.int .i64 z) ?_
      | refine oSfl (α := S46) (β := Int) (fun y z => { y with f1 := z }) (fun z => AV.int .i64 z) ?_
      | refine oWs ?_
      | refine oWl ?_
      | refine gYs ?_
      | refine gifs h (fun hc h => ?_) (fun hc h => ?_)
      | refine gfis h (fun hc h => ?_) (fun hc h => ?_)
      | (fail_if_success (refine g_lit ?_)); refine g_dt ?_
      | (fail_if_success (refine g_lit ?_)); refine g_df ?_)
    | (show E1 _ _ _ _ _ _ _; first
      | refine c_seq ?_
      | refine c_reg ?_
      | refine c_blk ?_
      | refine c_exit ?_
      | refine c_ret ?_
      | refine c_skip ?_
      | refine c_tt ?_
      | refine c_ff ?_
      | refine c_if h (fun hc h => ?_) (fun hc h => ?_)
      | refine c_fi h (fun hc h => ?_) (fun hc h => ?_)
      | with_reducible refine mI h (fun hc h => ?_)
      | with_reducible refine mE h (fun hc h => ?_)
      | with_reducible refine mS h (fun h => ?_)
      | refine c_ifs h (fun hc h => ?_) (fun hc h => ?_)
      | refine c_fis h (fun hc h => ?_) (fun hc h => ?_)
      | (refine lp7 (fun x1 x2 x43 x44 x1000000_0 x1000000_1 x1000000_2 => [(1, .int .i64 x1), (2, .int .i64 x2), (43, .int .i64 x43), (44, .int .i64 x44), (0, .lptr 1000000 0)]) (fun x1 x2 x43 x44 x1000000_0 x1000000_1 x1000000_2 => [(1000000, [.int .i64 x1000000_0, .int .i64 x1000000_1, .own 3 (x1000000_2.map Enc.enc)])]) (fun k_ x1 x2 x43 x44 x1000000_0 x1000000_1 x1000000_2 => k_ ≤ k ∧ marks_Set_Insert.l0 k_ x1 x2 x43 x44 x1000000_0 x1000000_1 x1000000_2 = some r) ⟨Nat.le_refl _, h⟩ ?_; intro k x1 x2 x43 x44 x1000000_0 x1000000_1 x1000000_2 h; obtain ⟨hk, h⟩ := h; rcases k with _ | k; (simp only [marks_Set_Insert.l0] at h; cases h); simp only [marks_Set_Insert.l0, rdc46, rdc46', rq_T46, rq_T51, rq_T34, rq_bt, wrap64, bl, tl_eq, tl_lit, tl_nil, Bool.false_eq_true, if_false, if_true] at h)
      | refine c_dt ?_
      | refine c_df ?_)
    | (show E2 _ _ _ _ _ _ _; first
      | refine n_seq ?_
      | (refine n_endL hT ?_; cases h; first | exact ⟨rfl, rfl⟩ | exact ⟨congrArg AV.bool (by rw [Bool.eq_iff_iff]; simp), rfl⟩)
      | refine ag7 rfl ⟨by omega, h⟩)
    | (show E4 _ _ _ _ _ _ _; first
      | refine dQ vLe ?_)
    | (show E5 _ _ _ _ _ _ _; first
      | refine tSf (α := S46) (β := Int) (fun y z => { y with f1 := z }) (fun z => AV.int .i64 z) ?_)
    | with_reducible refine mI h (fun hc h => ?_)
    | with_reducible refine mE h (fun hc h => ?_)
    | with_reducible refine mS h (fun h => ?_)
    | refine mT h (fun h => ?_)
    | refine mF h (fun h => ?_)
    | (cases h; done)
end Go.AL.X
