/- What each function does: it answers as its model tells, and changes nothing (in 7 texts, numbered 4). -/
import Derived.Test.YthfijdffkbkifaaC0MarksPlay
import Derived.Test.YthfijdffkbkifaaC2MarksPlay
import Derived.Test.YthfijdffkbkifaaTMarksPlay
namespace Go.AL.X
open Go.Proofs Go.Proofs.Ythfijdffkbkifaa.PMarksPlay
set_option linter.unusedVariables false
set_option linter.unusedSimpArgs false
set_option maxRecDepth 100000
set_option maxHeartbeats 16000000
theorem regletref16_All.does {k : Nat} {a0_0 : Int} {a0_1 : Int} {l0_2 : List (S51)} {r : ((List (S51)))} (h : regletref16_All.f k a0_0 a0_1 l0_2 = some r) (G : Objs) : Does Try.prog true 22 [.agg [.int .i64 a0_0, .int .i64 a0_1, .sl (l0_2.map Enc.enc)]] G (fun x _ => x = .sl (r.map Enc.enc)) := by
  unfold regletref16_All.f at h
  try simp only [rdc46, rdc46', rq_T46, rq_T51, rq_T34, rq_bt, wrap64, bl, tl_eq, tl_lit, tl_nil, Bool.false_eq_true, if_false, if_true] at h
  refine does_walk 1 (F := cfg [(6, 42), (9, 9)]) tb_ok mixed Try.func22 rfl (fun T hT => ?_)
  repeat' first
    | (show E3 _ _ _ _ _ _ _ _; first
      | refine oQ vL ?_
      | refine oQ vLv ?_
      | refine oQ vLo ?_
      | refine oQ vE ?_
      | refine oQ vEv ?_
      | refine oQ vEo ?_
      | refine oQ vSl ?_
      | refine oQ vSlv ?_
      | refine oQ vSh ?_
      | refine oQ vShv ?_
      | refine oQ vpt ?_
      | refine oQ vpf ?_
      | refine oLe vLe ?_
      | refine oBS ?_
      | refine oLd ?_
      | refine oW ?_
      | refine n_reg [0, 1, 2, 3, 4, 5, 6, 11, 59] ?_
      | refine gYq vL ?_
      | refine gYq vLv ?_
      | refine gYq vLo ?_
      | refine gYq vE ?_
      | refine gYq vEv ?_
      | refine gYq vEo ?_
      | refine gYq vSl ?_
      | refine gYq vSlv ?_
      | refine gYq vSh ?_
      | refine gYq vShv ?_
      | refine gYq vpt ?_
      | refine gYq vpf ?_
      | refine gLe vLe ?_
      | refine gN ?_
      | refine gNf ?_
      | refine gY ?_
      | refine gT ?_
      | refine oAvd dec51 ?_
      | refine oAv (⟨_, _, _⟩ : S51) ?_
      | refine oA (⟨_, _, _⟩ : S51) ?_
      | refine oAe (⟨_, _, _⟩ : S51) ?_
      | refine oAl (⟨_, _, _⟩ : S51) ?_
      | refine oMv ?_
      | refine oM ?_
      | refine oMe ?_
      | refine oMl ?_
      | refine oMv (a6 := by simp only [List.length_drop, List.length_append, List.length_take, List.length_cons, List.length_nil] at *; omega) ?_
      | refine oM (a6 := by simp only [List.length_drop, List.length_append, List.length_take, List.length_cons, List.length_nil] at *; omega) ?_
      | refine oMe (hm := sub_slD) (a6 := by simp only [List.length_drop, List.length_append, List.length_take, List.length_cons, List.length_nil] at *; omega) ?_
      | refine gif h (fun hc h => ?_) (fun hc h => ?_)
      | refine gfi h (fun hc h => ?_) (fun hc h => ?_)
      | with_reducible refine mI h (fun hc h => ?_)
      | with_reducible refine mE h (fun hc h => ?_)
      | with_reducible refine mS h (fun h => ?_)
      | refine oWs ?_
      | refine oWl ?_
      | refine gYs ?_
      | refine gifs h (fun hc h => ?_) (fun hc h => ?_)
      | refine gfis h (fun hc h => ?_) (fun hc h => ?_)
      | (fail_if_success (refine g_lit ?_)); refine g_dt ?_
      | (fail_if_success (refine g_lit ?_)); refine g_df ?_)
    | (show E1 _ _ _ _ _ _ _; first
      | refine c_seq ?_
      | refine c_reg ?_
      | refine c_drwf ?_
      | refine c_drw ?_
      | refine c_blk ?_
      | refine c_exit ?_
      | refine c_ret ?_
      | refine c_skip ?_
      | refine c_tt ?_
      | refine c_ff ?_
      | refine c_if h (fun hc h => ?_) (fun hc h => ?_)
      | refine c_fi h (fun hc h => ?_) (fun hc h => ?_)
      | with_reducible refine mI h (fun hc h => ?_)
      | with_reducible refine mE h (fun hc h => ?_)
      | with_reducible refine mS h (fun h => ?_)
      | refine c_ifs h (fun hc h => ?_) (fun hc h => ?_)
      | refine c_fis h (fun hc h => ?_) (fun hc h => ?_)
      | (refine lp5 (fun x3 x4 x181000 x181001 x181002 => [(3, .own 3 (x3.map Enc.enc)), (4, .int .i64 x4), (1, .lptr 1 0)]) (fun x3 x4 x181000 x181001 x181002 => [(1, [.int .i64 x181000, .int .i64 x181001, .sl (x181002.map Enc.enc)])]) (fun k_ x3 x4 x181000 x181001 x181002 => k_ ≤ k ∧ regletref16_All.l0 k_ x3 x4 x181000 x181001 x181002 = some r) ⟨Nat.le_refl _, h⟩ ?_; intro k x3 x4 x181000 x181001 x181002 h; obtain ⟨hk, h⟩ := h; rcases k with _ | k; (simp only [regletref16_All.l0] at h; cases h); simp only [regletref16_All.l0, rdc46, rdc46', rq_T46, rq_T51, rq_T34, rq_bt, wrap64, bl, tl_eq, tl_lit, tl_nil, Bool.false_eq_true, if_false, if_true] at h)
      | (refine lp6 (fun x3 x4 x5 x181000 x181001 x181002 => [(3, .own 3 (x3.map Enc.enc)), (4, .int .i64 x4), (5, .int .i64 x5), (1, .lptr 1 0)]) (fun x3 x4 x5 x181000 x181001 x181002 => [(1, [.int .i64 x181000, .int .i64 x181001, .sl (x181002.map Enc.enc)])]) (fun k_ x3 x4 x5 x181000 x181001 x181002 => k_ ≤ k ∧ regletref16_All.l1 k_ x3 x4 x5 x181000 x181001 x181002 = some r) ⟨Nat.le_refl _, h⟩ ?_; intro k x3 x4 x5 x181000 x181001 x181002 h; obtain ⟨hk, h⟩ := h; rcases k with _ | k; (simp only [regletref16_All.l1] at h; cases h); simp only [regletref16_All.l1, rdc46, rdc46', rq_T46, rq_T51, rq_T34, rq_bt, wrap64, bl, tl_eq, tl_lit, tl_nil, Bool.false_eq_true, if_false, if_true] at h)
      | refine c_dt ?_
      | refine c_df ?_)
    | (show E2 _ _ _ _ _ _ _; first
      | refine n_seq ?_
      | (refine n_end hT ?_; cases h; first | rfl | exact congrArg AV.bool (by rw [Bool.eq_iff_iff]; simp))
      | refine ag5 rfl ⟨by omega, h⟩
      | refine ag6 rfl ⟨by omega, h⟩)
    | (show E4 _ _ _ _ _ _ _; first
      | refine dQ vLe ?_
      | refine dQ vL ?_
      | refine dQ vLv ?_
      | refine dQ vLo ?_
      | refine dQ vE ?_
      | refine dQ vEv ?_
      | refine dQ vEo ?_
      | refine dQ vSl ?_
      | refine dQ vSlv ?_
      | refine dQ vSh ?_
      | refine dQ vShv ?_
      | refine dQ vpt ?_
      | refine dQ vpf ?_
      | refine dQ vBS ?_
      | refine dW ?_
      | refine dE ?_
      | refine dYq vL ?_
      | refine dYq vLv ?_
      | refine dYq vLo ?_
      | refine dYq vE ?_
      | refine dYq vEv ?_
      | refine dYq vEo ?_
      | refine dYq vSl ?_
      | refine dYq vSlv ?_
      | refine dYq vSh ?_
      | refine dYq vShv ?_
      | refine dYq vpt ?_
      | refine dYq vpf ?_
      | refine dYq vLe ?_
      | refine dN ?_
      | refine dNf ?_
      | refine dY ?_
      | refine dT ?_
      | refine dif_ h (fun hc h => ?_) (fun hc h => ?_)
      | refine dfi h (fun hc h => ?_) (fun hc h => ?_)
      | with_reducible refine mI h (fun hc h => ?_)
      | with_reducible refine mE h (fun hc h => ?_)
      | with_reducible refine mS h (fun h => ?_)
      | refine dif_s h (fun hc h => ?_) (fun hc h => ?_)
      | refine dfis h (fun hc h => ?_) (fun hc h => ?_))
    | (show E5 _ _ _ _ _ _ _; first
      | refine tAl (⟨_, _, _⟩ : S51) ?_
      | refine tA (⟨_, _, _⟩ : S51) ?_
      | refine tAe (⟨_, _, _⟩ : S51) ?_
      | refine tMl ?_
      | refine tM ?_
      | refine tMe ?_
      | refine tQ vL ?_
      | refine tQ vLv ?_
      | refine tQ vLo ?_
      | refine tQ vE ?_
      | refine tQ vEv ?_
      | refine tQ vEo ?_
      | refine tQ vSl ?_
      | refine tQ vSlv ?_
      | refine tQ vSh ?_
      | refine tQ vShv ?_
      | refine tQ vpt ?_
      | refine tQ vpf ?_
      | refine tYq vL ?_
      | refine tYq vLv ?_
      | refine tYq vLo ?_
      | refine tYq vE ?_
      | refine tYq vEv ?_
      | refine tYq vEo ?_
      | refine tYq vSl ?_
      | refine tYq vSlv ?_
      | refine tYq vSh ?_
      | refine tYq vShv ?_
      | refine tYq vpt ?_
      | refine tYq vpf ?_
      | refine tN ?_
      | refine tNf ?_
      | refine tY ?_
      | refine tT ?_
      | refine tW ?_
      | refine n_drw [0, 1, 2, 3, 4, 5, 6, 11, 59] ?_
      | refine tAsd dec51 (a6 := by simp only [List.length_drop, List.length_append, List.length_take, List.length_cons, List.length_nil] at *; omega) ?_
      | refine tif h (fun hc h => ?_) (fun hc h => ?_)
      | refine tfi h (fun hc h => ?_) (fun hc h => ?_)
      | with_reducible refine mI h (fun hc h => ?_)
      | with_reducible refine mE h (fun hc h => ?_)
      | with_reducible refine mS h (fun h => ?_))
    | with_reducible refine mI h (fun hc h => ?_)
    | with_reducible refine mE h (fun hc h => ?_)
    | with_reducible refine mS h (fun h => ?_)
    | refine mT h (fun h => ?_)
    | refine mF h (fun h => ?_)
    | (cases h; done)
theorem slices_IndexFunc.does {k : Nat} {l0 : List (S46)} {q1 : Int} {r : (Int)} (h : slices_IndexFunc.f k l0 q1 = some r) (G : Objs) : Does Try.prog true 36 [.sl (l0.map Enc.enc), .fn 37 [.ptrF [.int .i64 q1]]] G (fun x _ => x = .int .i64 r) := by
  unfold slices_IndexFunc.f at h
  try simp only [rdc46, rdc46', rq_T46, rq_T51, rq_T34, rq_bt, wrap64, bl, tl_eq, tl_lit, tl_nil, Bool.false_eq_true, if_false, if_true] at h
  refine does_walk 2 (F := cfg []) tb_ok mixed Try.func36 rfl (fun T hT => ?_)
  repeat' first
    | (show E3 _ _ _ _ _ _ _ _; first
      | refine oQ vL ?_
      | refine oQ vE ?_
      | refine oLd ?_
      | refine mB h (fun t ht h => oCfc (fun G => marks_Set_find_1.does ht G) ?_)
      | refine oW ?_
      | refine n_reg [0, 1, 4, 5, 7, 8, 9, 16] ?_
      | with_reducible refine mI h (fun hc h => ?_)
      | with_reducible refine mE h (fun hc h => ?_)
      | with_reducible refine mS h (fun h => ?_)
      | refine oWs ?_)
    | (show E1 _ _ _ _ _ _ _; first
      | refine c_seq ?_
      | refine c_reg ?_
      | refine c_blk ?_
      | refine c_exit ?_
      | refine c_ret ?_
      | refine c_skip ?_
      | refine c_tt ?_
      | refine c_ff ?_
      | refine c_if h (fun hc h => ?_) (fun hc h => ?_)
      | refine c_fi h (fun hc h => ?_) (fun hc h => ?_)
      | with_reducible refine mI h (fun hc h => ?_)
      | with_reducible refine mE h (fun hc h => ?_)
      | with_reducible refine mS h (fun h => ?_)
      | refine c_ifs h (fun hc h => ?_) (fun hc h => ?_)
      | refine c_fis h (fun hc h => ?_) (fun hc h => ?_)
      | (refine lp4 (fun x0 q1 x7 x8 => [(0, .sl (x0.map Enc.enc)), (7, .int .i64 x7), (8, .int .i64 x8), (1, .fn 37 [.ptrF [.int .i64 q1]])]) (fun x0 q1 x7 x8 => []) (fun k_ x0 q1 x7 x8 => k_ ≤ k ∧ slices_IndexFunc.l0 k_ x0 q1 x7 x8 = some r) ⟨Nat.le_refl _, h⟩ ?_; intro k x0 q1 x7 x8 h; obtain ⟨hk, h⟩ := h; rcases k with _ | k; (simp only [slices_IndexFunc.l0] at h; cases h); simp only [slices_IndexFunc.l0, rdc46, rdc46', rq_T46, rq_T51, rq_T34, rq_bt, wrap64, bl, tl_eq, tl_lit, tl_nil, Bool.false_eq_true, if_false, if_true] at h)
      | refine c_dt ?_
      | refine c_df ?_)
    | (show E2 _ _ _ _ _ _ _; first
      | refine n_seq ?_
      | (refine n_end hT ?_; cases h; first | rfl | exact congrArg AV.bool (by rw [Bool.eq_iff_iff]; simp))
      | refine ag4 rfl ⟨by omega, h⟩)
    | with_reducible refine mI h (fun hc h => ?_)
    | with_reducible refine mE h (fun hc h => ?_)
    | with_reducible refine mS h (fun h => ?_)
    | refine mT h (fun h => ?_)
    | refine mF h (fun h => ?_)
    | (cases h; done)
theorem regletref16_Move.does {k : Nat} {a0_0 : Int} {a0_1 : Int} {l0_2 : List (S51)} {a1 : Int} {a2 : Int} {r : (Int × Int × (List (S51)) × Int)} (h : regletref16_Move.f k a0_0 a0_1 l0_2 a1 a2 = some r) (G : Objs) : Does Try.prog true 32 [.agg [.int .i64 a0_0, .int .i64 a0_1, .sl (l0_2.map Enc.enc)], .int .i64 a1, .int .i64 a2] G (fun x _ => x = .tup [.agg [.int .i64 r.1, .int .i64 r.2.1, .sl (r.2.2.1.map Enc.enc)], .int .i64 r.2.2.2]) := by
  unfold regletref16_Move.f at h
  try simp only [rdc46, rdc46', rq_T46, rq_T51, rq_T34, rq_bt, wrap64, bl, tl_eq, tl_lit, tl_nil, Bool.false_eq_true, if_false, if_true] at h
  refine does_walk 3 (F := cfg []) tb_ok mixed Try.func32 rfl (fun T hT => ?_)
  repeat' first
    | (show E3 _ _ _ _ _ _ _ _; first
      | refine oQ vE ?_
      | refine oQ vEv ?_
      | refine oQ vEo ?_
      | refine oQ vpt ?_
      | refine oQ vpf ?_
      | refine oLe vLe ?_
      | refine oBS ?_
      | refine oLd ?_
      | refine oW ?_
      | refine n_reg [0, 1, 2, 3, 6, 7, 8, 13, 22] ?_
      | refine gYq vE ?_
      | refine gYq vEv ?_
      | refine gYq vEo ?_
      | refine gYq vpt ?_
      | refine gYq vpf ?_
      | refine gLe vLe ?_
      | refine gN ?_
      | refine gNf ?_
      | refine gY ?_
      | refine gT ?_
      | refine oAvd dec51 ?_
      | refine oAv (⟨_, _, _⟩ : S51) ?_
      | refine oA (⟨_, _, _⟩ : S51) ?_
      | refine oAe (⟨_, _, _⟩ : S51) ?_
      | refine oAl (⟨_, _, _⟩ : S51) ?_
      | refine oMv ?_
      | refine oM ?_
      | refine oMe ?_
      | refine oMl ?_
      | refine mB h (fun t ht h => oC (vC (fun G => regletref16_find.does ht G)) ?_)
      | refine fz 9 ?_
      | refine fz 10 ?_
      | refine gif h (fun hc h => ?_) (fun hc h => ?_)
      | refine gfi h (fun hc h => ?_) (fun hc h => ?_)
      | with_reducible refine mI h (fun hc h => ?_)
      | with_reducible refine mE h (fun hc h => ?_)
      | with_reducible refine mS h (fun h => ?_)
      | refine oSf (α := S51) (β := Int) (fun y z => { y with f1 := z }) (fun z => AV.int .i64 z) ?_
      | refine oSfl (α := S51) (β := Int) (fun y z => { y with f1 := z }) (fun z => AV.int .i64 z) ?_
      | refine oWs ?_
      | refine oWl ?_
      | refine gYs ?_
      | refine gifs h (fun hc h => ?_) (fun hc h => ?_)
      | refine gfis h (fun hc h => ?_) (fun hc h => ?_)
      | (fail_if_success (refine g_lit ?_)); refine g_dt ?_
      | (fail_if_success (refine g_lit ?_)); refine g_df ?_)
    | (show E1 _ _ _ _ _ _ _; first
      | refine c_seq ?_
      | refine c_reg ?_
      | refine c_ret ?_
      | refine c_skip ?_
      | refine c_tt ?_
      | refine c_ff ?_
      | refine c_if h (fun hc h => ?_) (fun hc h => ?_)
      | refine c_fi h (fun hc h => ?_) (fun hc h => ?_)
      | with_reducible refine mI h (fun hc h => ?_)
      | with_reducible refine mE h (fun hc h => ?_)
      | with_reducible refine mS h (fun h => ?_)
      | refine c_ifs h (fun hc h => ?_) (fun hc h => ?_)
      | refine c_fis h (fun hc h => ?_) (fun hc h => ?_)
      | refine c_dt ?_
      | refine c_df ?_)
    | (show E2 _ _ _ _ _ _ _; first
      | refine n_seq ?_
      | (refine n_ends hT ?_; cases h; first | rfl | exact congrArg AV.bool (by rw [Bool.eq_iff_iff]; simp)))
    | (show E4 _ _ _ _ _ _ _; first
      | refine dQ vLe ?_)
    | (show E5 _ _ _ _ _ _ _; first
      | refine tSf (α := S51) (β := Int) (fun y z => { y with f1 := z }) (fun z => AV.int .i64 z) ?_)
    | with_reducible refine mI h (fun hc h => ?_)
    | with_reducible refine mE h (fun hc h => ?_)
    | with_reducible refine mS h (fun h => ?_)
    | refine mT h (fun h => ?_)
    | refine mF h (fun h => ?_)
    | (cases h; done)
end Go.AL.X
