/- What each function does: it answers as its model tells, and changes nothing (in 12 texts, numbered 12). -/
import Derived.Test.YtblmcdpfhdamjaaC2PaintPages
import Derived.Test.YtblmcdpfhdamjaaC4PaintPages
import Derived.Test.YtblmcdpfhdamjaaC7PaintPages
import Derived.Test.YtblmcdpfhdamjaaC8PaintPages
import Derived.Test.YtblmcdpfhdamjaaC9PaintPages
import Derived.Test.YtblmcdpfhdamjaaC10PaintPages
import Derived.Test.YtblmcdpfhdamjaaTPaintPages
namespace Go.AL.X
open Go.Proofs Go.Proofs.Ytblmcdpfhdamjaa.PPaintPages
set_option linter.unusedVariables false
set_option linter.unusedSimpArgs false
set_option maxRecDepth 100000
set_option maxHeartbeats 4000000
theorem regletlaw21_awake.does {k : Nat} {r : (Bool)} (h : regletlaw21_awake.f k = some r) (G : Objs) : Does Try.prog true 10 [] G (fun x _ => x = .bool r) := by
  unfold regletlaw21_awake.f at h
  try simp only [rdc124, rdc124', rq_T134, rq_L2, rq_T87, rq_L5, rq_T124, rq_T89, rq_T99, rq_T38, rq_T90, rq_T96, rq_L13, rq_T46, rq_L15, rq_T25, rq_L17, rq_T66, rq_I, rq_bt, wrap64, bl, tl_eq, tl_lit, tl_nil, Bool.false_eq_true, if_false, if_true] at h
  refine does_walk 0 (F := cfg []) tb_ok mixed Try.func10 rfl (fun T hT => ?_)
  repeat' first
    | (show E3 _ _ _ _ _ _ _ _; first
      | refine oQ vL ?_
      | refine oQ vE ?_
      | refine oQ vpt ?_
      | refine oQ vpf ?_
      | refine oBS ?_
      | refine oB ?_
      | refine oLd ?_
      | refine oW ?_
      | refine n_reg [0, 1, 2, 3, 4, 7, 12] ?_
      | refine gYq vL ?_
      | refine gYq vE ?_
      | refine gYq vpt ?_
      | refine gYq vpf ?_
      | refine gLd ?_
      | refine gB ?_
      | refine gN ?_
      | refine gNf ?_
      | refine gY ?_
      | refine gT ?_
      | (refine mB h (fun t ht h => ?_); rcases t with (_ | ⟨p0, ps0⟩) <;> refine oC (vC (fun G => regletlaw21_table.does ht G)) ?_ <;> try simp only [lenC, lenN, if_true, if_false] at h)
      | refine mB h (fun t ht h => oC (vC (fun G => paint_Line.does ht G)) ?_)
      | refine mB h (fun t ht h => oC (vC (fun G => paint_Window_Seen.does ht G)) ?_)
      | refine mB h (fun t ht h => oC (vC (fun G => paint_Window_At.does ht G)) ?_)
      | refine gif h (fun hc h => ?_) (fun hc h => ?_)
      | refine gfi h (fun hc h => ?_) (fun hc h => ?_)
      | with_reducible refine mI h (fun hc h => ?_)
      | with_reducible refine mE h (fun hc h => ?_)
      | with_reducible refine mS h (fun h => ?_)
      | refine oWs ?_
      | refine oWl ?_
      | refine gYs ?_
      | refine gifs h (fun hc h => ?_) (fun hc h => ?_)
      | refine gfis h (fun hc h => ?_) (fun hc h => ?_)
      | (fail_if_success (refine g_lit ?_)); refine g_dt ?_
      | (fail_if_success (refine g_lit ?_)); refine g_df ?_)
    | (show E1 _ _ _ _ _ _ _; first
      | refine c_seq ?_
      | refine c_reg ?_
      | refine c_ret ?_
      | refine c_skip ?_
      | refine c_tt ?_
      | refine c_ff ?_
      | refine c_if h (fun hc h => ?_) (fun hc h => ?_)
      | refine c_fi h (fun hc h => ?_) (fun hc h => ?_)
      | with_reducible refine mI h (fun hc h => ?_)
      | with_reducible refine mE h (fun hc h => ?_)
      | with_reducible refine mS h (fun h => ?_)
      | refine c_ifs h (fun hc h => ?_) (fun hc h => ?_)
      | refine c_fis h (fun hc h => ?_) (fun hc h => ?_)
      | refine c_dt ?_
      | refine c_df ?_)
    | (show E2 _ _ _ _ _ _ _; first
      | refine n_seq ?_
      | (refine n_end hT ?_; cases h; first | rfl | exact congrArg AV.bool (by rw [Bool.eq_iff_iff]; simp)))
    | with_reducible refine mI h (fun hc h => ?_)
    | with_reducible refine mE h (fun hc h => ?_)
    | with_reducible refine mS h (fun h => ?_)
    | refine mT h (fun h => ?_)
    | refine mF h (fun h => ?_)
    | (cases h; done)
theorem paint_Page.does {k : Nat} {l0 : S124} {l0s : List S124} {l1_0 : List (S25)} {r : ((List (S38)))} (h : paint_Page.f k (l0 :: l0s) l1_0 = some r) (G : Objs) : Does Try.prog true 27 [.ptrF (Enc.enc l0), .agg [.sl (l1_0.map Enc.enc)]] G (fun x _ => x = .sl (r.map Enc.enc)) := by
  unfold paint_Page.f at h
  try simp only [rdc124, rdc124', rq_T134, rq_L2, rq_T87, rq_L5, rq_T124, rq_T89, rq_T99, rq_T38, rq_T90, rq_T96, rq_L13, rq_T46, rq_L15, rq_T25, rq_L17, rq_T66, rq_I, rq_bt, wrap64, bl, tl_eq, tl_lit, tl_nil, Bool.false_eq_true, if_false, if_true] at h
  refine does_walk 2 (F := cfg []) tb_ok mixed Try.func27 rfl (fun T hT => ?_)
  repeat' first
    | (show E3 _ _ _ _ _ _ _ _; first
      | refine oQ vL ?_
      | refine oQ vLv ?_
      | refine oQ vE ?_
      | refine oQ vEv ?_
      | refine oQ vEo ?_
      | refine oLe vLe ?_
      | refine oLd ?_
      | refine oW ?_
      | refine n_reg [0, 1, 3, 4, 5, 7, 9, 10, 11, 12] ?_
      | refine oAv (⟨_, _, _, _, _⟩ : S38) ?_
      | refine oA (⟨_, _, _, _, _⟩ : S38) ?_
      | refine oAe (⟨_, _, _, _, _⟩ : S38) ?_
      | refine oAl (⟨_, _, _, _, _⟩ : S38) ?_
      | refine oMv ?_
      | refine oM ?_
      | refine oMe ?_
      | refine oMl ?_
      | refine mB h (fun t ht h => oC (vC (fun G => paint_Line.does ht G)) ?_)
      | refine fz 16 ?_
      | refine fz 17 ?_
      | with_reducible refine mI h (fun hc h => ?_)
      | with_reducible refine mE h (fun hc h => ?_)
      | with_reducible refine mS h (fun h => ?_)
      | refine oWs ?_
      | refine oWl ?_)
    | (show E1 _ _ _ _ _ _ _; first
      | refine c_seq ?_
      | refine c_reg ?_
      | refine c_blk ?_
      | refine c_exit ?_
      | refine c_ret ?_
      | refine c_skip ?_
      | refine c_tt ?_
      | refine c_ff ?_
      | refine c_if h (fun hc h => ?_) (fun hc h => ?_)
      | refine c_fi h (fun hc h => ?_) (fun hc h => ?_)
      | with_reducible refine mI h (fun hc h => ?_)
      | with_reducible refine mE h (fun hc h => ?_)
      | with_reducible refine mS h (fun h => ?_)
      | refine c_ifs h (fun hc h => ?_) (fun hc h => ?_)
      | refine c_fis h (fun hc h => ?_) (fun hc h => ?_)
      | (refine lp6 (fun x0 x0s x5 x9 x10 x11 => [(0, .ptrF (Enc.enc x0)), (5, .own 5 (x5.map Enc.enc)), (9, .sl (x9.map Enc.enc)), (10, .int .i64 x10), (11, .int .i64 x11)]) (fun x0 x0s x5 x9 x10 x11 => []) (fun k_ x0 x0s x5 x9 x10 x11 => k_ ≤ k ∧ paint_Page.l0 k_ (x0 :: x0s) x5 x9 x10 x11 = some r) ⟨Nat.le_refl _, h⟩ ?_; intro k x0 x0s x5 x9 x10 x11 h; obtain ⟨hk, h⟩ := h; rcases k with _ | k; (simp only [paint_Page.l0] at h; cases h); simp only [paint_Page.l0, rdc124, rdc124', rq_T134, rq_L2, rq_T87, rq_L5, rq_T124, rq_T89, rq_T99, rq_T38, rq_T90, rq_T96, rq_L13, rq_T46, rq_L15, rq_T25, rq_L17, rq_T66, rq_I, rq_bt, wrap64, bl, tl_eq, tl_lit, tl_nil, Bool.false_eq_true, if_false, if_true] at h)
      | refine c_dt ?_
      | refine c_df ?_)
    | (show E2 _ _ _ _ _ _ _; first
      | refine n_seq ?_
      | (refine n_end hT ?_; cases h; first | rfl | exact congrArg AV.bool (by rw [Bool.eq_iff_iff]; simp))
      | refine ag6 rfl ⟨by omega, h⟩)
    | (show E4 _ _ _ _ _ _ _; first
      | refine dQ vLe ?_)
    | with_reducible refine mI h (fun hc h => ?_)
    | with_reducible refine mE h (fun hc h => ?_)
    | with_reducible refine mS h (fun h => ?_)
    | refine mT h (fun h => ?_)
    | refine mF h (fun h => ?_)
    | (cases h; done)
theorem regletlaw21_PaintPages.does {k : Nat} {l0 : List (S87)} {l1_0 : List (S25)} {r : (Bool)} (h : regletlaw21_PaintPages.f k l0 l1_0 = some r) (G : Objs) : Does Try.prog true 6 [.sl (l0.map Enc.enc), .agg [.sl (l1_0.map Enc.enc)]] G (fun x _ => x = .bool r) := by
  unfold regletlaw21_PaintPages.f at h
  try simp only [rdc124, rdc124', rq_T134, rq_L2, rq_T87, rq_L5, rq_T124, rq_T89, rq_T99, rq_T38, rq_T90, rq_T96, rq_L13, rq_T46, rq_L15, rq_T25, rq_L17, rq_T66, rq_I, rq_bt, wrap64, bl, tl_eq, tl_lit, tl_nil, Bool.false_eq_true, if_false, if_true] at h
  refine does_walk 2 (F := cfg [(14, 14)]) tb_ok mixed Try.func6 rfl (fun T hT => ?_)
  repeat' first
    | (show E3 _ _ _ _ _ _ _ _; first
      | refine oQ vL ?_
      | refine oQ vLv ?_
      | refine oQ vE ?_
      | refine oQ vEv ?_
      | refine oQ vEo ?_
      | refine oQ vmax ?_
      | refine oQ vpt ?_
      | refine oQ vpf ?_
      | refine oLe vLe ?_
      | refine oLd ?_
      | refine oW ?_
      | refine n_reg [0, 1, 3, 4, 5, 6, 7, 8, 10, 20, 25, 34] ?_
      | refine gYq vL ?_
      | refine gYq vLv ?_
      | refine gYq vE ?_
      | refine gYq vEv ?_
      | refine gYq vEo ?_
      | refine gYq vmax ?_
      | refine gYq vpt ?_
      | refine gYq vpf ?_
      | refine gLd ?_
      | refine gLe vLe ?_
      | refine gN ?_
      | refine gNf ?_
      | refine gY ?_
      | refine gT ?_
      | refine oAv (⟨_, _, _, _, _⟩ : S96) ?_
      | refine oA (⟨_, _, _, _, _⟩ : S96) ?_
      | refine oAe (⟨_, _, _, _, _⟩ : S96) ?_
      | refine oAl (⟨_, _, _, _, _⟩ : S96) ?_
      | refine oMv ?_
      | refine oM ?_
      | refine oMe ?_
      | refine oMl ?_
      | refine mB h (fun t ht h => oC (vC (fun G => regletlaw21_awake.does ht G)) ?_)
      | (refine mB h (fun t ht h => ?_); rcases t with (_ | ⟨p0, ps0⟩) <;> refine oC (vC (fun G => regletlaw21_table.does ht G)) ?_ <;> try simp only [lenC, lenN, if_true, if_false] at h)
      | refine mB h (fun t ht h => oC (vC (fun G => regletlaw21_line.does ht G)) ?_)
      | refine mB h (fun t ht h => oC (vC (fun G => regletref21_Same.does ht G)) ?_)
      | refine mB h (fun t ht h => oC (vC (fun G => regletlaw21_marks.does ht G)) ?_)
      | refine mB h (fun t ht h => oC (vC (fun G => regletref21_Line.does ht G)) ?_)
      | refine mB h (fun t ht h => oC (vC (fun G => paint_Page.does ht G)) ?_)
      | refine mB h (fun t ht h => gC (vC (fun G => paint_High.does ht G)) ?_)
      | refine fz 11 ?_
      | refine fz 32 ?_
      | refine fz 36 ?_
      | refine fz 41 ?_
      | refine fz 59 ?_
      | refine fz 60 ?_
      | refine fz 61 ?_
      | refine fz 62 ?_
      | refine fz 63 ?_
      | refine fz 66 ?_
      | refine gif h (fun hc h => ?_) (fun hc h => ?_)
      | refine gfi h (fun hc h => ?_) (fun hc h => ?_)
      | with_reducible refine mI h (fun hc h => ?_)
      | with_reducible refine mE h (fun hc h => ?_)
      | with_reducible refine mS h (fun h => ?_)
      | refine oWs ?_
      | refine oWl ?_
      | refine gYs ?_
      | refine gifs h (fun hc h => ?_) (fun hc h => ?_)
      | refine gfis h (fun hc h => ?_) (fun hc h => ?_)
      | (fail_if_success (refine g_lit ?_)); refine g_dt ?_
      | (fail_if_success (refine g_lit ?_)); refine g_df ?_)
    | (show E1 _ _ _ _ _ _ _; first
      | refine c_seq ?_
      | refine c_reg ?_
      | refine c_drwf ?_
      | refine c_drw ?_
      | refine c_blk ?_
      | refine c_exit ?_
      | refine c_ret ?_
      | refine c_skip ?_
      | refine c_tt ?_
      | refine c_ff ?_
      | refine c_if h (fun hc h => ?_) (fun hc h => ?_)
      | refine c_fi h (fun hc h => ?_) (fun hc h => ?_)
      | with_reducible refine mI h (fun hc h => ?_)
      | with_reducible refine mE h (fun hc h => ?_)
      | with_reducible refine mS h (fun h => ?_)
      | refine c_ifs h (fun hc h => ?_) (fun hc h => ?_)
      | refine c_fis h (fun hc h => ?_) (fun hc h => ?_)
      | (refine lp7 (fun x0 x5 x5s x6 x7 x8 x624000 => [(0, .sl (x0.map Enc.enc)), (5, .ptrF (Enc.enc x5)), (6, .own 5 (x6.map Enc.enc)), (7, .int .i64 x7), (8, .int .i64 x8), (3, .lptr 3 0)]) (fun x0 x5 x5s x6 x7 x8 x624000 => [(3, [.sl (x624000.map Enc.enc)])]) (fun k_ x0 x5 x5s x6 x7 x8 x624000 => k_ ≤ k ∧ regletlaw21_PaintPages.l0 k_ x0 (x5 :: x5s) x6 x7 x8 x624000 = some r) ⟨Nat.le_refl _, h⟩ ?_; intro k x0 x5 x5s x6 x7 x8 x624000 h; obtain ⟨hk, h⟩ := h; rcases k with _ | k; (simp only [regletlaw21_PaintPages.l0] at h; cases h); simp only [regletlaw21_PaintPages.l0, rdc124, rdc124', rq_T134, rq_L2, rq_T87, rq_L5, rq_T124, rq_T89, rq_T99, rq_T38, rq_T90, rq_T96, rq_L13, rq_T46, rq_L15, rq_T25, rq_L17, rq_T66, rq_I, rq_bt, wrap64, bl, tl_eq, tl_lit, tl_nil, Bool.false_eq_true, if_false, if_true] at h)
      | refine c_dt ?_
      | refine c_df ?_)
    | (show E2 _ _ _ _ _ _ _; first
      | refine n_seq ?_
      | (refine n_end hT ?_; cases h; first | rfl | exact congrArg AV.bool (by rw [Bool.eq_iff_iff]; simp))
      | refine ag7 rfl ⟨by omega, h⟩)
    | (show E4 _ _ _ _ _ _ _; first
      | refine dQ vLe ?_
      | refine mB h (fun t ht h => dQ (vC (fun G => regletref01_Add.does ht G)) ?_)
      | refine dQ vL ?_
      | refine dQ vLv ?_
      | refine dQ vE ?_
      | refine dQ vEv ?_
      | refine dQ vEo ?_
      | refine dQ vmax ?_
      | refine dQ vpt ?_
      | refine dQ vpf ?_
      | refine dW ?_
      | refine dE ?_)
    | (show E5 _ _ _ _ _ _ _; first
      | refine mB h (fun t ht h => tC (vC (fun G => regletref01_Add.does ht G)) ?_)
      | refine tQ vL ?_
      | refine tQ vLv ?_
      | refine tQ vE ?_
      | refine tQ vEv ?_
      | refine tQ vEo ?_
      | refine tQ vmax ?_
      | refine tQ vpt ?_
      | refine tQ vpf ?_
      | refine tW ?_
      | refine n_drw [0, 1, 3, 4, 5, 6, 7, 8, 10, 20, 25, 34] ?_)
    | with_reducible refine mI h (fun hc h => ?_)
    | with_reducible refine mE h (fun hc h => ?_)
    | with_reducible refine mS h (fun h => ?_)
    | (rcases k with _ | k; (simp only [regletlaw21_PaintPages.j0] at h; cases h); simp only [regletlaw21_PaintPages.j0, rdc124, rdc124', rq_T134, rq_L2, rq_T87, rq_L5, rq_T124, rq_T89, rq_T99, rq_T38, rq_T90, rq_T96, rq_L13, rq_T46, rq_L15, rq_T25, rq_L17, rq_T66, rq_I, rq_bt, wrap64, bl, tl_eq, tl_lit, tl_nil, Bool.false_eq_true, if_false, if_true] at h)
    | refine mT h (fun h => ?_)
    | refine mF h (fun h => ?_)
    | (cases h; done)
end Go.AL.X
