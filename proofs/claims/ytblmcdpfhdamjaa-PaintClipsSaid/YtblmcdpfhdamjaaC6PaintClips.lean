/- What each function does: it answers as its model tells, and changes nothing (in 8 texts, numbered 7). -/
import Derived.Test.YtblmcdpfhdamjaaC0PaintClips
import Derived.Test.YtblmcdpfhdamjaaC1PaintClips
import Derived.Test.YtblmcdpfhdamjaaC3PaintClips
import Derived.Test.YtblmcdpfhdamjaaC4PaintClips
import Derived.Test.YtblmcdpfhdamjaaC5PaintClips
import Derived.Test.YtblmcdpfhdamjaaTPaintClips
namespace Go.AL.X
open Go.Proofs Go.Proofs.Ytblmcdpfhdamjaa.PPaintClips
set_option linter.unusedVariables false
set_option linter.unusedSimpArgs false
set_option maxRecDepth 100000
set_option maxHeartbeats 16000000
theorem paint_Line.does {k : Nat} {l0 : S124} {l0s : List S124} {a1_0 : ByteArray} {l1_1 : List (S89)} {a1_2 : Int} {a1_3 : Int} {a1_4 : Int} {a1_5 : Bool} {a1_6 : Int} {a1_7 : Bool} {a1_8 : Bool} {r : ((List (S38)))} (h : paint_Line.f k (l0 :: l0s) a1_0 l1_1 a1_2 a1_3 a1_4 a1_5 a1_6 a1_7 a1_8 = some r) (G : Objs) : Does Try.prog true 15 [.ptrF (Enc.enc l0), .agg [.str a1_0, .sl (l1_1.map Enc.enc), .int .i64 a1_2, .int .i64 a1_3, .int .i64 a1_4, .bool a1_5, .int .i64 a1_6, .bool a1_7, .bool a1_8]] G (fun x _ => x = .sl (r.map Enc.enc)) := by
  unfold paint_Line.f at h
  try simp only [rdc124, rdc124', rq_T134, rq_L2, rq_T87, rq_L5, rq_T124, rq_T89, rq_T99, rq_T38, rq_T90, rq_T56, rq_I, rq_bt, wrap64, bl, tl_eq, tl_lit, tl_nil, Bool.false_eq_true, if_false, if_true] at h
  refine does_walk 2 (F := cfg [(8, 7680000000), (17, 10), (18, 14), (22, 16)]) tb_ok mixed Try.func15 rfl (fun T hT => ?_)
  repeat' first
    | (show E3 _ _ _ _ _ _ _ _; first
      | refine oQ vL ?_
      | refine oQ vLv ?_
      | refine oQ vE ?_
      | refine oQ vEv ?_
      | refine oQ vEo ?_
      | refine oQ vpt ?_
      | refine oQ vpf ?_
      | refine oLe vLe ?_
      | refine oBS ?_
      | refine oB ?_
      | refine oLd ?_
      | refine oW ?_
      | refine n_reg [0, 1, 3, 4, 5, 6, 7, 8, 9, 10, 11, 12, 13, 14, 15, 16, 22, 23, 24, 40, 82, 120] ?_
      | refine gYq vL ?_
      | refine gYq vLv ?_
      | refine gYq vE ?_
      | refine gYq vEv ?_
      | refine gYq vEo ?_
      | refine gYq vpt ?_
      | refine gYq vpf ?_
      | refine gLe vLe ?_
      | refine gN ?_
      | refine gNf ?_
      | refine gY ?_
      | refine gT ?_
      | refine oAv (⟨_, _, _, _, _⟩ : S38) ?_
      | refine oA (⟨_, _, _, _, _⟩ : S38) ?_
      | refine oAe (⟨_, _, _, _, _⟩ : S38) ?_
      | refine oAl (⟨_, _, _, _, _⟩ : S38) ?_
      | refine oMv ?_
      | refine oM ?_
      | refine oMe ?_
      | refine oMl ?_
      | refine mB h (fun t ht h => oC (vC (fun G => locate_Stops.does ht G)) ?_)
      | refine mB h (fun t ht h => oC (vC (fun G => paint_drawn.does ht G)) ?_)
      | refine mB h (fun t ht h => gC (vC (fun G => runes_Kind.does ht G)) ?_)
      | refine mB h (fun t ht h => oC (vC (fun G => paint_styleAt.does ht G)) ?_)
      | refine mB h (fun t ht h => oC (vC (fun G => paint_lastStyle.does ht G)) ?_)
      | refine fz 17 ?_
      | refine fz 18 ?_
      | refine fz 38 ?_
      | refine fz 50 ?_
      | refine fz 55 ?_
      | refine fz 60 ?_
      | refine fz 61 ?_
      | refine fz 121 ?_
      | refine oNx h (fun hc h => ?_) (fun hc h => ?_)
      | refine gif h (fun hc h => ?_) (fun hc h => ?_)
      | refine gfi h (fun hc h => ?_) (fun hc h => ?_)
      | with_reducible refine mI h (fun hc h => ?_)
      | with_reducible refine mE h (fun hc h => ?_)
      | with_reducible refine mS h (fun h => ?_)
      | refine oSf (α := S38) (β := ByteArray) (fun y z => { y with f3 := z }) AV.str ?_
      | refine oSf (α := S38) (β := Int) (fun y z => { y with f2 := z }) (fun z => AV.int .i64 z) ?_
      | refine oWs ?_
      | refine oWl ?_
      | refine gYs ?_
      | refine gifs h (fun hc h => ?_) (fun hc h => ?_)
      | refine gfis h (fun hc h => ?_) (fun hc h => ?_)
      | (fail_if_success (refine g_lit ?_)); refine g_dt ?_
      | (fail_if_success (refine g_lit ?_)); refine g_df ?_)
    | (show E1 _ _ _ _ _ _ _; first
      | refine c_seq ?_
      | refine c_reg ?_
      | (show E1 _ _ _ (.region 8 _ _) _ _ _; refine c_mixf [9, 10, 11, 12] [0, 1, 2, 3, 4, 5, 6, 7, 8] ?_)
      | refine c_drwf ?_
      | refine c_drw ?_
      | refine c_blk ?_
      | refine c_exit ?_
      | refine c_ret ?_
      | refine c_skip ?_
      | refine c_tt ?_
      | refine c_ff ?_
      | refine c_if h (fun hc h => ?_) (fun hc h => ?_)
      | refine c_fi h (fun hc h => ?_) (fun hc h => ?_)
      | with_reducible refine mI h (fun hc h => ?_)
      | with_reducible refine mE h (fun hc h => ?_)
      | with_reducible refine mS h (fun h => ?_)
      | refine c_ifs h (fun hc h => ?_) (fun hc h => ?_)
      | refine c_fis h (fun hc h => ?_) (fun hc h => ?_)
      | (refine lp17 (fun x0 x0s x5 x6 x7 x8 x254000 x254001 x254002 x254003 x254004 x254005 x254006 x254007 x254008 x258000 x258001 => [(0, .ptrF (Enc.enc x0)), (5, .own 5 (x5.map Enc.enc)), (6, .sl (x6.map Enc.enc)), (7, .bool x7), (8, .int .i64 x8), (3, .lptr 3 0), (22, .iter x258000 x258001.toNat)]) (fun x0 x0s x5 x6 x7 x8 x254000 x254001 x254002 x254003 x254004 x254005 x254006 x254007 x254008 x258000 x258001 => [(3, [.str x254000, .sl (x254001.map Enc.enc), .int .i64 x254002, .int .i64 x254003, .int .i64 x254004, .bool x254005, .int .i64 x254006, .bool x254007, .bool x254008])]) (fun k_ x0 x0s x5 x6 x7 x8 x254000 x254001 x254002 x254003 x254004 x254005 x254006 x254007 x254008 x258000 x258001 => k_ ≤ k ∧ paint_Line.l0 k_ (x0 :: x0s) x5 x6 x7 x8 x254000 x254001 x254002 x254003 x254004 x254005 x254006 x254007 x254008 x258000 x258001 = some r) ⟨Nat.le_refl _, h⟩ ?_; intro k x0 x0s x5 x6 x7 x8 x254000 x254001 x254002 x254003 x254004 x254005 x254006 x254007 x254008 x258000 x258001 h; obtain ⟨hk, h⟩ := h; rcases k with _ | k; (simp only [paint_Line.l0] at h; cases h); simp only [paint_Line.l0, rdc124, rdc124', rq_T134, rq_L2, rq_T87, rq_L5, rq_T124, rq_T89, rq_T99, rq_T38, rq_T90, rq_T56, rq_I, rq_bt, wrap64, bl, tl_eq, tl_lit, tl_nil, Bool.false_eq_true, if_false, if_true, itP_] at h)
      | refine c_dt ?_
      | refine c_df ?_)
    | (show E2 _ _ _ _ _ _ _; first
      | refine n_seq ?_
      | (refine n_end hT ?_; cases h; first | rfl | exact congrArg AV.bool (by rw [Bool.eq_iff_iff]; simp))
      | refine ag17 rfl ⟨by omega, h⟩)
    | (show E4 _ _ _ _ _ _ _; first
      | refine dQ vLe ?_
      | refine mB h (fun t ht h => dQ (vC (fun G => scaled_Sub.does ht G)) ?_)
      | refine mB h (fun t ht h => dQ (vC (fun G => metrics_Table_Hyphen.does ht G)) ?_)
      | refine dQ vL ?_
      | refine dQ vLv ?_
      | refine dQ vE ?_
      | refine dQ vEv ?_
      | refine dQ vEo ?_
      | refine dQ vpt ?_
      | refine dQ vpf ?_
      | refine dQ vBS ?_
      | refine dQ vBd ?_
      | refine dW ?_
      | refine dE ?_
      | refine dM2 [9, 10, 11, 12] 9 [0, 1, 2, 3, 4, 5, 6, 7, 8] [27, 28, 29, 30, 31, 32, 33, 34, 35] [10, 11, 12] 10 [0, 1, 2, 3, 4, 5, 6, 7, 8] [27, 28, 29, 30, 31, 32, 33, 34, 35] [9, 11, 12] ?_ ?_
      | refine dM1 [10, 11, 12] 10 [0, 1, 2, 3, 4, 5, 6, 7, 8] [27, 28, 29, 30, 31, 32, 33, 34, 35] [11, 12] ?_
      | refine dM1 [9, 11, 12] 9 [0, 1, 2, 3, 4, 5, 6, 7, 8] [27, 28, 29, 30, 31, 32, 33, 34, 35] [11, 12] ?_
      | refine dM1 [11, 12] 11 [4, 5, 6, 7, 8] [31, 32, 33, 34, 35] [12] ?_
      | refine dM1 [12] 12 [] [] [] ?_
      | refine dM0 ?_)
    | (show E5 _ _ _ _ _ _ _; first
      | refine tAl (⟨_, _, _, _, _⟩ : S38) ?_
      | refine tA (⟨_, _, _, _, _⟩ : S38) ?_
      | refine tAe (⟨_, _, _, _, _⟩ : S38) ?_
      | refine tMl ?_
      | refine tM ?_
      | refine tMe ?_
      | refine mB h (fun t ht h => tC (vC (fun G => scaled_Sub.does ht G)) ?_)
      | refine mB h (fun t ht h => tC (vC (fun G => metrics_Table_Hyphen.does ht G)) ?_)
      | refine tSf (α := S38) (β := ByteArray) (fun y z => { y with f3 := z }) AV.str ?_
      | refine tSf (α := S38) (β := Int) (fun y z => { y with f2 := z }) (fun z => AV.int .i64 z) ?_
      | refine tQ vL ?_
      | refine tQ vLv ?_
      | refine tQ vE ?_
      | refine tQ vEv ?_
      | refine tQ vEo ?_
      | refine tQ vpt ?_
      | refine tQ vpf ?_
      | refine tW ?_
      | refine n_drw [0, 1, 3, 4, 5, 6, 7, 8, 9, 10, 11, 12, 13, 14, 15, 16, 22, 23, 24, 40, 82, 120] ?_
      | refine n_stgf [9, 10, 11, 12] [0, 1, 2, 3, 4, 5, 6, 7, 8] ?_
      | refine n_stgf [10, 11, 12] [0, 1, 2, 3, 4, 5, 6, 7, 8] ?_
      | refine n_stgf [9, 11, 12] [0, 1, 2, 3, 4, 5, 6, 7, 8] ?_
      | refine n_stgf [11, 12] [0, 1, 2, 3, 4, 5, 6, 7, 8] ?_
      | refine n_stgf [12] [4, 5, 6, 7, 8] ?_
      | refine n_stgf [] [] ?_)
    | with_reducible refine mI h (fun hc h => ?_)
    | with_reducible refine mE h (fun hc h => ?_)
    | with_reducible refine mS h (fun h => ?_)
    | (rcases k with _ | k; (simp only [paint_Line.j1] at h; cases h); simp only [paint_Line.j1, rdc124, rdc124', rq_T134, rq_L2, rq_T87, rq_L5, rq_T124, rq_T89, rq_T99, rq_T38, rq_T90, rq_T56, rq_I, rq_bt, wrap64, bl, tl_eq, tl_lit, tl_nil, Bool.false_eq_true, if_false, if_true] at h)
    | refine mT h (fun h => ?_)
    | refine mF h (fun h => ?_)
    | (cases h; done)
end Go.AL.X
