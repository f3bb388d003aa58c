/- What each function does: it answers as its model tells, and changes nothing (in 12 texts, numbered 10). -/
import Derived.Test.YtblmcdpfhdamjaaC2PaintPages
import Derived.Test.YtblmcdpfhdamjaaC3PaintPages
import Derived.Test.YtblmcdpfhdamjaaC4PaintPages
import Derived.Test.YtblmcdpfhdamjaaC5PaintPages
import Derived.Test.YtblmcdpfhdamjaaC7PaintPages
import Derived.Test.YtblmcdpfhdamjaaC8PaintPages
import Derived.Test.YtblmcdpfhdamjaaTPaintPages
namespace Go.AL.X
open Go.Proofs Go.Proofs.Ytblmcdpfhdamjaa.PPaintPages
set_option linter.unusedVariables false
set_option linter.unusedSimpArgs false
set_option maxRecDepth 100000
set_option maxHeartbeats 4000000
theorem regletref21_Line.does {k : Nat} {l0 : List (S87)} {a1_0 : ByteArray} {l1_1 : List (S89)} {a1_2 : Int} {a1_3 : Int} {a1_4 : Int} {a1_5 : Bool} {a1_6 : Int} {a1_7 : Bool} {a1_8 : Bool} {r : ((List (S96)))} (h : regletref21_Line.f k l0 a1_0 l1_1 a1_2 a1_3 a1_4 a1_5 a1_6 a1_7 a1_8 = some r) (G : Objs) : Does Try.prog true 16 [.sl (l0.map Enc.enc), .agg [.str a1_0, .sl (l1_1.map Enc.enc), .int .i64 a1_2, .int .i64 a1_3, .int .i64 a1_4, .bool a1_5, .int .i64 a1_6, .bool a1_7, .bool a1_8]] G (fun x _ => x = .sl (r.map Enc.enc)) := by
  unfold regletref21_Line.f at h
  try simp only [rdc124, rdc124', rq_T134, rq_L2, rq_T87, rq_L5, rq_T124, rq_T89, rq_T99, rq_T38, rq_T90, rq_T96, rq_L13, rq_T46, rq_L15, rq_T25, rq_L17, rq_T66, rq_I, rq_bt, wrap64, bl, tl_eq, tl_lit, tl_nil, Bool.false_eq_true, if_false, if_true] at h
  refine does_walk 2 (F := cfg [(10, 7), (11, 13), (15, 15), (16, 25), (25, 16)]) tb_ok mixed Try.func16 rfl (fun T hT => ?_)
  repeat' first
    | (show E3 _ _ _ _ _ _ _ _; first
      | refine oQ vL ?_
      | refine oQ vLv ?_
      | refine oQ vE ?_
      | refine oQ vEv ?_
      | refine oQ vEo ?_
      | refine oQ vpt ?_
      | refine oQ vpf ?_
      | refine oLe vLe ?_
      | refine oBS ?_
      | refine oB ?_
      | refine oLd ?_
      | refine oW ?_
      | refine n_reg [0, 1, 3, 4, 5, 6, 9, 10, 11, 12, 13, 14, 15, 16, 17, 31, 44, 87, 147, 152, 161] ?_
      | refine gYq vL ?_
      | refine gYq vLv ?_
      | refine gYq vE ?_
      | refine gYq vEv ?_
      | refine gYq vEo ?_
      | refine gYq vpt ?_
      | refine gYq vpf ?_
      | refine gLe vLe ?_
      | refine gN ?_
      | refine gNf ?_
      | refine gY ?_
      | refine gT ?_
      | refine oAv (⟨_, _, _, _, _⟩ : S96) ?_
      | refine oA (⟨_, _, _, _, _⟩ : S96) ?_
      | refine oAe (⟨_, _, _, _, _⟩ : S96) ?_
      | refine oAl (⟨_, _, _, _, _⟩ : S96) ?_
      | refine oMv ?_
      | refine oM ?_
      | refine oMe ?_
      | refine oMl ?_
      | refine mB h (fun t ht h => oC (vC (fun G => regletref02_Runes.does ht G)) ?_)
      | refine mB h (fun t ht h => oC (vC (fun G => regletref02_Kind.does ht G)) ?_)
      | refine mB h (fun t ht h => oC (vC (fun G => regletref15_Stops.does ht G)) ?_)
      | refine mB h (fun t ht h => gC (vC (fun G => regletref21_quiet.does ht G)) ?_)
      | refine fz 18 ?_
      | refine fz 19 ?_
      | refine fz 23 ?_
      | refine fz 37 ?_
      | refine fz 81 ?_
      | refine fz 82 ?_
      | refine fz 84 ?_
      | refine fz 85 ?_
      | refine gif h (fun hc h => ?_) (fun hc h => ?_)
      | refine gfi h (fun hc h => ?_) (fun hc h => ?_)
      | with_reducible refine mI h (fun hc h => ?_)
      | with_reducible refine mE h (fun hc h => ?_)
      | with_reducible refine mS h (fun h => ?_)
      | refine oSf (α := S96) (β := ByteArray) (fun y z => { y with f3 := z }) AV.str ?_
      | refine oSf (α := S96) (β := Int) (fun y z => { y with f2 := z }) (fun z => AV.int .i64 z) ?_
      | refine oSe (_ : Int) ?_
      | refine oWs ?_
      | refine oWl ?_
      | refine gYs ?_
      | refine gifs h (fun hc h => ?_) (fun hc h => ?_)
      | refine gfis h (fun hc h => ?_) (fun hc h => ?_)
      | (fail_if_success (refine g_lit ?_)); refine g_dt ?_
      | (fail_if_success (refine g_lit ?_)); refine g_df ?_)
    | (show E1 _ _ _ _ _ _ _; first
      | refine c_seq ?_
      | refine c_reg ?_
      | refine c_drwf ?_
      | refine c_drw ?_
      | refine c_blk ?_
      | refine c_exit ?_
      | refine c_ret ?_
      | refine c_skip ?_
      | refine c_tt ?_
      | refine c_ff ?_
      | refine c_if h (fun hc h => ?_) (fun hc h => ?_)
      | refine c_fi h (fun hc h => ?_) (fun hc h => ?_)
      | with_reducible refine mI h (fun hc h => ?_)
      | with_reducible refine mE h (fun hc h => ?_)
      | with_reducible refine mS h (fun h => ?_)
      | refine c_ifs h (fun hc h => ?_) (fun hc h => ?_)
      | refine c_fis h (fun hc h => ?_) (fun hc h => ?_)
      | (refine lp15 (fun x0 x5 x6 x9 x10 x11 x563000 x563001 x563002 x563003 x563004 x563005 x563006 x563007 x563008 => [(0, .sl (x0.map Enc.enc)), (5, .sl (x5.map Enc.enc)), (6, .sl (x6.map Enc.enc)), (9, .own 5 (x9.map Enc.enc)), (10, .int .i64 x10), (11, .int .i64 x11), (3, .lptr 3 0)]) (fun x0 x5 x6 x9 x10 x11 x563000 x563001 x563002 x563003 x563004 x563005 x563006 x563007 x563008 => [(3, [.str x563000, .sl (x563001.map Enc.enc), .int .i64 x563002, .int .i64 x563003, .int .i64 x563004, .bool x563005, .int .i64 x563006, .bool x563007, .bool x563008])]) (fun k_ x0 x5 x6 x9 x10 x11 x563000 x563001 x563002 x563003 x563004 x563005 x563006 x563007 x563008 => k_ ≤ k ∧ regletref21_Line.l0 k_ x0 x5 x6 x9 x10 x11 x563000 x563001 x563002 x563003 x563004 x563005 x563006 x563007 x563008 = some r) ⟨Nat.le_refl _, h⟩ ?_; intro k x0 x5 x6 x9 x10 x11 x563000 x563001 x563002 x563003 x563004 x563005 x563006 x563007 x563008 h; obtain ⟨hk, h⟩ := h; rcases k with _ | k; (simp only [regletref21_Line.l0] at h; cases h); simp only [regletref21_Line.l0, rdc124, rdc124', rq_T134, rq_L2, rq_T87, rq_L5, rq_T124, rq_T89, rq_T99, rq_T38, rq_T90, rq_T96, rq_L13, rq_T46, rq_L15, rq_T25, rq_L17, rq_T66, rq_I, rq_bt, wrap64, bl, tl_eq, tl_lit, tl_nil, Bool.false_eq_true, if_false, if_true] at h)
      | (refine lp15 (fun x0 x5 x6 x9 x16 x17 x563000 x563001 x563002 x563003 x563004 x563005 x563006 x563007 x563008 => [(0, .sl (x0.map Enc.enc)), (5, .sl (x5.map Enc.enc)), (6, .sl (x6.map Enc.enc)), (9, .own 5 (x9.map Enc.enc)), (16, .int .i64 x16), (17, .int .i64 x17), (3, .lptr 3 0)]) (fun x0 x5 x6 x9 x16 x17 x563000 x563001 x563002 x563003 x563004 x563005 x563006 x563007 x563008 => [(3, [.str x563000, .sl (x563001.map Enc.enc), .int .i64 x563002, .int .i64 x563003, .int .i64 x563004, .bool x563005, .int .i64 x563006, .bool x563007, .bool x563008])]) (fun k_ x0 x5 x6 x9 x16 x17 x563000 x563001 x563002 x563003 x563004 x563005 x563006 x563007 x563008 => k_ ≤ k ∧ regletref21_Line.l1 k_ x0 x5 x6 x9 x16 x17 x563000 x563001 x563002 x563003 x563004 x563005 x563006 x563007 x563008 = some r) ⟨Nat.le_refl _, h⟩ ?_; intro k x0 x5 x6 x9 x16 x17 x563000 x563001 x563002 x563003 x563004 x563005 x563006 x563007 x563008 h; obtain ⟨hk, h⟩ := h; rcases k with _ | k; (simp only [regletref21_Line.l1] at h; cases h); simp only [regletref21_Line.l1, rdc124, rdc124', rq_T134, rq_L2, rq_T87, rq_L5, rq_T124, rq_T89, rq_T99, rq_T38, rq_T90, rq_T96, rq_L13, rq_T46, rq_L15, rq_T25, rq_L17, rq_T66, rq_I, rq_bt, wrap64, bl, tl_eq, tl_lit, tl_nil, Bool.false_eq_true, if_false, if_true] at h)
      | refine c_dt ?_
      | refine c_df ?_)
    | (show E2 _ _ _ _ _ _ _; first
      | refine n_seq ?_
      | (refine n_end hT ?_; cases h; first | rfl | exact congrArg AV.bool (by rw [Bool.eq_iff_iff]; simp))
      | refine ag15 rfl ⟨by omega, h⟩)
    | (show E4 _ _ _ _ _ _ _; first
      | refine dQ vLe ?_
      | refine mB h (fun t ht h => dQ (vC (fun G => regletref01_Add.does ht G)) ?_)
      | refine mB h (fun t ht h => dQ (vC (fun G => regletref21_style.does ht G)) ?_)
      | refine mB h (fun t ht h => dQ (vC (fun G => regletref04_Of.does ht G)) ?_)
      | refine dQ vL ?_
      | refine dQ vLv ?_
      | refine dQ vE ?_
      | refine dQ vEv ?_
      | refine dQ vEo ?_
      | refine dQ vpt ?_
      | refine dQ vpf ?_
      | refine dQ vBS ?_
      | refine dQ vBd ?_
      | refine dW ?_
      | refine dE ?_)
    | (show E5 _ _ _ _ _ _ _; first
      | refine tAl (⟨_, _, _, _, _⟩ : S96) ?_
      | refine tA (⟨_, _, _, _, _⟩ : S96) ?_
      | refine tAe (⟨_, _, _, _, _⟩ : S96) ?_
      | refine tMl ?_
      | refine tM ?_
      | refine tMe ?_
      | refine mB h (fun t ht h => tC (vC (fun G => regletref01_Add.does ht G)) ?_)
      | refine mB h (fun t ht h => tC (vC (fun G => regletref21_style.does ht G)) ?_)
      | refine mB h (fun t ht h => tC (vC (fun G => regletref04_Of.does ht G)) ?_)
      | refine tSf (α := S96) (β := ByteArray) (fun y z => { y with f3 := z }) AV.str ?_
      | refine tSf (α := S96) (β := Int) (fun y z => { y with f2 := z }) (fun z => AV.int .i64 z) ?_
      | refine tSe (_ : Int) ?_
      | refine tQ vL ?_
      | refine tQ vLv ?_
      | refine tQ vE ?_
      | refine tQ vEv ?_
      | refine tQ vEo ?_
      | refine tQ vpt ?_
      | refine tQ vpf ?_
      | refine tW ?_
      | refine n_drw [0, 1, 3, 4, 5, 6, 9, 10, 11, 12, 13, 14, 15, 16, 17, 31, 44, 87, 147, 152, 161] ?_)
    | with_reducible refine mI h (fun hc h => ?_)
    | with_reducible refine mE h (fun hc h => ?_)
    | with_reducible refine mS h (fun h => ?_)
    | (rcases k with _ | k; (simp only [regletref21_Line.j1] at h; cases h); simp only [regletref21_Line.j1, rdc124, rdc124', rq_T134, rq_L2, rq_T87, rq_L5, rq_T124, rq_T89, rq_T99, rq_T38, rq_T90, rq_T96, rq_L13, rq_T46, rq_L15, rq_T25, rq_L17, rq_T66, rq_I, rq_bt, wrap64, bl, tl_eq, tl_lit, tl_nil, Bool.false_eq_true, if_false, if_true] at h)
    | (rcases k with _ | k; (simp only [regletref21_Line.j2] at h; cases h); simp only [regletref21_Line.j2, rdc124, rdc124', rq_T134, rq_L2, rq_T87, rq_L5, rq_T124, rq_T89, rq_T99, rq_T38, rq_T90, rq_T96, rq_L13, rq_T46, rq_L15, rq_T25, rq_L17, rq_T66, rq_I, rq_bt, wrap64, bl, tl_eq, tl_lit, tl_nil, Bool.false_eq_true, if_false, if_true] at h)
    | refine mT h (fun h => ?_)
    | refine mF h (fun h => ?_)
    | (cases h; done)
end Go.AL.X
