/- What each function does: it answers as its model tells, and changes nothing (in 12 texts, numbered 9). -/
import Derived.Test.YtblmcdpfhdamjaaC0PaintSeen
import Derived.Test.YtblmcdpfhdamjaaC2PaintSeen
import Derived.Test.YtblmcdpfhdamjaaC3PaintSeen
import Derived.Test.YtblmcdpfhdamjaaC4PaintSeen
import Derived.Test.YtblmcdpfhdamjaaC5PaintSeen
import Derived.Test.YtblmcdpfhdamjaaC6PaintSeen
import Derived.Test.YtblmcdpfhdamjaaC7PaintSeen
import Derived.Test.YtblmcdpfhdamjaaTPaintSeen
namespace Go.AL.X
open Go.Proofs Go.Proofs.Ytblmcdpfhdamjaa.PPaintSeen
set_option linter.unusedVariables false
set_option linter.unusedSimpArgs false
set_option maxRecDepth 100000
set_option maxHeartbeats 4000000
theorem regletref15_Stops.does {k : Nat} {l0 : List (S87)} {a1_0 : ByteArray} {l1_1 : List (S89)} {a1_2 : Int} {a1_3 : Int} {a1_4 : Int} {a1_5 : Bool} {a1_6 : Int} {a1_7 : Bool} {a1_8 : Bool} {r : ((List (S46)))} (h : regletref15_Stops.f k l0 a1_0 l1_1 a1_2 a1_3 a1_4 a1_5 a1_6 a1_7 a1_8 = some r) (G : Objs) : Does Try.prog true 19 [.sl (l0.map Enc.enc), .agg [.str a1_0, .sl (l1_1.map Enc.enc), .int .i64 a1_2, .int .i64 a1_3, .int .i64 a1_4, .bool a1_5, .int .i64 a1_6, .bool a1_7, .bool a1_8]] G (fun x _ => x = .sl (r.map Enc.enc)) := by
  unfold regletref15_Stops.f at h
  try simp only [rdc124, rdc124', rq_T134, rq_L2, rq_T87, rq_L5, rq_T124, rq_T89, rq_T99, rq_T38, rq_T90, rq_L12, rq_T46, rq_L14, rq_T25, rq_I, rq_bt, wrap64, bl, tl_eq, tl_lit, tl_nil, Bool.false_eq_true, if_false, if_true] at h
  refine does_walk 2 (F := cfg [(9, 6)]) tb_ok mixed Try.func19 rfl (fun T hT => ?_)
  repeat' first
    | (show E3 _ _ _ _ _ _ _ _; first
      | refine oQ vL ?_
      | refine oQ vLv ?_
      | refine oQ vE ?_
      | refine oQ vEv ?_
      | refine oQ vEo ?_
      | refine oLe vLe ?_
      | refine oBS ?_
      | refine oB ?_
      | refine oW ?_
      | refine n_reg [0, 1, 3, 4, 5, 6, 8, 9, 10, 11, 12, 13, 14, 28, 55, 70, 75, 87] ?_
      | refine oAv (⟨_, _⟩ : S46) ?_
      | refine oA (⟨_, _⟩ : S46) ?_
      | refine oAe (⟨_, _⟩ : S46) ?_
      | refine oAl (⟨_, _⟩ : S46) ?_
      | refine oMv ?_
      | refine oM ?_
      | refine oMe ?_
      | refine oMl ?_
      | refine mB h (fun t ht h => oC (vC (fun G => regletref02_Runes.does ht G)) ?_)
      | refine mB h (fun t ht h => oC (vC (fun G => regletref02_Kind.does ht G)) ?_)
      | refine mB h (fun t ht h => oC (vC (fun G => regletref01_Add.does ht G)) ?_)
      | refine mB h (fun t ht h => oC (vC (fun G => regletref04_Of.does ht G)) ?_)
      | refine mB h (fun t ht h => oC (vC (fun G => regletref15_End.does ht G)) ?_)
      | refine mB h (fun t ht h => oC (vC (fun G => regletref04_Width.does ht G)) ?_)
      | refine mB h (fun t ht h => oC (vC (fun G => regletref15_scale.does ht G)) ?_)
      | refine fz 17 ?_
      | refine fz 23 ?_
      | refine fz 47 ?_
      | refine fz 48 ?_
      | refine fz 53 ?_
      | refine fz 57 ?_
      | refine fz 58 ?_
      | refine fz 62 ?_
      | refine fz 56 ?_
      | refine fz 63 ?_
      | refine fz 78 ?_
      | refine fz 80 ?_
      | refine fz 82 ?_
      | refine fz 90 ?_
      | refine fz 92 ?_
      | refine fz 94 ?_
      | refine fz 97 ?_
      | refine fz 98 ?_
      | with_reducible refine mI h (fun hc h => ?_)
      | with_reducible refine mE h (fun hc h => ?_)
      | with_reducible refine mS h (fun h => ?_)
      | refine oSe (_ : Int) ?_
      | refine oWs ?_
      | refine oWl ?_)
    | (show E1 _ _ _ _ _ _ _; first
      | refine c_seq ?_
      | refine c_reg ?_
      | refine c_drwf ?_
      | refine c_drw ?_
      | refine c_blk ?_
      | refine c_exit ?_
      | refine c_ret ?_
      | refine c_skip ?_
      | refine c_tt ?_
      | refine c_ff ?_
      | refine c_if h (fun hc h => ?_) (fun hc h => ?_)
      | refine c_fi h (fun hc h => ?_) (fun hc h => ?_)
      | with_reducible refine mI h (fun hc h => ?_)
      | with_reducible refine mE h (fun hc h => ?_)
      | with_reducible refine mS h (fun h => ?_)
      | refine c_ifs h (fun hc h => ?_) (fun hc h => ?_)
      | refine c_fis h (fun hc h => ?_) (fun hc h => ?_)
      | (refine lp16 (fun x0 x5 x6 x8 x9 x10 x11 x506000 x506001 x506002 x506003 x506004 x506005 x506006 x506007 x506008 => [(0, .sl (x0.map Enc.enc)), (5, .sl (x5.map Enc.enc)), (6, .sl (x6.map Enc.enc)), (8, .own 2 (x8.map Enc.enc)), (9, .int .i64 x9), (10, .int .i64 x10), (11, .int .i64 x11), (3, .lptr 3 0)]) (fun x0 x5 x6 x8 x9 x10 x11 x506000 x506001 x506002 x506003 x506004 x506005 x506006 x506007 x506008 => [(3, [.str x506000, .sl (x506001.map Enc.enc), .int .i64 x506002, .int .i64 x506003, .int .i64 x506004, .bool x506005, .int .i64 x506006, .bool x506007, .bool x506008])]) (fun k_ x0 x5 x6 x8 x9 x10 x11 x506000 x506001 x506002 x506003 x506004 x506005 x506006 x506007 x506008 => k_ ≤ k ∧ regletref15_Stops.l0 k_ x0 x5 x6 x8 x9 x10 x11 x506000 x506001 x506002 x506003 x506004 x506005 x506006 x506007 x506008 = some r) ⟨Nat.le_refl _, h⟩ ?_; intro k x0 x5 x6 x8 x9 x10 x11 x506000 x506001 x506002 x506003 x506004 x506005 x506006 x506007 x506008 h; obtain ⟨hk, h⟩ := h; rcases k with _ | k; (simp only [regletref15_Stops.l0] at h; cases h); simp only [regletref15_Stops.l0, rdc124, rdc124', rq_T134, rq_L2, rq_T87, rq_L5, rq_T124, rq_T89, rq_T99, rq_T38, rq_T90, rq_L12, rq_T46, rq_L14, rq_T25, rq_I, rq_bt, wrap64, bl, tl_eq, tl_lit, tl_nil, Bool.false_eq_true, if_false, if_true] at h)
      | refine c_dt ?_
      | refine c_df ?_)
    | (show E2 _ _ _ _ _ _ _; first
      | refine n_seq ?_
      | (refine n_end hT ?_; cases h; first | rfl | exact congrArg AV.bool (by rw [Bool.eq_iff_iff]; simp))
      | refine ag16 rfl ⟨by omega, h⟩)
    | (show E4 _ _ _ _ _ _ _; first
      | refine dQ vLe ?_
      | refine mB h (fun t ht h => dQ (vC (fun G => regletref15_style.does ht G)) ?_)
      | refine dQ vL ?_
      | refine dQ vLv ?_
      | refine dQ vE ?_
      | refine dQ vEv ?_
      | refine dQ vEo ?_
      | refine dW ?_
      | refine dE ?_)
    | (show E5 _ _ _ _ _ _ _; first
      | refine mB h (fun t ht h => tC (vC (fun G => regletref15_style.does ht G)) ?_)
      | refine tSe (_ : Int) ?_
      | refine tQ vL ?_
      | refine tQ vLv ?_
      | refine tQ vE ?_
      | refine tQ vEv ?_
      | refine tQ vEo ?_
      | refine tW ?_
      | refine n_drw [0, 1, 3, 4, 5, 6, 8, 9, 10, 11, 12, 13, 14, 28, 55, 70, 75, 87] ?_)
    | with_reducible refine mI h (fun hc h => ?_)
    | with_reducible refine mE h (fun hc h => ?_)
    | with_reducible refine mS h (fun h => ?_)
    | (rcases k with _ | k; (simp only [regletref15_Stops.j1] at h; cases h); simp only [regletref15_Stops.j1, rdc124, rdc124', rq_T134, rq_L2, rq_T87, rq_L5, rq_T124, rq_T89, rq_T99, rq_T38, rq_T90, rq_L12, rq_T46, rq_L14, rq_T25, rq_I, rq_bt, wrap64, bl, tl_eq, tl_lit, tl_nil, Bool.false_eq_true, if_false, if_true] at h)
    | refine mT h (fun h => ?_)
    | refine mF h (fun h => ?_)
    | (cases h; done)
theorem locate_Stops.does {k : Nat} {l0 : S124} {l0s : List S124} {a1_0 : ByteArray} {l1_1 : List (S89)} {a1_2 : Int} {a1_3 : Int} {a1_4 : Int} {a1_5 : Bool} {a1_6 : Int} {a1_7 : Bool} {a1_8 : Bool} {r : ((List (S99)))} (h : locate_Stops.f k (l0 :: l0s) a1_0 l1_1 a1_2 a1_3 a1_4 a1_5 a1_6 a1_7 a1_8 = some r) (G : Objs) : Does Try.prog true 41 [.ptrF (Enc.enc l0), .agg [.str a1_0, .sl (l1_1.map Enc.enc), .int .i64 a1_2, .int .i64 a1_3, .int .i64 a1_4, .bool a1_5, .int .i64 a1_6, .bool a1_7, .bool a1_8]] G (fun x _ => x = .sl (r.map Enc.enc)) := by
  unfold locate_Stops.f at h
  try simp only [rdc124, rdc124', rq_T134, rq_L2, rq_T87, rq_L5, rq_T124, rq_T89, rq_T99, rq_T38, rq_T90, rq_L12, rq_T46, rq_L14, rq_T25, rq_I, rq_bt, wrap64, bl, tl_eq, tl_lit, tl_nil, Bool.false_eq_true, if_false, if_true] at h
  refine does_walk 2 (F := cfg []) tb_ok mixed Try.func41 rfl (fun T hT => ?_)
  repeat' first
    | (show E3 _ _ _ _ _ _ _ _; first
      | refine oBS ?_
      | refine oB ?_
      | refine oLd ?_
      | refine oW ?_
      | refine n_reg [0, 1, 3, 4, 5, 6, 7, 8, 9, 10, 16, 17, 18, 31, 41] ?_
      | refine oAv (⟨_, _⟩ : S99) ?_
      | refine oA (⟨_, _⟩ : S99) ?_
      | refine oAe (⟨_, _⟩ : S99) ?_
      | refine oAl (⟨_, _⟩ : S99) ?_
      | refine oMv ?_
      | refine oM ?_
      | refine oMe ?_
      | refine oMl ?_
      | refine mB h (fun t ht h => oC (vC (fun G => runes_Kind.does ht G)) ?_)
      | refine mB h (fun t ht h => oC (vC (fun G => scaled_Add.does ht G)) ?_)
      | refine mB h (fun t ht h => oC (vC (fun G => locate_shown.does ht G)) ?_)
      | refine mB h (fun t ht h => oC (vC (fun G => locate_styleAt.does ht G)) ?_)
      | refine mB h (fun t ht h => oC (vC (fun G => metrics_Table_Width.does ht G)) ?_)
      | refine mB h (fun t ht h => oC (vC (fun G => locate_space.does ht G)) ?_)
      | refine fz 12 ?_
      | refine fz 28 ?_
      | refine fz 29 ?_
      | refine fz 32 ?_
      | refine fz 36 ?_
      | refine fz 37 ?_
      | refine fz 38 ?_
      | refine fz 35 ?_
      | refine fz 39 ?_
      | refine fz 46 ?_
      | refine fz 47 ?_
      | refine fz 48 ?_
      | refine fz 45 ?_
      | refine fz 49 ?_
      | refine oNx h (fun hc h => ?_) (fun hc h => ?_)
      | with_reducible refine mI h (fun hc h => ?_)
      | with_reducible refine mE h (fun hc h => ?_)
      | with_reducible refine mS h (fun h => ?_)
      | refine oWs ?_
      | refine oWl ?_)
    | (show E1 _ _ _ _ _ _ _; first
      | refine c_seq ?_
      | refine c_reg ?_
      | refine c_blk ?_
      | refine c_exit ?_
      | refine c_ret ?_
      | refine c_skip ?_
      | refine c_tt ?_
      | refine c_ff ?_
      | refine c_if h (fun hc h => ?_) (fun hc h => ?_)
      | refine c_fi h (fun hc h => ?_) (fun hc h => ?_)
      | with_reducible refine mI h (fun hc h => ?_)
      | with_reducible refine mE h (fun hc h => ?_)
      | with_reducible refine mS h (fun h => ?_)
      | refine c_ifs h (fun hc h => ?_) (fun hc h => ?_)
      | refine c_fis h (fun hc h => ?_) (fun hc h => ?_)
      | (refine lp16 (fun x0 x0s x5 x6 x7 x220000 x220001 x220002 x220003 x220004 x220005 x220006 x220007 x220008 x222000 x222001 => [(0, .ptrF (Enc.enc x0)), (5, .own 2 (x5.map Enc.enc)), (6, .int .i64 x6), (7, .int .i64 x7), (3, .lptr 3 0), (16, .iter x222000 x222001.toNat)]) (fun x0 x0s x5 x6 x7 x220000 x220001 x220002 x220003 x220004 x220005 x220006 x220007 x220008 x222000 x222001 => [(3, [.str x220000, .sl (x220001.map Enc.enc), .int .i64 x220002, .int .i64 x220003, .int .i64 x220004, .bool x220005, .int .i64 x220006, .bool x220007, .bool x220008])]) (fun k_ x0 x0s x5 x6 x7 x220000 x220001 x220002 x220003 x220004 x220005 x220006 x220007 x220008 x222000 x222001 => k_ ≤ k ∧ locate_Stops.l0 k_ (x0 :: x0s) x5 x6 x7 x220000 x220001 x220002 x220003 x220004 x220005 x220006 x220007 x220008 x222000 x222001 = some r) ⟨Nat.le_refl _, h⟩ ?_; intro k x0 x0s x5 x6 x7 x220000 x220001 x220002 x220003 x220004 x220005 x220006 x220007 x220008 x222000 x222001 h; obtain ⟨hk, h⟩ := h; rcases k with _ | k; (simp only [locate_Stops.l0] at h; cases h); simp only [locate_Stops.l0, rdc124, rdc124', rq_T134, rq_L2, rq_T87, rq_L5, rq_T124, rq_T89, rq_T99, rq_T38, rq_T90, rq_L12, rq_T46, rq_L14, rq_T25, rq_I, rq_bt, wrap64, bl, tl_eq, tl_lit, tl_nil, Bool.false_eq_true, if_false, if_true, itP_] at h)
      | refine c_dt ?_
      | refine c_df ?_)
    | (show E2 _ _ _ _ _ _ _; first
      | refine n_seq ?_
      | (refine n_end hT ?_; cases h; first | rfl | exact congrArg AV.bool (by rw [Bool.eq_iff_iff]; simp))
      | refine ag16 rfl ⟨by omega, h⟩)
    | with_reducible refine mI h (fun hc h => ?_)
    | with_reducible refine mE h (fun hc h => ?_)
    | with_reducible refine mS h (fun h => ?_)
    | refine mT h (fun h => ?_)
    | refine mF h (fun h => ?_)
    | (cases h; done)
end Go.AL.X
