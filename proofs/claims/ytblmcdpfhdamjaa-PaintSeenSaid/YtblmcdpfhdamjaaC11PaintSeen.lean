/- What each function does: it answers as its model tells, and changes nothing (in 12 texts, numbered 12). -/
import Derived.Test.YtblmcdpfhdamjaaC2PaintSeen
import Derived.Test.YtblmcdpfhdamjaaC6PaintSeen
import Derived.Test.YtblmcdpfhdamjaaC7PaintSeen
import Derived.Test.YtblmcdpfhdamjaaC8PaintSeen
import Derived.Test.YtblmcdpfhdamjaaC9PaintSeen
import Derived.Test.YtblmcdpfhdamjaaC10PaintSeen
import Derived.Test.YtblmcdpfhdamjaaTPaintSeen
namespace Go.AL.X
open Go.Proofs Go.Proofs.Ytblmcdpfhdamjaa.PPaintSeen
set_option linter.unusedVariables false
set_option linter.unusedSimpArgs false
set_option maxRecDepth 100000
set_option maxHeartbeats 4000000
theorem regletlaw21_PaintSeen.does {k : Nat} {l0 : List (S87)} {a1_0 : ByteArray} {l1_1 : List (S89)} {a1_2 : Int} {a1_3 : Int} {a1_4 : Int} {a1_5 : Bool} {a1_6 : Int} {a1_7 : Bool} {a1_8 : Bool} {r : (Bool)} (h : regletlaw21_PaintSeen.f k l0 a1_0 l1_1 a1_2 a1_3 a1_4 a1_5 a1_6 a1_7 a1_8 = some r) (G : Objs) : Does Try.prog true 4 [.sl (l0.map Enc.enc), .agg [.str a1_0, .sl (l1_1.map Enc.enc), .int .i64 a1_2, .int .i64 a1_3, .int .i64 a1_4, .bool a1_5, .int .i64 a1_6, .bool a1_7, .bool a1_8]] G (fun x _ => x = .bool r) := by
  unfold regletlaw21_PaintSeen.f at h
  try simp only [rdc124, rdc124', rq_T134, rq_L2, rq_T87, rq_L5, rq_T124, rq_T89, rq_T99, rq_T38, rq_T90, rq_L12, rq_T46, rq_L14, rq_T25, rq_I, rq_bt, wrap64, bl, tl_eq, tl_lit, tl_nil, Bool.false_eq_true, if_false, if_true] at h
  refine does_walk 2 (F := cfg [(15, 14), (28, 9), (30, 16)]) tb_ok mixed Try.func4 rfl (fun T hT => ?_)
  repeat' first
    | (show E3 _ _ _ _ _ _ _ _; first
      | refine oQ vL ?_
      | refine oQ vE ?_
      | refine oQ vSh ?_
      | refine oQ vpt ?_
      | refine oQ vpf ?_
      | refine oLd ?_
      | refine oW ?_
      | refine n_reg [0, 1, 3, 4, 5, 6, 7, 8, 9, 10, 11, 13, 14, 15, 16, 18, 27, 32, 45, 54, 72, 90, 100, 116] ?_
      | refine gYq vL ?_
      | refine gYq vE ?_
      | refine gYq vSh ?_
      | refine gYq vpt ?_
      | refine gYq vpf ?_
      | refine gLd ?_
      | refine gN ?_
      | refine gNf ?_
      | refine gY ?_
      | refine gT ?_
      | refine mB h (fun t ht h => oC (vC (fun G => regletlaw21_awake.does ht G)) ?_)
      | (refine mB h (fun t ht h => ?_); rcases t with (_ | ⟨p0, ps0⟩) <;> refine oC (vC (fun G => regletlaw21_table.does ht G)) ?_ <;> try simp only [lenC, lenN, if_true, if_false] at h)
      | refine mB h (fun t ht h => gC (vC (fun G => regletlaw21_line.does ht G)) ?_)
      | refine mB h (fun t ht h => oC (vC (fun G => paint_Line.does ht G)) ?_)
      | refine mB h (fun t ht h => oC (vC (fun G => regletref02_Runes.does ht G)) ?_)
      | refine mB h (fun t ht h => oC (vC (fun G => regletref02_Kind.does ht G)) ?_)
      | refine mB h (fun t ht h => oC (vC (fun G => regletref15_Stops.does ht G)) ?_)
      | refine gif h (fun hc h => ?_) (fun hc h => ?_)
      | refine gfi h (fun hc h => ?_) (fun hc h => ?_)
      | with_reducible refine mI h (fun hc h => ?_)
      | with_reducible refine mE h (fun hc h => ?_)
      | with_reducible refine mS h (fun h => ?_)
      | refine oWs ?_
      | refine oWl ?_
      | refine gYs ?_
      | refine gifs h (fun hc h => ?_) (fun hc h => ?_)
      | refine gfis h (fun hc h => ?_) (fun hc h => ?_)
      | (fail_if_success (refine g_lit ?_)); refine g_dt ?_
      | (fail_if_success (refine g_lit ?_)); refine g_df ?_)
    | (show E1 _ _ _ _ _ _ _; first
      | refine c_seq ?_
      | refine c_reg ?_
      | refine c_drwf ?_
      | refine c_drw ?_
      | refine c_blk ?_
      | refine c_exit ?_
      | refine c_ret ?_
      | refine c_skip ?_
      | refine c_tt ?_
      | refine c_ff ?_
      | refine c_if h (fun hc h => ?_) (fun hc h => ?_)
      | refine c_fi h (fun hc h => ?_) (fun hc h => ?_)
      | with_reducible refine mI h (fun hc h => ?_)
      | with_reducible refine mE h (fun hc h => ?_)
      | with_reducible refine mS h (fun h => ?_)
      | refine c_ifs h (fun hc h => ?_) (fun hc h => ?_)
      | refine c_fis h (fun hc h => ?_) (fun hc h => ?_)
      | (refine lp13 (fun x0 x6 x7 x8 x545000 x545001 x545002 x545003 x545004 x545005 x545006 x545007 x545008 => [(0, .sl (x0.map Enc.enc)), (6, .str x6), (7, .sl (x7.map Enc.enc)), (8, .int .i64 x8), (3, .lptr 3 0)]) (fun x0 x6 x7 x8 x545000 x545001 x545002 x545003 x545004 x545005 x545006 x545007 x545008 => [(3, [.str x545000, .sl (x545001.map Enc.enc), .int .i64 x545002, .int .i64 x545003, .int .i64 x545004, .bool x545005, .int .i64 x545006, .bool x545007, .bool x545008])]) (fun k_ x0 x6 x7 x8 x545000 x545001 x545002 x545003 x545004 x545005 x545006 x545007 x545008 => k_ ≤ k ∧ regletlaw21_PaintSeen.l0 k_ x0 x6 x7 x8 x545000 x545001 x545002 x545003 x545004 x545005 x545006 x545007 x545008 = some r) ⟨Nat.le_refl _, h⟩ ?_; intro k x0 x6 x7 x8 x545000 x545001 x545002 x545003 x545004 x545005 x545006 x545007 x545008 h; obtain ⟨hk, h⟩ := h; rcases k with _ | k; (simp only [regletlaw21_PaintSeen.l0] at h; cases h); simp only [regletlaw21_PaintSeen.l0, rdc124, rdc124', rq_T134, rq_L2, rq_T87, rq_L5, rq_T124, rq_T89, rq_T99, rq_T38, rq_T90, rq_L12, rq_T46, rq_L14, rq_T25, rq_I, rq_bt, wrap64, bl, tl_eq, tl_lit, tl_nil, Bool.false_eq_true, if_false, if_true] at h)
      | (refine lp16 (fun x0 x6 x7 x9 x10 x11 x13 x545000 x545001 x545002 x545003 x545004 x545005 x545006 x545007 x545008 => [(0, .sl (x0.map Enc.enc)), (6, .str x6), (7, .sl (x7.map Enc.enc)), (9, .str x9), (10, .sl (x10.map Enc.enc)), (11, .sl (x11.map Enc.enc)), (13, .int .i64 x13), (3, .lptr 3 0)]) (fun x0 x6 x7 x9 x10 x11 x13 x545000 x545001 x545002 x545003 x545004 x545005 x545006 x545007 x545008 => [(3, [.str x545000, .sl (x545001.map Enc.enc), .int .i64 x545002, .int .i64 x545003, .int .i64 x545004, .bool x545005, .int .i64 x545006, .bool x545007, .bool x545008])]) (fun k_ x0 x6 x7 x9 x10 x11 x13 x545000 x545001 x545002 x545003 x545004 x545005 x545006 x545007 x545008 => k_ ≤ k ∧ regletlaw21_PaintSeen.l1 k_ x0 x6 x7 x9 x10 x11 x13 x545000 x545001 x545002 x545003 x545004 x545005 x545006 x545007 x545008 = some r) ⟨Nat.le_refl _, h⟩ ?_; intro k x0 x6 x7 x9 x10 x11 x13 x545000 x545001 x545002 x545003 x545004 x545005 x545006 x545007 x545008 h; obtain ⟨hk, h⟩ := h; rcases k with _ | k; (simp only [regletlaw21_PaintSeen.l1] at h; cases h); simp only [regletlaw21_PaintSeen.l1, rdc124, rdc124', rq_T134, rq_L2, rq_T87, rq_L5, rq_T124, rq_T89, rq_T99, rq_T38, rq_T90, rq_L12, rq_T46, rq_L14, rq_T25, rq_I, rq_bt, wrap64, bl, tl_eq, tl_lit, tl_nil, Bool.false_eq_true, if_false, if_true] at h)
      | refine c_dt ?_
      | refine c_df ?_)
    | (show E2 _ _ _ _ _ _ _; first
      | refine n_seq ?_
      | (refine n_end hT ?_; cases h; first | rfl | exact congrArg AV.bool (by rw [Bool.eq_iff_iff]; simp))
      | refine ag13 rfl ⟨by omega, h⟩
      | refine ag16 rfl ⟨by omega, h⟩)
    | (show E4 _ _ _ _ _ _ _; first
      | refine dQ vL ?_
      | refine dQ vE ?_
      | refine dQ vSh ?_
      | refine dQ vpt ?_
      | refine dQ vpf ?_
      | refine dW ?_
      | refine dE ?_
      | refine dYq vL ?_
      | refine dYq vE ?_
      | refine dYq vSh ?_
      | refine dYq vpt ?_
      | refine dYq vpf ?_
      | refine dN ?_
      | refine dNf ?_
      | refine dY ?_
      | refine dT ?_
      | refine dif_ h (fun hc h => ?_) (fun hc h => ?_)
      | refine dfi h (fun hc h => ?_) (fun hc h => ?_)
      | with_reducible refine mI h (fun hc h => ?_)
      | with_reducible refine mE h (fun hc h => ?_)
      | with_reducible refine mS h (fun h => ?_)
      | refine dif_s h (fun hc h => ?_) (fun hc h => ?_)
      | refine dfis h (fun hc h => ?_) (fun hc h => ?_))
    | (show E5 _ _ _ _ _ _ _; first
      | refine tQ vL ?_
      | refine tQ vE ?_
      | refine tQ vSh ?_
      | refine tQ vpt ?_
      | refine tQ vpf ?_
      | refine tYq vL ?_
      | refine tYq vE ?_
      | refine tYq vSh ?_
      | refine tYq vpt ?_
      | refine tYq vpf ?_
      | refine tN ?_
      | refine tNf ?_
      | refine tY ?_
      | refine tT ?_
      | refine tW ?_
      | refine n_drw [0, 1, 3, 4, 5, 6, 7, 8, 9, 10, 11, 13, 14, 15, 16, 18, 27, 32, 45, 54, 72, 90, 100, 116] ?_
      | refine tif h (fun hc h => ?_) (fun hc h => ?_)
      | refine tfi h (fun hc h => ?_) (fun hc h => ?_)
      | with_reducible refine mI h (fun hc h => ?_)
      | with_reducible refine mE h (fun hc h => ?_)
      | with_reducible refine mS h (fun h => ?_))
    | with_reducible refine mI h (fun hc h => ?_)
    | with_reducible refine mE h (fun hc h => ?_)
    | with_reducible refine mS h (fun h => ?_)
    | (rcases k with _ | k; (simp only [regletlaw21_PaintSeen.j0] at h; cases h); simp only [regletlaw21_PaintSeen.j0, rdc124, rdc124', rq_T134, rq_L2, rq_T87, rq_L5, rq_T124, rq_T89, rq_T99, rq_T38, rq_T90, rq_L12, rq_T46, rq_L14, rq_T25, rq_I, rq_bt, wrap64, bl, tl_eq, tl_lit, tl_nil, Bool.false_eq_true, if_false, if_true] at h)
    | (rcases k with _ | k; (simp only [regletlaw21_PaintSeen.j1] at h; cases h); simp only [regletlaw21_PaintSeen.j1, rdc124, rdc124', rq_T134, rq_L2, rq_T87, rq_L5, rq_T124, rq_T89, rq_T99, rq_T38, rq_T90, rq_L12, rq_T46, rq_L14, rq_T25, rq_I, rq_bt, wrap64, bl, tl_eq, tl_lit, tl_nil, Bool.false_eq_true, if_false, if_true] at h)
    | refine mT h (fun h => ?_)
    | refine mF h (fun h => ?_)
    | (cases h; done)
end Go.AL.X
