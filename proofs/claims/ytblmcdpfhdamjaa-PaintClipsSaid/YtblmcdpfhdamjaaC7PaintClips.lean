/- What each function does: it answers as its model tells, and changes nothing (in 8 texts, numbered 8). -/
import Derived.Test.YtblmcdpfhdamjaaC1PaintClips
import Derived.Test.YtblmcdpfhdamjaaC2PaintClips
import Derived.Test.YtblmcdpfhdamjaaC3PaintClips
import Derived.Test.YtblmcdpfhdamjaaC5PaintClips
import Derived.Test.YtblmcdpfhdamjaaC6PaintClips
import Derived.Test.YtblmcdpfhdamjaaTPaintClips
namespace Go.AL.X
open Go.Proofs Go.Proofs.Ytblmcdpfhdamjaa.PPaintClips
set_option linter.unusedVariables false
set_option linter.unusedSimpArgs false
set_option maxRecDepth 100000
set_option maxHeartbeats 16000000
theorem regletlaw21_awake.does {k : Nat} {r : (Bool)} (h : regletlaw21_awake.f k = some r) (G : Objs) : Does Try.prog true 10 [] G (fun x _ => x = .bool r) := by
  unfold regletlaw21_awake.f at h
  try simp only [rdc124, rdc124', rq_T134, rq_L2, rq_T87, rq_L5, rq_T124, rq_T89, rq_T99, rq_T38, rq_T90, rq_T56, rq_I, rq_bt, wrap64, bl, tl_eq, tl_lit, tl_nil, Bool.false_eq_true, if_false, if_true] at h
  refine does_walk 0 (F := cfg []) tb_ok mixed Try.func10 rfl (fun T hT => ?_)
  repeat' first
    | (show E3 _ _ _ _ _ _ _ _; first
      | refine oQ vL ?_
      | refine oQ vE ?_
      | refine oQ vpt ?_
      | refine oQ vpf ?_
      | refine oBS ?_
      | refine oB ?_
      | refine oLd ?_
      | refine oW ?_
      | refine n_reg [0, 1, 2, 3, 4, 7, 12] ?_
      | refine gYq vL ?_
      | refine gYq vE ?_
      | refine gYq vpt ?_
      | refine gYq vpf ?_
      | refine gLd ?_
      | refine gB ?_
      | refine gN ?_
      | refine gNf ?_
      | refine gY ?_
      | refine gT ?_
      | (refine mB h (fun t ht h => ?_); rcases t with (_ | ⟨p0, ps0⟩) <;> refine oC (vC (fun G => regletlaw21_table.does ht G)) ?_ <;> try simp only [lenC, lenN, if_true, if_false] at h)
      | refine mB h (fun t ht h => oC (vC (fun G => paint_Line.does ht G)) ?_)
      | refine mB h (fun t ht h => oC (vC (fun G => paint_Window_Seen.does ht G)) ?_)
      | refine mB h (fun t ht h => oC (vC (fun G => paint_Window_At.does ht G)) ?_)
      | refine gif h (fun hc h => ?_) (fun hc h => ?_)
      | refine gfi h (fun hc h => ?_) (fun hc h => ?_)
      | with_reducible refine mI h (fun hc h => ?_)
      | with_reducible refine mE h (fun hc h => ?_)
      | with_reducible refine mS h (fun h => ?_)
      | refine oWs ?_
      | refine oWl ?_
      | refine gYs ?_
      | refine gifs h (fun hc h => ?_) (fun hc h => ?_)
      | refine gfis h (fun hc h => ?_) (fun hc h => ?_)
      | (fail_if_success (refine g_lit ?_)); refine g_dt ?_
      | (fail_if_success (refine g_lit ?_)); refine g_df ?_)
    | (show E1 _ _ _ _ _ _ _; first
      | refine c_seq ?_
      | refine c_reg ?_
      | refine c_ret ?_
      | refine c_skip ?_
      | refine c_tt ?_
      | refine c_ff ?_
      | refine c_if h (fun hc h => ?_) (fun hc h => ?_)
      | refine c_fi h (fun hc h => ?_) (fun hc h => ?_)
      | with_reducible refine mI h (fun hc h => ?_)
      | with_reducible refine mE h (fun hc h => ?_)
      | with_reducible refine mS h (fun h => ?_)
      | refine c_ifs h (fun hc h => ?_) (fun hc h => ?_)
      | refine c_fis h (fun hc h => ?_) (fun hc h => ?_)
      | refine c_dt ?_
      | refine c_df ?_)
    | (show E2 _ _ _ _ _ _ _; first
      | refine n_seq ?_
      | (refine n_end hT ?_; cases h; first | rfl | exact congrArg AV.bool (by rw [Bool.eq_iff_iff]; simp)))
    | with_reducible refine mI h (fun hc h => ?_)
    | with_reducible refine mE h (fun hc h => ?_)
    | with_reducible refine mS h (fun h => ?_)
    | refine mT h (fun h => ?_)
    | refine mF h (fun h => ?_)
    | (cases h; done)
theorem regletlaw21_PaintClips.does {k : Nat} {l0 : List (S90)} {l1 : List (S90)} {a2_0 : Int} {a2_1 : Int} {r : (Bool)} (h : regletlaw21_PaintClips.f k l0 l1 a2_0 a2_1 = some r) (G : Objs) : Does Try.prog true 9 [.sl (l0.map Enc.enc), .sl (l1.map Enc.enc), .agg [.int .i64 a2_0, .int .i64 a2_1]] G (fun x _ => x = .bool r) := by
  unfold regletlaw21_PaintClips.f at h
  try simp only [rdc124, rdc124', rq_T134, rq_L2, rq_T87, rq_L5, rq_T124, rq_T89, rq_T99, rq_T38, rq_T90, rq_T56, rq_I, rq_bt, wrap64, bl, tl_eq, tl_lit, tl_nil, Bool.false_eq_true, if_false, if_true] at h
  refine does_walk 3 (F := cfg [(6, 23)]) tb_ok mixed Try.func9 rfl (fun T hT => ?_)
  repeat' first
    | (show E3 _ _ _ _ _ _ _ _; first
      | refine oQ vL ?_
      | refine oQ vIa ?_
      | refine oQ vpt ?_
      | refine oQ vpf ?_
      | refine oW ?_
      | refine n_reg [0, 1, 2, 5, 6, 7, 9, 17] ?_
      | refine gYq vL ?_
      | refine gYq vIa ?_
      | refine gYq vpt ?_
      | refine gYq vpf ?_
      | refine gN ?_
      | refine gNf ?_
      | refine gY ?_
      | refine gT ?_
      | refine mB h (fun t ht h => oC (vC (fun G => regletlaw21_awake.does ht G)) ?_)
      | refine mB h (fun t ht h => oC (vC (fun G => regletlaw21_bands.does ht G)) ?_)
      | refine mB h (fun t ht h => oC (vC (fun G => paint_Clip.does ht G)) ?_)
      | refine gif h (fun hc h => ?_) (fun hc h => ?_)
      | refine gfi h (fun hc h => ?_) (fun hc h => ?_)
      | with_reducible refine mI h (fun hc h => ?_)
      | with_reducible refine mE h (fun hc h => ?_)
      | with_reducible refine mS h (fun h => ?_)
      | refine oWs ?_
      | refine oWl ?_
      | refine gYs ?_
      | refine gifs h (fun hc h => ?_) (fun hc h => ?_)
      | refine gfis h (fun hc h => ?_) (fun hc h => ?_)
      | (fail_if_success (refine g_lit ?_)); refine g_dt ?_
      | (fail_if_success (refine g_lit ?_)); refine g_df ?_)
    | (show E1 _ _ _ _ _ _ _; first
      | refine c_seq ?_
      | refine c_reg ?_
      | refine c_drwf ?_
      | refine c_drw ?_
      | refine c_ret ?_
      | refine c_skip ?_
      | refine c_tt ?_
      | refine c_ff ?_
      | refine c_if h (fun hc h => ?_) (fun hc h => ?_)
      | refine c_fi h (fun hc h => ?_) (fun hc h => ?_)
      | with_reducible refine mI h (fun hc h => ?_)
      | with_reducible refine mE h (fun hc h => ?_)
      | with_reducible refine mS h (fun h => ?_)
      | refine c_ifs h (fun hc h => ?_) (fun hc h => ?_)
      | refine c_fis h (fun hc h => ?_) (fun hc h => ?_)
      | refine c_dt ?_
      | refine c_df ?_)
    | (show E2 _ _ _ _ _ _ _; first
      | refine n_seq ?_
      | (refine n_end hT ?_; cases h; first | rfl | exact congrArg AV.bool (by rw [Bool.eq_iff_iff]; simp)))
    | (show E4 _ _ _ _ _ _ _; first
      | refine mB h (fun t ht h => dYq (vC (fun G => regletlaw21_bands.does ht G)) ?_)
      | refine mB h (fun t ht h => dQ (vC (fun G => regletref21_Tidy.does ht G)) ?_)
      | refine mB h (fun t ht h => dYq (vC (fun G => regletref21_In.does ht G)) ?_)
      | refine dQ vL ?_
      | refine dQ vIa ?_
      | refine dQ vpt ?_
      | refine dQ vpf ?_
      | refine dW ?_
      | refine dE ?_
      | refine dYq vL ?_
      | refine dYq vIa ?_
      | refine dYq vpt ?_
      | refine dYq vpf ?_
      | refine dN ?_
      | refine dNf ?_
      | refine dY ?_
      | refine dT ?_
      | refine dif_ h (fun hc h => ?_) (fun hc h => ?_)
      | refine dfi h (fun hc h => ?_) (fun hc h => ?_)
      | with_reducible refine mI h (fun hc h => ?_)
      | with_reducible refine mE h (fun hc h => ?_)
      | with_reducible refine mS h (fun h => ?_)
      | refine dif_s h (fun hc h => ?_) (fun hc h => ?_)
      | refine dfis h (fun hc h => ?_) (fun hc h => ?_))
    | (show E5 _ _ _ _ _ _ _; first
      | refine mB h (fun t ht h => tCg (vC (fun G => regletlaw21_bands.does ht G)) ?_)
      | refine mB h (fun t ht h => tC (vC (fun G => regletref21_Tidy.does ht G)) ?_)
      | refine mB h (fun t ht h => tCg (vC (fun G => regletref21_In.does ht G)) ?_)
      | refine tQ vL ?_
      | refine tQ vIa ?_
      | refine tQ vpt ?_
      | refine tQ vpf ?_
      | refine tYq vL ?_
      | refine tYq vIa ?_
      | refine tYq vpt ?_
      | refine tYq vpf ?_
      | refine tN ?_
      | refine tNf ?_
      | refine tY ?_
      | refine tT ?_
      | refine tW ?_
      | refine n_drw [0, 1, 2, 5, 6, 7, 9, 17] ?_
      | refine tif h (fun hc h => ?_) (fun hc h => ?_)
      | refine tfi h (fun hc h => ?_) (fun hc h => ?_)
      | with_reducible refine mI h (fun hc h => ?_)
      | with_reducible refine mE h (fun hc h => ?_)
      | with_reducible refine mS h (fun h => ?_))
    | with_reducible refine mI h (fun hc h => ?_)
    | with_reducible refine mE h (fun hc h => ?_)
    | with_reducible refine mS h (fun h => ?_)
    | refine mT h (fun h => ?_)
    | refine mF h (fun h => ?_)
    | (cases h; done)
end Go.AL.X
