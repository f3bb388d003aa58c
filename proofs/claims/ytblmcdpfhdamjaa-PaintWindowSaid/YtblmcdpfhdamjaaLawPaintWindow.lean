/- The law PaintWindow: called with any arguments that can be read as data, it returns true, and they read afterwards as they did. No condition. (The row, out of the pure statement.) -/
-- WRITTEN BY wip/xprint.py of this repo, over the kit's print; functions the print does not take are by hand
import Derived.Test.YtblmcdpfhdamjaaRows
import Derived.Test.YtblmcdpfhdamjaaPPaintWindowx16
import Derived.Test.YtblmcdpfhdamjaaOpensPaintWindow
import Derived.Test.YtblmcdpfhdamjaaPurePaintWindow
import Derived.WalkKit
import Derived.ProofKit
import Derived.OpenShut
import Derived.ShutString
import Derived.ChangeOld
import Derived.Below
import Derived.Carry
import Derived.SizedLaws
namespace Go.Proofs.Ytblmcdpfhdamjaa.paintWindow
open Go.ChangeShapes Go.WideShapes Go.ChangeAt Go.RowKit Go.Proofs.YtblmcdpfhdamjaaW.PrintWords Go.Proofs.Ytblmcdpfhdamjaa.Opened Go.Proofs.Ytblmcdpfhdamjaa.PPaintWindow
set_option linter.unusedVariables false
theorem own : ownKnob Try.prog.godebug = none := by kernel_rfl
theorem laidOut : laidOutB Try.prog = true := by kernel_rfl
set_option maxHeartbeats 4000000 in
set_option maxRecDepth 100000 in
theorem lifted (os : Os) (started : os.Started) (H : Type) (enc : TypeId × Value → H) :
    ReturnsInHanded {} Try.checked os 5 .any (Rows.paintWindowSpec.pre6 enc Try.prog Try.f5 Rows.paintWindowRow.domain false) (Rows.paintWindowSpec.post enc Try.prog Try.f5 false true false false) := by
  refine returnsInHanded_of_change_sized (C := Try.checked) own started (by kernel_rfl) Try.func5
    (ChangeSpec.witness6 (enc := enc) (C := Try.checked) false ⟨#[], #[.agg #[.int .i64 0, .int .i64 0, .int .i64 0], .agg #[.int .i64 0, .int .i64 0], .int .i64 0], []⟩ 8 (by kernel_rfl) (by kernel_rfl) (by kernel_rfl) (by kernel_rfl)) ?_
  intro W base args ds gs before hval0 hW hcnd hsz0 _
  have hval : ∀ (j : Nat) t v, Try.f5.params[j]? = some t → args[j]? = some v → Value.okWide Try.prog W .any base t v := hval0
  have hW' := hW
  obtain ⟨p, q, hA0, hV, rfl, hfz, hnd⟩ := hW
  have hA : DataW.TrodAll enc Try.prog W 0 (fun _ => true) true Try.f5.params.toList args.toList ds p := hA0
  rw [Try.params5] at hA hval
  obtain ⟨v0, vs0, d0, ds0, p0, q0, hargs, rfl, rfl, h0, r0⟩ := trodAll_cons hA
  obtain ⟨v1, vs1, d1, ds1, p1, q1, rfl, rfl, rfl, h1, r1⟩ := trodAll_cons r0
  obtain ⟨v2, vs2, d2, ds2, p2, q2, rfl, rfl, rfl, h2, r2⟩ := trodAll_cons r1
  obtain ⟨rfl, rfl, rfl⟩ := trodAll_nil r2
  obtain rfl : args = #[v0, v1, v2] := by cases args; simp_all
  obtain ⟨rfl, rfl⟩ := trodVars_none hV
  have k0 := h0
  have lt0 : ∀ x ∈ p0, x.block < W.heap.size := by obtain ⟨m, hm⟩ := k0; exact DataW.trod_lt m _ _ _ hm
  obtain ⟨cs0, rfl, hsz0⟩ := okWide_struct Try.underlying48 (hval 0 48 v0 rfl rfl)
  obtain ⟨fu0, hf0⟩ := h0
  obtain ⟨x0, hK0, wf0⟩ := (opens48).read enc W true fu0 _ _ hf0
  have hcs0 := k48_open hK0
  rcases cs0 with ⟨cs0⟩
  replace hcs0 : cs0 = [.int .i64 x0.f0, .int .i64 x0.f1, .int .i64 x0.f2] := hcs0
  subst hcs0
  have k1 := h1
  have lt1 : ∀ x ∈ p1, x.block < W.heap.size := by obtain ⟨m, hm⟩ := k1; exact DataW.trod_lt m _ _ _ hm
  obtain ⟨cs1, rfl, hsz1⟩ := okWide_array Try.underlying49 (hval 1 49 v1 rfl rfl)
  obtain ⟨fu1, hf1⟩ := h1
  obtain ⟨x1, hK1, wf1⟩ := (opens49).read enc W true fu1 _ _ hf1
  have hcs1 := k49_open hK1
  rcases cs1 with ⟨cs1⟩
  replace hcs1 : cs1 = [.int .i64 x1.f0, .int .i64 x1.f1] := hcs1
  subst hcs1
  have k2 := h2
  have lt2 : ∀ x ∈ p2, x.block < W.heap.size := by obtain ⟨m, hm⟩ := k2; exact DataW.trod_lt m _ _ _ hm
  obtain ⟨b2, rfl⟩ := okWide_int Try.underlying3 (hval 2 3 v2 rfl rfl)
  obtain ⟨fu2, hf2⟩ := h2
  obtain ⟨x2, hK2, wf2⟩ := ((Opens.int Try.underlying3)).read enc W true fu2 _ _ hf2
  obtain rfl : x2 = b2 := by have h_ : [Value.int .i64 b2] = [Value.int .i64 x2] := hK2; have h2_ : b2 = x2 := (by simpa using h_); exact h2_.symm
  clear hA0 hval0 hsz0
  obtain ⟨k, hk⟩ : ∃ k, regletlaw21_PaintWindow.f k x0.f0 x0.f1 x0.f2 x1.f0 x1.f1 x2 = some true := Pure.PaintWindow x0 x1 x2 wf0 wf1 wf2
  refine (regletlaw21_PaintWindow.calls k _ _ _ _ _ _ true W hk).mono fun e W' ⟨he, bel⟩ => ?_
  subst he
  exact ⟨_, rfl, _, _, _, [], _, [], hW', trodAll_mk1 (shut_bool Try.underlying4 _), (trodAll_cons_mk (Below.trod laidOut (by kernel_rfl) (of_decide_eq_true (by kernel_rfl)) k0 bel lt0) (trodAll_cons_mk (Below.trod laidOut (by kernel_rfl) (of_decide_eq_true (by kernel_rfl)) k1 bel lt1) (trodAll_cons_mk (Below.trod laidOut (by kernel_rfl) (of_decide_eq_true (by kernel_rfl)) k2 bel lt2) trodAll_mk0))), rfl, bel.frame _, fun h => by cases h⟩
theorem over : Rows.paintWindowRow.holds Try.pinned (OpenSpec.ofChange Rows.paintWindowSpec) :=
  OpenClaim.holds_of_wide 5 Try.f5 rfl rfl rfl rfl rfl rfl rfl ⟨rfl, rfl, rfl, rfl, rfl⟩ rfl rfl rfl rfl rfl (by kernel_rfl) Try.func5 (by kernel_rfl)
    (of_decide_eq_true (by kernel_rfl)) (by unfold Func.isWrapper; first | (rw [if_pos (by decide +kernel)]; kernel_rfl) | (rw [if_neg (by decide +kernel)]; exact ⟨rfl, rfl⟩))
    (fun os started H enc _ => lifted os started H enc)
theorem proved : Rows.PaintWindowSaid := over
#print axioms proved
end Go.Proofs.Ytblmcdpfhdamjaa.paintWindow
namespace Go.Proofs.Ytblmcdpfhdamjaa
/-- The row, under a short name, for the claim. -/
theorem paintWindow_holds : Rows.PaintWindowSaid := paintWindow.proved
end Go.Proofs.Ytblmcdpfhdamjaa
