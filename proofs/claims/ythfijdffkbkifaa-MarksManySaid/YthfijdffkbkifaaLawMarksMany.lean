/- The law MarksMany: called with any arguments that can be read as data, it returns true, and they read afterwards as they did. No condition. (The row, out of the pure statement.) -/
import Derived.Test.YthfijdffkbkifaaRows
import Derived.Test.YthfijdffkbkifaaOpensMarksMany
import Derived.Test.YthfijdffkbkifaaPureMarksMany
import Derived.Test.YthfijdffkbkifaaA2MarksMany
import Derived.Test.YthfijdffkbkifaaC3MarksMany
import Derived.WalkKit
import Derived.ProofKit
import Derived.OpenShut
import Derived.ShutString
import Derived.ChangeOld
import Derived.Below
import Derived.Carry
import Derived.SizedLaws
namespace Go.Proofs.Ythfijdffkbkifaa.marksMany
open Go.ChangeShapes Go.WideShapes Go.ChangeAt Go.RowKit Go.AL Go.AL.X Go.Proofs.Ythfijdffkbkifaa.PMarksMany Go.Proofs.Ythfijdffkbkifaa.PMarksMany Enc
set_option linter.unusedVariables false
theorem own : ownKnob Try.prog.godebug = none := by kernel_rfl
theorem laidOut : laidOutB Try.prog = true := by kernel_rfl
set_option maxHeartbeats 4000000 in
set_option maxRecDepth 100000 in
theorem lifted (os : Os) (started : os.Started) (H : Type) (enc : TypeId × Value → H) :
    ReturnsInHanded {} Try.checked os 3 .any (Rows.marksManySpec.pre6 enc Try.prog Try.f3 Rows.marksManyRow.domain false) (Rows.marksManySpec.post enc Try.prog Try.f3 false true false false) := by
  refine returnsInHanded_of_change_sized (C := Try.checked) own started (by kernel_rfl) Try.func3
    (ChangeSpec.witness6 (enc := enc) (C := Try.checked) false ⟨#[], #[.int .i64 0, .int .i64 0], []⟩ 8 (by kernel_rfl) (by kernel_rfl) (by kernel_rfl) (by kernel_rfl)) ?_
  intro W base args ds gs before hval0 hW hcnd hsz0 _
  have hval : ∀ (j : Nat) t v, Try.f3.params[j]? = some t → args[j]? = some v → Value.okWide Try.prog W .any base t v := hval0
  have hW' := hW
  obtain ⟨p, q, hA0, hV, rfl, hfz, hnd⟩ := hW
  have hA : DataW.TrodAll enc Try.prog W 0 (fun _ => true) true Try.f3.params.toList args.toList ds p := hA0
  rw [Try.params3] at hA hval
  obtain ⟨v0, vs0, d0, ds0, p0, q0, hargs, rfl, rfl, h0, r0⟩ := trodAll_cons hA
  obtain ⟨v1, vs1, d1, ds1, p1, q1, rfl, rfl, rfl, h1, r1⟩ := trodAll_cons r0
  obtain ⟨rfl, rfl, rfl⟩ := trodAll_nil r1
  obtain rfl : args = #[v0, v1] := by cases args; simp_all
  obtain ⟨rfl, rfl⟩ := trodVars_none hV
  have k0 := h0
  have lt0 : ∀ x ∈ p0, x.block < W.heap.size := by obtain ⟨m, hm⟩ := k0; exact DataW.trod_lt m _ _ _ hm
  obtain ⟨fu0, hf0⟩ := h0
  obtain ⟨b0, rfl⟩ := okWide_int Try.underlying3 (hval 0 3 v0 rfl rfl)
  obtain ⟨x0, hK0, wf0⟩ := ((Opens.int Try.underlying3)).read enc W true fu0 _ _ hf0 (fun m hm => of_decide_eq_true (List.all_eq_true.1 hsz0 _ (DataW.weights_mem_each (j := 0) (by rw [Try.params3]; rfl) rfl m hm)))
  have hR0 : Rv (fun b => b < W.heap.size) (fun _ => none) W (.int .i64 x0) _ := Cs.val1 hK0
  have k1 := h1
  have lt1 : ∀ x ∈ p1, x.block < W.heap.size := by obtain ⟨m, hm⟩ := k1; exact DataW.trod_lt m _ _ _ hm
  obtain ⟨fu1, hf1⟩ := h1
  obtain ⟨b1, rfl⟩ := okWide_int Try.underlying3 (hval 1 3 v1 rfl rfl)
  obtain ⟨x1, hK1, wf1⟩ := ((Opens.int Try.underlying3)).read enc W true fu1 _ _ hf1 (fun m hm => of_decide_eq_true (List.all_eq_true.1 hsz0 _ (DataW.weights_mem_each (j := 1) (by rw [Try.params3]; rfl) rfl m hm)))
  have hR1 : Rv (fun b => b < W.heap.size) (fun _ => none) W (.int .i64 x1) _ := Cs.val1 hK1
  clear hA0 hval0 hsz0
  obtain ⟨k, hk⟩ : ∃ k, regletlaw16_MarksMany.f k x0 x1 = some true := Pure.MarksMany x0 x1 wf0 wf1
  refine (Does.law (regletlaw16_MarksMany.does hk) (vals := #[_, _]) (w := W) rfl ?_ ?_).mono fun e W' ⟨he, bel⟩ => ?_
  · intro i x hx
    rcases i with _ | i
    · cases hx; exact hR0
    rcases i with _ | i
    · cases hx; exact hR1
    cases hx
  · intro r G hr; exact hr.1.trans rfl
  subst he
  exact ⟨_, rfl, _, _, _, [], _, [], hW', trodAll_mk1 (shut_bool Try.underlying4 _), (trodAll_cons_mk (Below.trod laidOut (by kernel_rfl) (of_decide_eq_true (by kernel_rfl)) k0 bel lt0) (trodAll_cons_mk (Below.trod laidOut (by kernel_rfl) (of_decide_eq_true (by kernel_rfl)) k1 bel lt1) trodAll_mk0)), rfl, bel.frame _, fun h => by cases h⟩
theorem over : Rows.marksManyRow.holds Try.pinned (OpenSpec.ofChange Rows.marksManySpec) :=
  OpenClaim.holds_of_wide 3 Try.f3 rfl rfl rfl rfl rfl rfl rfl ⟨rfl, rfl, rfl, rfl, rfl⟩ rfl rfl rfl rfl rfl (by kernel_rfl) Try.func3 (by kernel_rfl)
    (of_decide_eq_true (by kernel_rfl)) (by unfold Func.isWrapper; first | (rw [if_pos (by decide +kernel)]; kernel_rfl) | (rw [if_neg (by decide +kernel)]; exact ⟨rfl, rfl⟩))
    (fun os started H enc _ => lifted os started H enc)
theorem proved : Rows.MarksManySaid := over
#print axioms proved
end Go.Proofs.Ythfijdffkbkifaa.marksMany
namespace Go.Proofs.Ythfijdffkbkifaa
/-- The row, under a short name, for the claim. -/
theorem marksMany_holds : Rows.MarksManySaid := marksMany.proved
end Go.Proofs.Ythfijdffkbkifaa
