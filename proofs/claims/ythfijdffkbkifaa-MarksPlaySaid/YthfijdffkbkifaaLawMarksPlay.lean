/- The law MarksPlay: called with any arguments that can be read as data, it returns true, and they read afterwards as they did. No condition. (The row, out of the pure statement.) -/
import Derived.Test.YthfijdffkbkifaaRows
import Derived.Test.YthfijdffkbkifaaOpensMarksPlay
import Derived.Test.YthfijdffkbkifaaPureMarksPlay
import Derived.Test.YthfijdffkbkifaaA2MarksPlay
import Derived.Test.YthfijdffkbkifaaC6MarksPlay
import Derived.WalkKit
import Derived.ProofKit
import Derived.OpenShut
import Derived.ShutString
import Derived.ChangeOld
import Derived.Below
import Derived.Carry
import Derived.SizedLaws
namespace Go.Proofs.Ythfijdffkbkifaa.marksPlay
open Go.ChangeShapes Go.WideShapes Go.ChangeAt Go.RowKit Go.AL Go.AL.X Go.Proofs.Ythfijdffkbkifaa.PMarksPlay Go.Proofs.Ythfijdffkbkifaa.PMarksPlay Enc
set_option linter.unusedVariables false
theorem own : ownKnob Try.prog.godebug = none := by kernel_rfl
theorem laidOut : laidOutB Try.prog = true := by kernel_rfl
set_option maxHeartbeats 4000000 in
set_option maxRecDepth 100000 in
theorem lifted (os : Os) (started : os.Started) (H : Type) (enc : TypeId × Value → H) :
    ReturnsInHanded {} Try.checked os 6 .any (Rows.marksPlaySpec.pre6 enc Try.prog Try.f6 Rows.marksPlayRow.domain false) (Rows.marksPlaySpec.post enc Try.prog Try.f6 false true false false) := by
  refine returnsInHanded_of_change_sized (C := Try.checked) own started (by kernel_rfl) Try.func6
    (ChangeSpec.witness6 (enc := enc) (C := Try.checked) false ⟨#[], #[.int .i64 0, .slice none 0 0, .int .i64 0], []⟩ 8 (by kernel_rfl) (by kernel_rfl) (by kernel_rfl) (by kernel_rfl)) ?_
  intro W base args ds gs before hval0 hW hcnd hsz0 _
  have hval : ∀ (j : Nat) t v, Try.f6.params[j]? = some t → args[j]? = some v → Value.okWide Try.prog W .any base t v := hval0
  have hW' := hW
  obtain ⟨p, q, hA0, hV, rfl, hfz, hnd⟩ := hW
  have hA : DataW.TrodAll enc Try.prog W 0 (fun _ => true) true Try.f6.params.toList args.toList ds p := hA0
  rw [Try.params6] at hA hval
  obtain ⟨v0, vs0, d0, ds0, p0, q0, hargs, rfl, rfl, h0, r0⟩ := trodAll_cons hA
  obtain ⟨v1, vs1, d1, ds1, p1, q1, rfl, rfl, rfl, h1, r1⟩ := trodAll_cons r0
  obtain ⟨v2, vs2, d2, ds2, p2, q2, rfl, rfl, rfl, h2, r2⟩ := trodAll_cons r1
  obtain ⟨rfl, rfl, rfl⟩ := trodAll_nil r2
  obtain rfl : args = #[v0, v1, v2] := by cases args; simp_all
  obtain ⟨rfl, rfl⟩ := trodVars_none hV
  have k0 := h0
  have lt0 : ∀ x ∈ p0, x.block < W.heap.size := by obtain ⟨m, hm⟩ := k0; exact DataW.trod_lt m _ _ _ hm
  obtain ⟨fu0, hf0⟩ := h0
  obtain ⟨b0, rfl⟩ := okWide_int Try.underlying3 (hval 0 3 v0 rfl rfl)
  obtain ⟨x0, hK0, wf0⟩ := ((Opens.int Try.underlying3)).read enc W true fu0 _ _ hf0 (fun m hm => of_decide_eq_true (List.all_eq_true.1 hsz0 _ (DataW.weights_mem_each (j := 0) (by rw [Try.params6]; rfl) rfl m hm)))
  have hR0 : Rv (fun b => b < W.heap.size) (fun _ => none) W (.int .i64 x0) _ := Cs.val1 hK0
  have k1 := h1
  have lt1 : ∀ x ∈ p1, x.block < W.heap.size := by obtain ⟨m, hm⟩ := k1; exact DataW.trod_lt m _ _ _ hm
  obtain ⟨fu1, hf1⟩ := h1
  obtain ⟨a1, len1, cap1, rfl⟩ := okWide_slice Try.underlying32 (hval 1 32 v1 rfl rfl)
  obtain ⟨x1, hK1, wf1⟩ := ((Opens.slice (B := 32) Try.underlying32 (by kernel_rfl) (by kernel_rfl) opens34)).read enc W true fu1 _ _ hf1 (fun m hm => of_decide_eq_true (List.all_eq_true.1 hsz0 _ (DataW.weights_mem_each (j := 1) (by rw [Try.params6]; rfl) rfl m hm)))
  have hR1 : Rv (fun b => b < W.heap.size) (fun _ => none) W (.sl (x1.map Enc.enc)) _ := Cs.val1 hK1
  have k2 := h2
  have lt2 : ∀ x ∈ p2, x.block < W.heap.size := by obtain ⟨m, hm⟩ := k2; exact DataW.trod_lt m _ _ _ hm
  obtain ⟨fu2, hf2⟩ := h2
  obtain ⟨b2, rfl⟩ := okWide_int Try.underlying3 (hval 2 3 v2 rfl rfl)
  obtain ⟨x2, hK2, wf2⟩ := ((Opens.int Try.underlying3)).read enc W true fu2 _ _ hf2 (fun m hm => of_decide_eq_true (List.all_eq_true.1 hsz0 _ (DataW.weights_mem_each (j := 2) (by rw [Try.params6]; rfl) rfl m hm)))
  have hR2 : Rv (fun b => b < W.heap.size) (fun _ => none) W (.int .i64 x2) _ := Cs.val1 hK2
  clear hA0 hval0 hsz0
  obtain ⟨k, hk⟩ : ∃ k, regletlaw16_MarksPlay.f k x0 x1 x2 = some true := Pure.MarksPlay x0 x1 x2 wf0 wf1 wf2
  refine (Does.law (regletlaw16_MarksPlay.does hk) (vals := #[_, _, _]) (w := W) rfl ?_ ?_).mono fun e W' ⟨he, bel⟩ => ?_
  · intro i x hx
    rcases i with _ | i
    · cases hx; exact hR0
    rcases i with _ | i
    · cases hx; exact hR1
    rcases i with _ | i
    · cases hx; exact hR2
    cases hx
  · intro r G hr; exact hr.1.trans rfl
  subst he
  exact ⟨_, rfl, _, _, _, [], _, [], hW', trodAll_mk1 (shut_bool Try.underlying4 _), (trodAll_cons_mk (Below.trod laidOut (by kernel_rfl) (of_decide_eq_true (by kernel_rfl)) k0 bel lt0) (trodAll_cons_mk (Below.trod laidOut (by kernel_rfl) (of_decide_eq_true (by kernel_rfl)) k1 bel lt1) (trodAll_cons_mk (Below.trod laidOut (by kernel_rfl) (of_decide_eq_true (by kernel_rfl)) k2 bel lt2) trodAll_mk0))), rfl, bel.frame _, fun h => by cases h⟩
theorem over : Rows.marksPlayRow.holds Try.pinned (OpenSpec.ofChange Rows.marksPlaySpec) :=
  OpenClaim.holds_of_wide 6 Try.f6 rfl rfl rfl rfl rfl rfl rfl ⟨rfl, rfl, rfl, rfl, rfl⟩ rfl rfl rfl rfl rfl (by kernel_rfl) Try.func6 (by kernel_rfl)
    (of_decide_eq_true (by kernel_rfl)) (by unfold Func.isWrapper; first | (rw [if_pos (by decide +kernel)]; kernel_rfl) | (rw [if_neg (by decide +kernel)]; exact ⟨rfl, rfl⟩))
    (fun os started H enc _ => lifted os started H enc)
theorem proved : Rows.MarksPlaySaid := over
#print axioms proved
end Go.Proofs.Ythfijdffkbkifaa.marksPlay
namespace Go.Proofs.Ythfijdffkbkifaa
/-- The row, under a short name, for the claim. -/
theorem marksPlay_holds : Rows.MarksPlaySaid := marksPlay.proved
end Go.Proofs.Ythfijdffkbkifaa
