/-
What lies beyond the damage is the same in both layouts: the pure statement of the law PaintEnough. No condition.
-/
import Derived.Test.YtblmcdpfhdamjaaOpensPaintEnough
import Derived.Test.YtblmcdpfhdamjaaPEnPaintEnough
namespace Go.Proofs.Ytblmcdpfhdamjaa.Pure
set_option linter.unusedVariables false
set_option linter.unusedSimpArgs false
open Go.RowKit hiding wrap64
open Go.Proofs.Ytblmcdpfhdamjaa.PPaintEnough
open Go.Proofs.YtblmcdpfhdamjaaW.PrintWords hiding mx mn

theorem awake_ev : Ev (fun k => regletlaw21_awake.f k) true :=
  Ev.of (fun k => regletlaw21_awake.mono k) (k := 60) (by decide +kernel)
theorem l2_ev {a b : List S66} {L : List S56} {p i : Nat} (hp : p < a.length) (h40 : a[p].f0.length ≤ 40) {x : S25} (hx : Ok x) (hok : ∀ y ∈ a[p].f0, Ok y) (hi : i < 40) (hk : Ev (fun k => regletlaw21_PaintEnough.l1 k a b L (p : Int) ((i + 1 : Nat) : Int)) true) :
    ∀ (t : List S25) (j : Nat) (f : Bool), a[p].f0.drop j = t → (f = true ∨ ∃ y ∈ t, Ln y x true) → Ev (fun k => regletlaw21_PaintEnough.l2 k a b L (p : Int) (i : Int) f (j : Int) x.f0 x.f1 x.f2 x.f3 x.f4 x.f5 x.f6 x.f7 x.f8) true
  | [], j, f, h, hf => by
    have := dropN h
    have hf' : f = true := hf.elim id (fun ⟨y, hy, _⟩ => by simp at hy)
    subst hf'
    exact Ev.step (fun k => by rw [regletlaw21_PaintEnough.l2, if_pos (by omega), if_pos (by omega), g66 hp, if_neg (by omega), if_pos rfl, upN (by omega)]) hk
  | y :: t, j, f, h, hf => by
    obtain ⟨h1, h2, h3⟩ := d25 h
    cases f with
    | true => exact Ev.step (fun k => by rw [regletlaw21_PaintEnough.l2, if_pos (by omega), if_pos (by omega), g66 hp, if_pos (by omega), if_pos rfl, upN (by omega)]) (l2_ev hp h40 hx hok hi hk t (j + 1) true h3 (.inl rfl))
    | false =>
      have hy : y ∈ a[p].f0 := List.mem_of_mem_drop (by rw [h]; exact List.mem_cons_self)
      have hc : ∃ c, Ln y x c ∧ (c = true ∨ ∃ z ∈ t, Ln z x true) := by
        rcases hf with e | ⟨z, hz, e⟩
        · cases e
        · rcases List.mem_cons.1 hz with e2 | e2
          · subst e2; exact ⟨true, e, .inl rfl⟩
          · obtain ⟨c, hc⟩ := line_ev y x (hok y hy) hx
            exact ⟨c, hc, .inr ⟨z, e2, e⟩⟩
      obtain ⟨c, hc, hr⟩ := hc
      exact Ev.step (fun k => by rw [regletlaw21_PaintEnough.l2, if_pos (by omega), if_pos (by omega), g66 hp, if_pos (by omega), if_neg (by simp), if_pos (by omega), h2, upN (by omega)]) (Ev.bind hc (l2_ev hp h40 hx hok hi hk t (j + 1) c h3 hr))
theorem l1_ev {a b : List S66} (ha : LayOk a) (hb : LayOk b) {R : List S113} {D : List S90} (hD : D.length ≤ 100) (hR : Covs a b 0 R) (hB : ∀ r ∈ R, Bnd r D) {p : Nat} (hpa : p < a.length) (hpb : p < b.length)
    (hk : Ev (fun k => regletlaw21_PaintEnough.l0 k a b (D.map tb_) ((p + 1 : Nat) : Int)) true) :
    ∀ (t : List S25) (i : Nat), b[p].f0.drop i = t → Ev (fun k => regletlaw21_PaintEnough.l1 k a b (D.map tb_) (p : Int) (i : Int)) true
  | [], i, h => by
    have := dropN h
    have := hb.n
    exact Ev.step (fun k => by rw [regletlaw21_PaintEnough.l1, if_pos (by omega), if_pos (by omega), g66 hpb, if_neg (by omega), upN (by omega)]) hk
  | x :: t, i, h => by
    obtain ⟨h1, h2, h3⟩ := d25 h
    have hx : x ∈ b[p].f0 := List.mem_of_mem_drop (by rw [h]; exact List.mem_cons_self)
    have pa := ha.pg _ (List.getElem_mem hpa)
    have pb := hb.pg _ (List.getElem_mem hpb)
    have n1 := pa.n
    have n2 := pb.n
    have n3 := hb.n
    have ih := l1_ev ha hb hD hR hB hpa hpb hk t (i + 1) h3
    have skip : Ev (fun k => regletlaw21_PaintEnough.j4 k a b (D.map tb_) (p : Int) (i : Int) true x.f0 x.f1 x.f2 x.f3 x.f4 x.f5 x.f6 x.f7 x.f8) true :=
      Ev.step (fun k => by rw [regletlaw21_PaintEnough.j4, if_pos rfl, upN (by omega)]) ih
    by_cases c : x.f4 < 1
    · exact Ev.step (fun k => by rw [regletlaw21_PaintEnough.l1, if_pos (by omega), if_pos (by omega), g66 hpb, if_pos (by omega), if_pos (by omega), h2, if_pos c]) skip
    obtain ⟨q, hq, hq2⟩ := touched_l0 (L := D.map tb_) (by rw [List.length_map]; exact hD) p (pb.nice x hx) (D.map tb_) 0 rfl
    refine Ev.step (fun k => by rw [regletlaw21_PaintEnough.l1, if_pos (by omega), if_pos (by omega), g66 hpb, if_pos (by omega), if_pos (by omega), h2, if_neg c]) (Ev.bind (by unfold regletlaw21_touched.f; exact hq) ?_)
    cases q with
    | true => exact skip
    | false =>
      refine Ev.step (fun k => by rw [regletlaw21_PaintEnough.j4, if_neg (by simp)]) ?_
      refine l2_ev hpa n1 (pb.ok x hx) pa.ok (by omega) ih a[p].f0 0 false rfl (.inr ?_)
      rcases hR p hpa hpb (Nat.zero_le _) x hx with g | ⟨r, hr, e1, e2⟩
      · exact g
      · obtain ⟨d, hd, f1, f2, f3⟩ := hB r hr x e2 (by omega)
        have hn := pb.nice x hx
        refine (hq2 rfl (tb_ d) (List.mem_map.2 ⟨d, hd, rfl⟩) (f1.trans e1) ?_ ?_).elim
        · show d.f1 < x.f6 + x.f4; omega
        · show x.f6 < d.f2; omega
theorem l0_ev {a b : List S66} (ha : LayOk a) (hb : LayOk b) {R : List S113} {D : List S90} (hD : D.length ≤ 100) (hR : Covs a b 0 R) (hB : ∀ r ∈ R, Bnd r D) : ∀ d p : Nat, p + d = a.length → Ev (fun k => regletlaw21_PaintEnough.l0 k a b (D.map tb_) (p : Int)) true
  | 0, p, h => Ev.step (fun k => by rw [regletlaw21_PaintEnough.l0, if_neg (by omega)]) (Ev.step (fun k => by rw [regletlaw21_PaintEnough.j2, if_neg (by simp)]) (Ev.now true))
  | d + 1, p, h => by
    have ih := l0_ev ha hb hD hR hB d (p + 1) (by omega)
    by_cases c : p < b.length
    · refine Ev.step (fun k => by rw [regletlaw21_PaintEnough.l0, if_pos (by omega), decide_eq_true (show (p : Int) < (b.length : Int) by omega)]) (Ev.step (fun k => by rw [regletlaw21_PaintEnough.j2, if_pos rfl]) ?_)
      exact l1_ev ha hb hD hR hB (by omega) c ih b[p].f0 0 rfl
    · exact Ev.step (fun k => by rw [regletlaw21_PaintEnough.l0, if_pos (by omega), decide_eq_false (show ¬ (p : Int) < (b.length : Int) by omega)]) (Ev.step (fun k => by rw [regletlaw21_PaintEnough.j2, if_neg (by simp)]) (Ev.now true))
theorem ok_of {l : List S66} (h : ∀ y ∈ l, WF66 y) : ∀ p ∈ l, ∀ x ∈ p.f0, Ok x := fun p hp x hx => by
  have := ((h p hp).2 x hx).2.1.1
  unfold Ok lim; omega
theorem PaintEnough : regletlaw21_PaintEnough.PureX := by
  intro a b ha hb
  apply Ev.rounds
  unfold regletlaw21_PaintEnough.f
  refine Ev.bind awake_ev ?_
  refine Ev.congr (fun k => by rw [if_pos rfl]) ?_
  have stop : Ev (fun k => regletlaw21_PaintEnough.j0 k a b true) true := Ev.step (fun k => by rw [regletlaw21_PaintEnough.j0, if_pos rfl]) (Ev.now true)
  obtain ⟨q, h1, h2⟩ := few_ev (ok_of ha.2)
  refine Ev.bind h1 ?_
  cases q with
  | false => exact stop
  | true =>
    obtain ⟨q2, h3, h4⟩ := few_ev (ok_of hb.2)
    refine Ev.congr (fun k => by rw [if_pos rfl]) (Ev.bind h3 ?_)
    cases q2 with
    | false => exact stop
    | true =>
      have la := h2 rfl
      have lb := h4 rfl
      obtain ⟨R, r1, r2, r3, r4⟩ := diff_ev la lb
      obtain ⟨D, d1, d2, d3⟩ := damage_ev la r2 r3
      refine Ev.step (fun k => by rw [show (!true) = false from rfl, regletlaw21_PaintEnough.j0, if_neg (by simp)]) (Ev.bind r1 (Ev.bind d1 (Ev.bind (bands_l0 d2 D 0 [] rfl rfl) ?_)))
      exact l0_ev la lb d2 r4 d3 a.length 0 (by omega)
end Go.Proofs.Ytblmcdpfhdamjaa.Pure
