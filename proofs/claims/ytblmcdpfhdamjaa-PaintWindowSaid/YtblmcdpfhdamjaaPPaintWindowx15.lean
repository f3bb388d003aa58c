-- WRITTEN BY wip/xprint.py of this repo, over the kit's print; functions the print does not take are by hand
import Derived.Test.YtblmcdpfhdamjaaPPaintWindowx0
namespace Go.Proofs.Ytblmcdpfhdamjaa.PPaintWindow
open Go.RowKit Go.Proofs.YtblmcdpfhdamjaaW.PrintWords Go.Proofs.YtblmcdpfhdamjaaW.PrintLast Go.Proofs.YtblmcdpfhdamjaaW.PrintMore
attribute [local go_sem] max2_int min2_int max_two min_two max_three min_three max_four min_four   -- for this text's walks alone
set_option linter.unusedVariables false
set_option linter.unusedSimpArgs false
/-! ### regletlaw21_bands: function 22 -/
def regletlaw21_bands.l0 : Nat → List (S90) → List (S56) → Int → Option ((List (S56)))
  | 0, _, _, _ => none
  | k + 1, x0, x3, x4 => if x4 < (x0.length : Int) then (if 0 ≤ x4 then (if x3.length < 5864062014805 then (regletlaw21_bands.l0 k x0 (x3 ++ [(⟨(rd_T90 x0 x4).f0, (rd_T90 x0 x4).f1, (rd_T90 x0 x4).f2⟩ : S56)]) (wrap64 (x4 + 1))) else (none)) else (none)) else (some x3)
def regletlaw21_bands.f (k : Nat) (l0 : List (S90)) : Option ((List (S56))) := regletlaw21_bands.l0 k l0 ([] : List (S56)) 0
theorem regletlaw21_bands.mono_l : ∀ k, (∀ y0 y1 y2, LeO (regletlaw21_bands.l0 k y0 y1 y2) (regletlaw21_bands.l0 (k + 1) y0 y1 y2))
  | 0 => fun _ _ _ r h => by simp [regletlaw21_bands.l0] at h
  | k + 1 => by
    have ih0 := regletlaw21_bands.mono_l k
    · intro y0 y1 y2
      unfold regletlaw21_bands.l0
      repeat' first | (with_reducible first | exact ih0 _ _ _ | exact LeO.refl _ | exact LeO.none _ | refine LeO.ite ?_ ?_ | refine LeO.bind ?_ (fun _ => ?_)) | exact ih0 _ _ _ | exact LeO.none _ | refine LeO.ite ?_ ?_ | refine LeO.bind ?_ (fun _ => ?_)
theorem regletlaw21_bands.mono : ∀ a0 k, LeO (regletlaw21_bands.f k a0) (regletlaw21_bands.f (k + 1) a0) := by
  intro a0 k
  have ih0 := regletlaw21_bands.mono_l k
  unfold regletlaw21_bands.f
  repeat' first | (with_reducible first | exact ih0 _ _ _ | exact LeO.refl _ | exact LeO.none _ | refine LeO.ite ?_ ?_ | refine LeO.bind ?_ (fun _ => ?_)) | exact ih0 _ _ _ | exact LeO.none _ | refine LeO.ite ?_ ?_ | refine LeO.bind ?_ (fun _ => ?_)
def regletlaw21_bands.T5 : Bool × List (List Nat × List Nat) := (true, [([], []), ([], []), ([], []), ([1, 2], [1, 2]), ([3], [3]), ([4], [4]), ([], []), ([], []), ([6, 7], [6, 7]), ([8], [8]), ([9], [9]), ([], []), ([], []), ([11, 12], [11, 12]), ([13], [13]), ([14], [14]), ([5, 10, 15], [5, 10, 15]), ([16], [16]), ([0, 17], [0, 17]), ([18, 18, 0, 1, 2, 3, 4, 5, 6, 7, 8, 9, 10, 11, 12, 13, 14, 15, 16, 17, 18], [0, 18])])
def regletlaw21_bands.B5 : List Nat := [0, 0, 0, 6, 14, 30, 0, 0, 192, 448, 960, 0, 0, 6144, 14336, 30720, 65534, 131070, 262143, 524287]
theorem regletlaw21_bands.tab5 : rtab .any (opsOf Try.f22 5) = regletlaw21_bands.T5 := by kernel_rfl
theorem regletlaw21_bands.bits5 : waitsOk regletlaw21_bands.T5.2 regletlaw21_bands.B5 = true := by kernel_rfl
set_option maxHeartbeats 8000000 in
set_option maxRecDepth 100000 in
theorem regletlaw21_bands.calls (k : Nat) (A0 : Option Addr) (c0 : Nat) (l0 : List (S90)) (r : List (S56)) (w : World) (hr0 : Kd.C k90 w A0 l0.length l0) (hc0 : l0.length ≤ c0) (h : regletlaw21_bands.f k l0 = some r) :
    Calls Try.prog 22 #[.slice A0 l0.length c0] w fun e w' => ∃ v0_ : Value, e = .returned (v0_) ∧ Kd.R k56 56 w' w.heap.size (fun _ => True) v0_ r ∧ Below w.heap.size w w' := by
  have hu56 := Try.underlying56
  have HR0 := Aside0.mk hr0
  have HC0 := Aside0.mk hc0
  clear hr0 hc0
  have HB := Aside0.mk (Below.refl w.heap.size w)
  have H : (regletlaw21_bands.l0 k l0 ([] : List (S56)) 0) = some r := h
  clear h
  have H' := Aside0.mk H
  clear H
  go_enter Try.func22, Try.ntmps22
  go_wp2
  go_loopg [3, 4] k (fun kq v3 v4 w' => ∃ (x3_1 : List (S56)) (x4_1 : Int), v4 = .int .i64 x4_1 ∧ Aside0 (regletlaw21_bands.l0 kq l0 x3_1 x4_1 = some r) ∧ Aside0 (kq ≤ k) ∧ Aside0 (Kd.R k56 56 w' w.heap.size (fun _ => True) v3 x3_1) ∧ Aside0 (Below w.heap.size w w'))
  case atStart => exact ⟨(([] : List (S56))), (0), z208_, H', ⟨Nat.le_refl _⟩, ⟨z111_⟩, ⟨z117_⟩⟩
  case round =>
    clear H'
    obtain ⟨x3_1, x4_1, rfl, HA, HK1, HO_3, HB⟩ := hrel
    cases gk with
    | zero => exact absurd HA.out (by simp [regletlaw21_bands.l0])
    | succ k1 =>
      have H := HA.out
      clear HA
      simp only [regletlaw21_bands.l0] at H
      by_cases c2 : x4_1 < (l0.length : Int)
      rotate_left
      · rw [if_neg c2] at H
        have c2b0 : decide (x4_1 < (l0.length : Int)) = false := decide_eq_false c2
        clear c2
        obtain rfl := Option.some.inj H
        go_wp2
        go_ret
        exact ⟨_, z178_, z169_, z117_⟩
      rw [if_pos c2] at H
      have c2b0 : decide (x4_1 < (l0.length : Int)) = true := decide_eq_true c2
      clear c2
      by_cases c3 : 0 ≤ x4_1
      rotate_left
      · rw [if_neg c3] at H
        exact absurd H (by simp)
      rw [if_pos c3] at H
      have c3b0 : decide (0 ≤ x4_1) = true := decide_eq_true c3
      clear c3
      by_cases c4 : x3_1.length < 5864062014805
      rotate_left
      · rw [if_neg c4] at H
        exact absurd H (by simp)
      rw [if_pos c4] at H
      have LMc4 := Aside0.mk c4
      clear c4
      obtain ⟨y321, hy321⟩ : ∃ y_ : List (S56), y_ = (x3_1 ++ [(⟨(rd_T90 l0 x4_1).f0, (rd_T90 l0 x4_1).f1, (rd_T90 l0 x4_1).f2⟩ : S56)]) := ⟨_, rfl⟩
      replace H : (regletlaw21_bands.l0 k1 l0 y321 (wrap64 (x4_1 + 1))) = some r := by first | (rw [hy321]; with_reducible exact H) | (have H2_ := (Option.bind_some _ _).symm.trans H; rw [hy321]; with_reducible exact H2_) | (have H2_ := (Option.bind_some _ _).symm.trans H; with_reducible exact H2_) | with_reducible exact H | (rw [hy321]; exact H) | exact H
      have Ny321 := Aside0.mk hy321
      clear hy321
      have H' := Aside0.mk H
      clear H
      try go_wp2
      replace HO_3 := Aside0.mk (Kd.R_drew HO_3.out)
      replace HB := Aside0.mk (below_drew1 HB.out)
      have p318 : 0 ≤ (x4_1 : Int) := of_decide_eq_true z204_
      have q318 : x4_1 < (l0.length : Int) := of_decide_eq_true z204_
      obtain ⟨ad318, e318, hx318_0, hx318_1, hx318_2⟩ := at_T90 HR0.out x4_1 p318 q318
      have hw318_2 := hx318_2
      have hw318_1 := hx318_1
      have hw318_0 := hx318_0
      cases e318
      replace hx318_0 := (HB.out.cell (World.block_lt_of_cell? w _ hx318_0)).trans hx318_0
      replace hx318_1 := (HB.out.cell (World.block_lt_of_cell? w _ hx318_1)).trans hx318_1
      replace hx318_2 := (HB.out.cell (World.block_lt_of_cell? w _ hx318_2)).trans hx318_2
      replace p318 := eq_true p318
      replace q318 := eq_true q318
      have p319 : 0 ≤ (x4_1 : Int) := of_decide_eq_true z204_
      have q319 : x4_1 < (l0.length : Int) := of_decide_eq_true z204_
      obtain ⟨ad319, e319, hx319_0, hx319_1, hx319_2⟩ := at_T90 HR0.out x4_1 p319 q319
      have hw319_2 := hx319_2
      have hw319_1 := hx319_1
      have hw319_0 := hx319_0
      obtain rfl : ad318 = ad319 := (by injection e319)
      replace hx319_0 := (HB.out.cell (World.block_lt_of_cell? w _ hx319_0)).trans hx319_0
      replace hx319_1 := (HB.out.cell (World.block_lt_of_cell? w _ hx319_1)).trans hx319_1
      replace hx319_2 := (HB.out.cell (World.block_lt_of_cell? w _ hx319_2)).trans hx319_2
      replace p319 := eq_true p319
      replace q319 := eq_true q319
      have p320 : 0 ≤ (x4_1 : Int) := of_decide_eq_true z204_
      have q320 : x4_1 < (l0.length : Int) := of_decide_eq_true z204_
      obtain ⟨ad320, e320, hx320_0, hx320_1, hx320_2⟩ := at_T90 HR0.out x4_1 p320 q320
      have hw320_2 := hx320_2
      have hw320_1 := hx320_1
      have hw320_0 := hx320_0
      obtain rfl : ad318 = ad320 := (by injection e320)
      replace hx320_0 := (HB.out.cell (World.block_lt_of_cell? w _ hx320_0)).trans hx320_0
      replace hx320_1 := (HB.out.cell (World.block_lt_of_cell? w _ hx320_1)).trans hx320_1
      replace hx320_2 := (HB.out.cell (World.block_lt_of_cell? w _ hx320_2)).trans hx320_2
      replace p320 := eq_true p320
      replace q320 := eq_true q320
      refine start_ (n := 20) (S := fun w' => w'.cell? (ad318.add ((x4_1).toNat * 3)) = some (.int .i64 ((rd_T90 l0 x4_1).f0)) ∧ w'.cell? ⟨(ad318.add ((x4_1).toNat * 3)).block, (ad318.add ((x4_1).toNat * 3)).off + 1, none⟩ = some (.int .i64 ((rd_T90 l0 x4_1).f1)) ∧ w'.cell? ⟨(ad318.add ((x4_1).toNat * 3)).block, (ad318.add ((x4_1).toNat * 3)).off + 2, none⟩ = some (.int .i64 ((rd_T90 l0 x4_1).f2)) ∧ w'.cell? (ad318.add ((x4_1).toNat * 3)) = some (.int .i64 ((rd_T90 l0 x4_1).f0)) ∧ w'.cell? ⟨(ad318.add ((x4_1).toNat * 3)).block, (ad318.add ((x4_1).toNat * 3)).off + 1, none⟩ = some (.int .i64 ((rd_T90 l0 x4_1).f1)) ∧ w'.cell? ⟨(ad318.add ((x4_1).toNat * 3)).block, (ad318.add ((x4_1).toNat * 3)).off + 2, none⟩ = some (.int .i64 ((rd_T90 l0 x4_1).f2)) ∧ w'.cell? (ad318.add ((x4_1).toNat * 3)) = some (.int .i64 ((rd_T90 l0 x4_1).f0)) ∧ w'.cell? ⟨(ad318.add ((x4_1).toNat * 3)).block, (ad318.add ((x4_1).toNat * 3)).off + 1, none⟩ = some (.int .i64 ((rd_T90 l0 x4_1).f1)) ∧ w'.cell? ⟨(ad318.add ((x4_1).toNat * 3)).block, (ad318.add ((x4_1).toNat * 3)).off + 2, none⟩ = some (.int .i64 ((rd_T90 l0 x4_1).f2))) (ds := []) #[false, false, false, false, false, false, false, false, false, false, false, false, false, false, false, false, false, false, false, false] (by kernel_rfl) rfl rfl ⟨((HB.out.cell (World.block_lt_of_cell? w _ hw318_0)).trans hw318_0), ((HB.out.cell (World.block_lt_of_cell? w _ hw318_1)).trans hw318_1), ((HB.out.cell (World.block_lt_of_cell? w _ hw318_2)).trans hw318_2), ((HB.out.cell (World.block_lt_of_cell? w _ hw319_0)).trans hw319_0), ((HB.out.cell (World.block_lt_of_cell? w _ hw319_1)).trans hw319_1), ((HB.out.cell (World.block_lt_of_cell? w _ hw319_2)).trans hw319_2), ((HB.out.cell (World.block_lt_of_cell? w _ hw320_0)).trans hw320_0), ((HB.out.cell (World.block_lt_of_cell? w _ hw320_1)).trans hw320_1), ((HB.out.cell (World.block_lt_of_cell? w _ hw320_2)).trans hw320_2)⟩ (fun hHeld => ?_); refine with_tabW regletlaw21_bands.tab5 regletlaw21_bands.bits5 (fun HT_ HW_ => ?_)
      generalize wr.drew = w5 at HO_3 HB hx318_0 hx318_1 hx318_2 hx319_0 hx319_1 hx319_2 hx320_0 hx320_1 hx320_2 hHeld ⊢
      refine p1_ 0 11 #[true, false, false, false, false, false, false, false, false, false, false, false, false, false, false, false, false, false, false, false] ?_
      refine p1_ 1 12 #[true, true, false, false, false, false, false, false, false, false, false, false, false, false, false, false, false, false, false, false] ?_
      refine p1_ 2 13 #[true, true, true, false, false, false, false, false, false, false, false, false, false, false, false, false, false, false, false, false] ?_
      refine p1_ 3 14 #[true, true, true, true, false, false, false, false, false, false, false, false, false, false, false, false, false, false, false, false] ?_
      refine p1_ 4 15 #[true, true, true, true, true, false, false, false, false, false, false, false, false, false, false, false, false, false, false, false] ?_
      refine p1_ 6 17 #[true, true, true, true, true, false, true, false, false, false, false, false, false, false, false, false, false, false, false, false] ?_
      refine p1_ 7 18 #[true, true, true, true, true, false, true, true, false, false, false, false, false, false, false, false, false, false, false, false] ?_
      refine p1_ 8 19 #[true, true, true, true, true, false, true, true, true, false, false, false, false, false, false, false, false, false, false, false] ?_
      refine p1_ 9 20 #[true, true, true, true, true, false, true, true, true, true, false, false, false, false, false, false, false, false, false, false] ?_
      refine p1_ 11 22 #[true, true, true, true, true, false, true, true, true, true, false, true, false, false, false, false, false, false, false, false] ?_
      refine p1_ 12 23 #[true, true, true, true, true, false, true, true, true, true, false, true, true, false, false, false, false, false, false, false] ?_
      refine p1_ 13 24 #[true, true, true, true, true, false, true, true, true, true, false, true, true, true, false, false, false, false, false, false] ?_
      refine p1_ 14 25 #[true, true, true, true, true, false, true, true, true, true, false, true, true, true, true, false, false, false, false, false] ?_
      refine take_ (i := 5) (N := some 16) (v := ?_) (a' := ?_) #[true, true, true, true, true, true, true, true, true, true, false, true, true, true, true, false, false, false, false, false] rfl rfl (take_ofW HT_.out HW_.out (by kernel_rfl)) (fun _ _ _ h => h) (Or.inl ⟨by rfl, ?_⟩) hHeld ?_ ?_
      rotate_left
      · rintro w' ⟨s0, s1, s2, s3, s4, s5, s6, s7, s8⟩
        go_simp
        with_reducible rfl
      rotate_left
      · simp only [Act.put, List.setIfInBounds_toArray, List.set_cons_zero, List.set_cons_succ, i64_w, i32_w]
        rfl
      refine take_ (i := 10) (N := some 21) (v := ?_) (a' := ?_) #[true, true, true, true, true, true, true, true, true, true, true, true, true, true, true, false, false, false, false, false] rfl rfl (take_ofW HT_.out HW_.out (by kernel_rfl)) (fun _ _ _ h => h) (Or.inl ⟨by rfl, ?_⟩) hHeld ?_ ?_
      rotate_left
      · rintro w' ⟨s0, s1, s2, s3, s4, s5, s6, s7, s8⟩
        go_simp
        with_reducible rfl
      rotate_left
      · simp only [Act.put, List.setIfInBounds_toArray, List.set_cons_zero, List.set_cons_succ, i64_w, i32_w]
        rfl
      refine take_ (i := 15) (N := some 26) (v := ?_) (a' := ?_) #[true, true, true, true, true, true, true, true, true, true, true, true, true, true, true, true, false, false, false, false] rfl rfl (take_ofW HT_.out HW_.out (by kernel_rfl)) (fun _ _ _ h => h) (Or.inl ⟨by rfl, ?_⟩) hHeld ?_ ?_
      rotate_left
      · rintro w' ⟨s0, s1, s2, s3, s4, s5, s6, s7, s8⟩
        go_simp
        with_reducible rfl
      rotate_left
      · simp only [Act.put, List.setIfInBounds_toArray, List.set_cons_zero, List.set_cons_succ, i64_w, i32_w]
        rfl
      refine p1_ 16 27 #[true, true, true, true, true, true, true, true, true, true, true, true, true, true, true, true, true, false, false, false] ?_
      refine one_ (i := 17) (N := some 28) #[true, true, true, true, true, true, true, true, true, true, true, true, true, true, true, true, true, true, false, false] rfl rfl (one_of HT_.out (by kernel_rfl)) (by decide) (fun K hK => ?_)
      refine value_ (w1 := ?_) (v := ?_) (by rfl) rfl ?_ ?_
      rotate_left 2
      · go_simp
        constructor
        · rfl
        · rfl
      refine hK.out _ _ ⟨(World.cell?_alloc_lt _ _ _ (World.block_lt_of_cell? _ _ (((HB.out.cell (World.block_lt_of_cell? w _ hw318_0)).trans hw318_0)))).trans (((HB.out.cell (World.block_lt_of_cell? w _ hw318_0)).trans hw318_0)), (World.cell?_alloc_lt _ _ _ (World.block_lt_of_cell? _ _ (((HB.out.cell (World.block_lt_of_cell? w _ hw318_1)).trans hw318_1)))).trans (((HB.out.cell (World.block_lt_of_cell? w _ hw318_1)).trans hw318_1)), (World.cell?_alloc_lt _ _ _ (World.block_lt_of_cell? _ _ (((HB.out.cell (World.block_lt_of_cell? w _ hw318_2)).trans hw318_2)))).trans (((HB.out.cell (World.block_lt_of_cell? w _ hw318_2)).trans hw318_2)), (World.cell?_alloc_lt _ _ _ (World.block_lt_of_cell? _ _ (((HB.out.cell (World.block_lt_of_cell? w _ hw319_0)).trans hw319_0)))).trans (((HB.out.cell (World.block_lt_of_cell? w _ hw319_0)).trans hw319_0)), (World.cell?_alloc_lt _ _ _ (World.block_lt_of_cell? _ _ (((HB.out.cell (World.block_lt_of_cell? w _ hw319_1)).trans hw319_1)))).trans (((HB.out.cell (World.block_lt_of_cell? w _ hw319_1)).trans hw319_1)), (World.cell?_alloc_lt _ _ _ (World.block_lt_of_cell? _ _ (((HB.out.cell (World.block_lt_of_cell? w _ hw319_2)).trans hw319_2)))).trans (((HB.out.cell (World.block_lt_of_cell? w _ hw319_2)).trans hw319_2)), (World.cell?_alloc_lt _ _ _ (World.block_lt_of_cell? _ _ (((HB.out.cell (World.block_lt_of_cell? w _ hw320_0)).trans hw320_0)))).trans (((HB.out.cell (World.block_lt_of_cell? w _ hw320_0)).trans hw320_0)), (World.cell?_alloc_lt _ _ _ (World.block_lt_of_cell? _ _ (((HB.out.cell (World.block_lt_of_cell? w _ hw320_1)).trans hw320_1)))).trans (((HB.out.cell (World.block_lt_of_cell? w _ hw320_1)).trans hw320_1)), (World.cell?_alloc_lt _ _ _ (World.block_lt_of_cell? _ _ (((HB.out.cell (World.block_lt_of_cell? w _ hw320_2)).trans hw320_2)))).trans (((HB.out.cell (World.block_lt_of_cell? w _ hw320_2)).trans hw320_2))⟩ (fun hHeld => ?_)
      clear hK K
      refine norm_ (a' := ?_) ?_ ?_
      rotate_left
      · show Act.put _ (some 28) _ = _
        simp only [Act.put, List.setIfInBounds_toArray, List.set_cons_zero, List.set_cons_succ, i64_w, i32_w]
        rfl
      refine one_ (i := 18) (N := some 29) #[true, true, true, true, true, true, true, true, true, true, true, true, true, true, true, true, true, true, true, false] rfl rfl (one_of HT_.out (by kernel_rfl)) (by decide) (fun K hK => ?_)
      refine Kd.R_append_step k56 (w0 := w) w.heap.size (by rfl) (.tmp 11) (.tmp 28) 52 56 (.agg #[(.int .i64 0), (.int .i64 0), (.int .i64 0)]) 24 rfl Try.underlying52 info56 rfl (by decide) (by omega) u3 x3_1 (⟨(rd_T90 l0 x4_1).f0, (rd_T90 l0 x4_1).f1, (rd_T90 l0 x4_1).f2⟩ : S56) [.int .i64 ((rd_T90 l0 x4_1).f0), .int .i64 ((rd_T90 l0 x4_1).f1), .int .i64 ((rd_T90 l0 x4_1).f2)] (fun _ => True) (fun _ => False) rfl rfl ?aP (fun _ hk => hk.elim) ?aF ?aO ?aB ?aS ?aL ?_
      (case aP => exact k56_mkM _ _ _ (⟨(rd_T90 l0 x4_1).f0, (rd_T90 l0 x4_1).f1, (rd_T90 l0 x4_1).f2⟩ : S56))
      (case aB => exact z117_)
      (case aF => exact z215_)
      (case aO => exact z169_)
      (case aS => exact (below_size z117_))
      (case aL => have := LMc4.out; omega)
      intro v322 w6 ho hb hg hat
      rw [← Ny321.out] at ho
      have n0_ := Aside0.mk (hb)
      have n1_ := Aside0.mk (ho)
      clear HB
      clear HO_3
      have HB := n0_
      have HO323 := n1_
      clear n0_ n1_
      clear ho hb hg hat
      refine hK.out _ _ ⟨((HB.out.cell (World.block_lt_of_cell? w _ hw318_0)).trans hw318_0), ((HB.out.cell (World.block_lt_of_cell? w _ hw318_1)).trans hw318_1), ((HB.out.cell (World.block_lt_of_cell? w _ hw318_2)).trans hw318_2), ((HB.out.cell (World.block_lt_of_cell? w _ hw319_0)).trans hw319_0), ((HB.out.cell (World.block_lt_of_cell? w _ hw319_1)).trans hw319_1), ((HB.out.cell (World.block_lt_of_cell? w _ hw319_2)).trans hw319_2), ((HB.out.cell (World.block_lt_of_cell? w _ hw320_0)).trans hw320_0), ((HB.out.cell (World.block_lt_of_cell? w _ hw320_1)).trans hw320_1), ((HB.out.cell (World.block_lt_of_cell? w _ hw320_2)).trans hw320_2)⟩ (fun hHeld => ?_)
      clear hK K
      refine norm_ (a' := ?_) ?_ ?_
      rotate_left
      · show Act.put _ (some 29) _ = _
        simp only [Act.put, List.setIfInBounds_toArray, List.set_cons_zero, List.set_cons_succ, i64_w, i32_w]
        rfl
      refine p1_ 19 3 #[true, true, true, true, true, true, true, true, true, true, true, true, true, true, true, true, true, true, true, true] ?_
      refine done_ (done_of HT_.out (by kernel_rfl)) ?_
      try go_wp2
      go_roundg k1
      case measure => have := HK1.out; omega
      case rel => exact ⟨(y321), (wrap64 (x4_1 + 1)), z208_, H', ⟨z218_⟩, ⟨y185_ HO323.out⟩, ⟨z117_⟩⟩
end Go.Proofs.Ytblmcdpfhdamjaa.PPaintWindow
