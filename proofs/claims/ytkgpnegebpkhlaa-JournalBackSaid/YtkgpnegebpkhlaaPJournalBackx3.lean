-- WRITTEN BY wip/xprint.py of this repo, over the kit's print; functions the print does not take are by hand
import Derived.Test.YtkgpnegebpkhlaaPJournalBackx0
import Derived.Test.YtkgpnegebpkhlaaPJournalBackx2
namespace Go.Proofs.Ytkgpnegebpkhlaa.PJournalBack
open Go.RowKit Go.Proofs.YtkgpnegebpkhlaaW.PrintWords Go.Proofs.YtkgpnegebpkhlaaW.PrintLast Go.Proofs.YtkgpnegebpkhlaaW.PrintMore
attribute [local go_sem] max2_int min2_int max_two min_two max_three min_three max_four min_four   -- for this text's walks alone
set_option linter.unusedVariables false
set_option linter.unusedSimpArgs false
/-! ### runes_Bad: by hand (its code holds a label) -/
theorem more_range (s : ByteArray) (i : Int) : ∀ (k : Nat) (n lo hi : Int), n ≤ s.size → more_ s i k n lo hi = 0 ∨ (more_ s i k n lo hi = n + k - i ∧ n + k ≤ s.size)
  | 0, n, _, _, h => by right; simp only [more_]; omega
  | k + 1, n, lo, hi, h => by
    simp only [more_]
    split
    · left; rfl
    split
    · left; rfl
    split
    · left; rfl
    have := more_range s i k (n + 1) 128 191 (by omega)
    omega
theorem lead_range (s : ByteArray) (i c : Int) (h0 : 0 ≤ i) (h1 : i < s.size) : lead_ s i c = 0 ∨ (1 ≤ lead_ s i c ∧ lead_ s i c ≤ 4 ∧ i + lead_ s i c ≤ s.size) := by
  unfold lead_
  have a1 := more_range s i 1 (i + 1) 128 191 (by omega)
  have a2 := more_range s i 2 (i + 1) 160 191 (by omega)
  have a3 := more_range s i 2 (i + 1) 128 159 (by omega)
  have a4 := more_range s i 2 (i + 1) 128 191 (by omega)
  have a5 := more_range s i 3 (i + 1) 144 191 (by omega)
  have a6 := more_range s i 3 (i + 1) 128 143 (by omega)
  have a7 := more_range s i 3 (i + 1) 128 191 (by omega)
  (repeat' split) <;> omega
theorem rsize_range (s : ByteArray) (i : Int) : rsize_ s i = 0 ∨ (1 ≤ rsize_ s i ∧ rsize_ s i ≤ 4 ∧ i + rsize_ s i ≤ s.size) := by
  unfold rsize_
  split
  · left; rfl
  split
  · left; rfl
  exact lead_range s i _ (by omega) (by omega)
def bad_ (s : ByteArray) : Nat → Int → Int
  | 0, _ => -1
  | k + 1, i => if i = (s.size : Int) then -1 else if rsize_ s i = 0 then i else bad_ s k (i + rsize_ s i)
def runes_Bad.f (a0 : ByteArray) : Option Int := if (a0.size : Int) ≤ 4611686018427387904 then some (bad_ a0 (a0.size + 1) 0) else none
def badFrame (a0 : ByteArray) (n : Int) (a_ : Act) : Prop :=
  a_.defers = [] ∧ a_.tmps.size = 18 ∧ a_.tmps.getD 0 undef = .string a0 ∧ a_.tmps.getD 1 undef = undef ∧ a_.tmps.getD 3 undef = .int .i64 n
theorem badFrame_open {a0 : ByteArray} {n : Int} {a_ : Act} (h : badFrame a0 n a_) :
    ∃ u : Nat → Value, a_ = { tmps := #[.string a0, undef, u 2, .int .i64 n, u 4, u 5, u 6, u 7, u 8, u 9, u 10, u 11, u 12, u 13, u 14, u 15, u 16, u 17], defers := [] } := by
  obtain ⟨t, d⟩ := a_
  obtain ⟨rfl, hs, h0, h1, h3⟩ := h
  have hf := frame_of t 18 hs
  generalize hu : (fun i => t.getD i undef) = u at hf
  replace h0 : u 0 = .string a0 := by rw [← hu]; exact h0
  replace h1 : u 1 = undef := by rw [← hu]; exact h1
  replace h3 : u 3 = .int .i64 n := by rw [← hu]; exact h3
  refine ⟨u, ?_⟩
  replace hf : t = #[u 0, u 1, u 2, u 3, u 4, u 5, u 6, u 7, u 8, u 9, u 10, u 11, u 12, u 13, u 14, u 15, u 16, u 17] := hf
  rw [h0, h1, h3] at hf
  rw [hf]
set_option maxHeartbeats 16000000 in
set_option maxRecDepth 100000 in
theorem runes_Bad.calls (a0 : ByteArray) (r : Int) (w : World) (h : runes_Bad.f a0 = some r) :
    Calls Try.prog 30 #[.string a0] w fun e w' => e = .returned (.int .i64 r) ∧ Drawn0 w w' := by
  unfold runes_Bad.f at h
  by_cases hsz : (a0.size : Int) ≤ 4611686018427387904
  case neg => rw [if_neg hsz] at h; cases h
  have hfs : ∀ i, runes_size.f a0 i = some (rsize_ a0 i) := fun i => by unfold runes_size.f; rw [if_pos hsz]
  rw [if_pos hsz] at h
  have H0 : bad_ a0 (a0.size + 1) 0 = r := Option.some.inj h
  clear h
  have H := Aside0.mk H0
  have HS := Aside0.mk hfs
  clear H0 hfs
  have z0 : (0 : Int) ≤ (a0.size : Int) := by omega
  go_enter Try.func30, Try.ntmps30
  go_wp2
  refine wp_scope_jumps 0 (fun a_ w_ => ∃ (kq : Nat) (n : Int), badFrame a0 n a_ ∧ Aside0 (0 ≤ n ∧ n ≤ a0.size ∧ (a0.size : Int) < n + kq ∧ bad_ a0 kq n = r) ∧ Drawn0 w w_) (fun a_ _ => ((a0.size : Int) - intOfS (a_.tmps.getD 3 undef)).toNat) rfl ?_ ?_
  · have g : bad_ a0 (a0.size + 1) 0 = r := H.out
    clear H
    simp only [bad_] at g
    by_cases c1 : 0 = (a0.size : Int)
    · rw [if_pos c1] at g
      have c1b0 : (0 == (a0.size : Int)) = true := beq_iff_eq.mpr c1
      clear c1
      subst g
      go_wp2
      go_step3
      go_wp2
      simp only [Exit.jump]
      go_ret
      exact ⟨z81_, z78_⟩
    rw [if_neg c1] at g
    have c1b0 : (0 == (a0.size : Int)) = false := beq_eq_false_iff_ne.mpr c1
    have hr := rsize_range a0 0
    have hq := HS.out 0
    obtain ⟨q, hqq⟩ : ∃ q_ : Int, rsize_ a0 0 = q_ := ⟨_, rfl⟩
    rw [hqq] at hr hq g
    clear hqq
    have HQ := Aside0.mk hq
    clear hq
    by_cases c2 : q = 0
    · rw [if_pos c2] at g
      have c2b0 : (q == 0) = true := beq_iff_eq.mpr c2
      clear hr c2
      subst g
      go_wp2_with (go_at_call 39; refine (runes_size.calls a0 0 q _ HQ.out).mono ?_; rintro e w1 ⟨rfl, ⟨m1, rfl⟩⟩)
      go_step3
      go_wp2_with (go_at_call 39; refine (runes_size.calls a0 0 q _ HQ.out).mono ?_; rintro e w1 ⟨rfl, ⟨m1, rfl⟩⟩)
      simp only [Exit.jump]
      go_ret
      exact ⟨z81_, z78_⟩
    rw [if_neg c2] at g
    have c2b0 : (q == 0) = false := beq_eq_false_iff_ne.mpr c2
    have r0 : 1 ≤ q := by omega
    have r1 : q ≤ 4 := by omega
    have r2 : 0 + q ≤ (a0.size : Int) := by omega
    clear hr c1 c2
    have H4 := Aside0.mk g
    clear g
    go_wp2_with (go_at_call 39; refine (runes_size.calls a0 0 q _ HQ.out).mono ?_; rintro e w1 ⟨rfl, ⟨m1, rfl⟩⟩)
    go_step3
    go_wp2_with (go_at_call 39; refine (runes_size.calls a0 0 q _ HQ.out).mono ?_; rintro e w1 ⟨rfl, ⟨m1, rfl⟩⟩)
    go_step3
    refine ⟨rfl, a0.size, _, ⟨rfl, rfl, rfl, rfl, z90_⟩, ⟨by omega, by omega, by omega, by first | exact H4.out | (simpa using H4.out)⟩, z78_⟩
  · rintro a_ w_ ⟨kq, n, hfr, HH, ⟨m, rfl⟩⟩
    obtain ⟨u, hu⟩ := badFrame_open hfr
    clear hfr
    subst hu
    obtain ⟨g0, g1, g2, g⟩ := HH.out
    clear HH H
    cases kq with
    | zero => exact absurd g2 (by simp; omega)
    | succ k =>
      simp only [bad_] at g
      by_cases c1 : n = (a0.size : Int)
      · rw [if_pos c1] at g
        have c1b0 : (n == (a0.size : Int)) = true := beq_iff_eq.mpr c1
        clear c1
        subst g
        go_wp2
        simp only [Exit.jump]
        go_ret
        exact ⟨z81_, z78_⟩
      rw [if_neg c1] at g
      have c1b0 : (n == (a0.size : Int)) = false := beq_eq_false_iff_ne.mpr c1
      have hr := rsize_range a0 n
      have hq := HS.out n
      obtain ⟨q, hqq⟩ : ∃ q_ : Int, rsize_ a0 n = q_ := ⟨_, rfl⟩
      rw [hqq] at hr hq g
      clear hqq
      have HQ := Aside0.mk hq
      clear hq
      by_cases c2 : q = 0
      · rw [if_pos c2] at g
        have c2b0 : (q == 0) = true := beq_iff_eq.mpr c2
        clear hr c2
        subst g
        go_wp2_with (go_at_call 39; refine (runes_size.calls a0 n q _ HQ.out).mono ?_; rintro e w1 ⟨rfl, ⟨m1, rfl⟩⟩)
        simp only [Exit.jump]
        go_ret
        exact ⟨z81_, z78_⟩
      rw [if_neg c2] at g
      have c2b0 : (q == 0) = false := beq_eq_false_iff_ne.mpr c2
      have r0 : 1 ≤ q := by omega
      have r1 : q ≤ 4 := by omega
      have r2 : n + q ≤ (a0.size : Int) := by omega
      clear hr c1 c2
      have H4 := Aside0.mk g
      clear g
      go_wp2_with (go_at_call 39; refine (runes_size.calls a0 n q _ HQ.out).mono ?_; rintro e w1 ⟨rfl, ⟨m1, rfl⟩⟩)
      go_step3
      refine ⟨rfl, ⟨k, _, ⟨rfl, rfl, rfl, rfl, z90_⟩, ⟨by omega, by omega, by omega, H4.out⟩, z78_⟩, ?_⟩
      simp [intOfS]; omega
/-! ### runes_Check: function 23 -/
def runes_Check.f (a0 : ByteArray) : Option (Int) := (runes_Bad.f a0).bind fun t101 => (if t101 ≥ 0 then (some 20) else (some 0))
set_option maxHeartbeats 8000000 in
set_option maxRecDepth 100000 in
theorem runes_Check.calls (a0 : ByteArray) (r : Int) (w : World) (h : runes_Check.f a0 = some r) :
    Calls Try.prog 23 #[.string a0] w fun e w' => e = .returned (.int .i64 r) ∧ Drawn0 w w' := by
  have H : ((runes_Bad.f a0).bind fun t101 => (if t101 ≥ 0 then (some 20) else (some 0))) = some r := h
  clear h
  replace H := Option.bind_eq_some_iff.mp H
  obtain ⟨t101, A20, H⟩ := H
  replace H : (if t101 ≥ 0 then (some 20) else (some 0)) = some r := H
  have A2 := Aside0.mk A20
  clear A20
  by_cases c3 : t101 ≥ 0
  rotate_left
  · rw [if_neg c3] at H
    have c3b0 : decide (0 ≤ t101) = false := decide_eq_false c3
    clear c3
    obtain rfl := Option.some.inj H
    go_enter Try.func23, Try.ntmps23
    go_wp2_with (first | ((with_reducible refine gate_callee (f := 30) rfl ?_); refine goesL_ (some 4) rfl rfl Try.func30 (by kernel_rfl) rfl #[.string a0] rfl z41_ ?_; (with_reducible refine (runes_Bad.calls a0 t101 _ A2.out).mono ?_); rintro e w' ⟨rfl, ⟨nd, rfl⟩⟩; refine ⟨_, rfl, ?_⟩))
    go_ret
    exact ⟨z75_, z78_⟩
  rw [if_pos c3] at H
  have c3b0 : decide (0 ≤ t101) = true := decide_eq_true c3
  clear c3
  obtain rfl := Option.some.inj H
  go_enter Try.func23, Try.ntmps23
  go_wp2_with (first | ((with_reducible refine gate_callee (f := 30) rfl ?_); refine goesL_ (some 4) rfl rfl Try.func30 (by kernel_rfl) rfl #[.string a0] rfl z41_ ?_; (with_reducible refine (runes_Bad.calls a0 t101 _ A2.out).mono ?_); rintro e w' ⟨rfl, ⟨nd, rfl⟩⟩; refine ⟨_, rfl, ?_⟩))
  go_ret
  exact ⟨z75_, z78_⟩
/-! ### journal_Right: function 10 -/
def journal_Right.j0 : Nat → Bool → Int → Int → Int → Int → ByteArray → Option (Int)
  | 0, _, _, _, _, _, _ => none
  | k + 1, x26, x103000, x103001, x103002, x103003, x103004 => if x26 = true then (some 230) else (if x103000 = 1 then (if (x103004.size : Int) > 65536 then (some 230) else ((runes_Check.f x103004).bind fun t104 => (some t104))) else (if x103004.toList = ([] : List UInt8) then (if (x103004.size : Int) > 65536 then (some 230) else ((runes_Check.f x103004).bind fun t105 => (some t105))) else (some 230)))
def journal_Right.f (k : Nat) (a0_0 : Int) (a0_1 : Int) (a0_2 : Int) (a0_3 : Int) (a0_4 : ByteArray) : Option (Int) := (journal_numbers.f k a0_0).bind fun t103 => (if t103 = 0 then (journal_Right.j0 k true a0_0 a0_1 a0_2 a0_3 a0_4) else (if t103 < 2 then (if a0_2 = 0 then (if t103 < 3 then (journal_Right.j0 k (a0_3 != 0) a0_0 a0_1 a0_2 a0_3 a0_4) else (journal_Right.j0 k false a0_0 a0_1 a0_2 a0_3 a0_4)) else (journal_Right.j0 k true a0_0 a0_1 a0_2 a0_3 a0_4)) else (if t103 < 3 then (journal_Right.j0 k (a0_3 != 0) a0_0 a0_1 a0_2 a0_3 a0_4) else (journal_Right.j0 k false a0_0 a0_1 a0_2 a0_3 a0_4))))
theorem journal_Right.mono_l : ∀ k, (∀ y0 y1 y2 y3 y4 y5, LeO (journal_Right.j0 k y0 y1 y2 y3 y4 y5) (journal_Right.j0 (k + 1) y0 y1 y2 y3 y4 y5))
  | 0 => fun _ _ _ _ _ _ r h => by simp [journal_Right.j0] at h
  | k + 1 => by
    have ih0 := journal_Right.mono_l k
    · intro y0 y1 y2 y3 y4 y5
      unfold journal_Right.j0
      repeat' first | (with_reducible first | exact ih0 _ _ _ _ _ _ | exact journal_numbers.mono _ _ | exact LeO.refl _ | exact LeO.none _ | refine LeO.ite ?_ ?_ | refine LeO.bind ?_ (fun _ => ?_)) | exact ih0 _ _ _ _ _ _ | exact journal_numbers.mono _ _ | exact LeO.none _ | refine LeO.ite ?_ ?_ | refine LeO.bind ?_ (fun _ => ?_)
theorem journal_Right.mono : ∀ a0 a1 a2 a3 a4 k, LeO (journal_Right.f k a0 a1 a2 a3 a4) (journal_Right.f (k + 1) a0 a1 a2 a3 a4) := by
  intro a0 a1 a2 a3 a4 k
  have ih0 := journal_Right.mono_l k
  unfold journal_Right.f
  repeat' first | (with_reducible first | exact ih0 _ _ _ _ _ _ | exact journal_numbers.mono _ _ | exact LeO.refl _ | exact LeO.none _ | refine LeO.ite ?_ ?_ | refine LeO.bind ?_ (fun _ => ?_)) | exact ih0 _ _ _ _ _ _ | exact journal_numbers.mono _ _ | exact LeO.none _ | refine LeO.ite ?_ ?_ | refine LeO.bind ?_ (fun _ => ?_)
set_option maxHeartbeats 8000000 in
set_option maxRecDepth 100000 in
theorem journal_Right.calls (k : Nat) (a0_0 : Int) (a0_1 : Int) (a0_2 : Int) (a0_3 : Int) (a0_4 : ByteArray) (r : Int) (w : World) (h : journal_Right.f k a0_0 a0_1 a0_2 a0_3 a0_4 = some r) :
    Calls Try.prog 10 #[.agg #[.int .i64 a0_0, .int .i64 a0_1, .int .i64 a0_2, .int .i64 a0_3, .string a0_4]] w fun e w' => e = .returned (.int .i64 r) ∧ Below w.heap.size w w' := by
  have hu24 := Try.underlying24
  have HB := Aside0.mk (Below.refl w.heap.size w)
  have H : ((journal_numbers.f k a0_0).bind fun t103 => (if t103 = 0 then (journal_Right.j0 k true a0_0 a0_1 a0_2 a0_3 a0_4) else (if t103 < 2 then (if a0_2 = 0 then (if t103 < 3 then (journal_Right.j0 k (a0_3 != 0) a0_0 a0_1 a0_2 a0_3 a0_4) else (journal_Right.j0 k false a0_0 a0_1 a0_2 a0_3 a0_4)) else (journal_Right.j0 k true a0_0 a0_1 a0_2 a0_3 a0_4)) else (if t103 < 3 then (journal_Right.j0 k (a0_3 != 0) a0_0 a0_1 a0_2 a0_3 a0_4) else (journal_Right.j0 k false a0_0 a0_1 a0_2 a0_3 a0_4))))) = some r := h
  clear h
  replace H := Option.bind_eq_some_iff.mp H
  obtain ⟨t103, A20, H⟩ := H
  replace H : (if t103 = 0 then (journal_Right.j0 k true a0_0 a0_1 a0_2 a0_3 a0_4) else (if t103 < 2 then (if a0_2 = 0 then (if t103 < 3 then (journal_Right.j0 k (a0_3 != 0) a0_0 a0_1 a0_2 a0_3 a0_4) else (journal_Right.j0 k false a0_0 a0_1 a0_2 a0_3 a0_4)) else (journal_Right.j0 k true a0_0 a0_1 a0_2 a0_3 a0_4)) else (if t103 < 3 then (journal_Right.j0 k (a0_3 != 0) a0_0 a0_1 a0_2 a0_3 a0_4) else (journal_Right.j0 k false a0_0 a0_1 a0_2 a0_3 a0_4)))) = some r := H
  have A2 := Aside0.mk A20
  clear A20
  have HC3 := Aside0.mk H
  clear H
  go_enter Try.func10, Try.ntmps10
  go_upto_region 2 with (first | ((with_reducible refine gate_dst (N := 1) rfl ?_); (try (refine gate_guard (by rfl) ?_; dsimp only)); refine box_event ?hg (N := 1) ?hd (cs := #[.int .i64 a0_0, .int .i64 a0_1, .int .i64 a0_2, .int .i64 a0_3, .string a0_4]) (t := 24) ?hr ?_; (case hd => rfl); (case hg => rfl); (case hr => exact z82_); intro gb102 hg w4 hbox hb; have BK102 := Aside0.mk (hbox); have GW102 := Aside0.mk ((z29_ : w.heap.size ≤ gb102)); have GE102 := Aside0.mk ((z29_ : w.heap.size ≤ gb102)); replace HB := Aside0.mk (below_step z44_ hb); clear hb hbox hg; have hcz5_0 : w4.cell? ⟨gb102, 0, none⟩ = some (.int .i64 a0_0) := (blk_cell BK102.out 0).trans rfl; have hcz5_1 : w4.cell? ⟨gb102, 1, none⟩ = some (.int .i64 a0_1) := (blk_cell BK102.out 1).trans rfl; have hcz5_2 : w4.cell? ⟨gb102, 2, none⟩ = some (.int .i64 a0_2) := (blk_cell BK102.out 2).trans rfl; have hcz5_3 : w4.cell? ⟨gb102, 3, none⟩ = some (.int .i64 a0_3) := (blk_cell BK102.out 3).trans rfl; have hcz5_4 : w4.cell? ⟨gb102, 4, none⟩ = some (.string a0_4) := (blk_cell BK102.out 4).trans rfl; have hfz5_0 := blk_frozen BK102.out 0; have hfz5_1 := blk_frozen BK102.out 1; have hfz5_2 := blk_frozen BK102.out 2; have hfz5_3 := blk_frozen BK102.out 3; have hfz5_4 := blk_frozen BK102.out 4) | ((with_reducible refine gate_callee (f := 18) rfl ?_); refine goesL_ (some 6) rfl rfl Try.func18 (by kernel_rfl) rfl #[.int .i64 a0_0] rfl z41_ ?_; (with_reducible refine (journal_numbers.calls k a0_0 t103 _ A2.out).mono ?_); rintro e w' ⟨rfl, ⟨nd, rfl⟩⟩; refine ⟨_, rfl, ?_⟩))
  (try simp only [Act.put, List.setIfInBounds_toArray, List.set_cons_zero, List.set_cons_succ])
  go_cut [26] (fun v26 wc => ∃ (kq : Nat) (x26_2 : Bool), v26 = .bool x26_2 ∧ Aside0 (journal_Right.j0 kq x26_2 a0_0 a0_1 a0_2 a0_3 a0_4 = some r) ∧ Aside0 (kq ≤ k) ∧ Aside0 (wc.heap[gb102]? = some (.cells #[.int .i64 a0_0, .int .i64 a0_1, .int .i64 a0_2, .int .i64 a0_3, .string a0_4] 24 (0, 0))) ∧ Aside0 (Below w.heap.size w wc))
  case first =>
    have H := HC3.out
    clear HC3
    by_cases c6 : t103 = 0
    · rw [if_pos c6] at H
      have c6b0 : (t103 == 0) = true := beq_iff_eq.mpr c6
      have c6b1 : (t103 != 0) = false := bne_eq_false_iff_eq.mpr c6
      clear c6
      (first | rw [c6b0] | (simp only [i64_w, i32_w]; rw [c6b0]) | skip)
      have H' := Aside0.mk H
      clear H
      go_wp2
      go_meet
      case rel => exact ⟨_, (true), z81_, H', ⟨z85_⟩, ⟨z47_⟩, ⟨z30_⟩⟩
    rw [if_neg c6] at H
    have c6b0 : (t103 == 0) = false := beq_eq_false_iff_ne.mpr c6
    have c6b1 : (t103 != 0) = true := bne_iff_ne.mpr c6
    (first | rw [c6b0] | (simp only [i64_w, i32_w]; rw [c6b0]) | skip)
    by_cases c7 : t103 < 2
    rotate_left
    · rw [if_neg c7] at H
      have c7b0 : decide (t103 < 2) = false := decide_eq_false c7
      clear c7
      by_cases c13 : t103 < 3
      rotate_left
      · rw [if_neg c13] at H
        have c13b0 : decide (t103 < 3) = false := decide_eq_false c13
        clear c13
        have H' := Aside0.mk H
        clear H
        go_wp2
        go_meet
        case rel => exact ⟨_, (false), z81_, H', ⟨z85_⟩, ⟨z47_⟩, ⟨z30_⟩⟩
      rw [if_pos c13] at H
      have c13b0 : decide (t103 < 3) = true := decide_eq_true c13
      clear c13
      have H' := Aside0.mk H
      clear H
      have hcz14_0 : w4.cell? ⟨gb102, 0, none⟩ = some (.int .i64 a0_0) := (blk_cell BK102.out 0).trans rfl
      have hcz14_1 : w4.cell? ⟨gb102, 1, none⟩ = some (.int .i64 a0_1) := (blk_cell BK102.out 1).trans rfl
      have hcz14_2 : w4.cell? ⟨gb102, 2, none⟩ = some (.int .i64 a0_2) := (blk_cell BK102.out 2).trans rfl
      have hcz14_3 : w4.cell? ⟨gb102, 3, none⟩ = some (.int .i64 a0_3) := (blk_cell BK102.out 3).trans rfl
      have hcz14_4 : w4.cell? ⟨gb102, 4, none⟩ = some (.string a0_4) := (blk_cell BK102.out 4).trans rfl
      have hfz14_0 := blk_frozen BK102.out 0
      have hfz14_1 := blk_frozen BK102.out 1
      have hfz14_2 := blk_frozen BK102.out 2
      have hfz14_3 := blk_frozen BK102.out 3
      have hfz14_4 := blk_frozen BK102.out 4
      go_wp2
      go_meet
      case rel => exact ⟨_, ((a0_3 != 0)), z81_, H', ⟨z85_⟩, ⟨z47_⟩, ⟨z30_⟩⟩
    rw [if_pos c7] at H
    have c7b0 : decide (t103 < 2) = true := decide_eq_true c7
    clear c7
    by_cases c8 : a0_2 = 0
    rotate_left
    · rw [if_neg c8] at H
      have c8b0 : (a0_2 == 0) = false := beq_eq_false_iff_ne.mpr c8
      have c8b1 : (a0_2 != 0) = true := bne_iff_ne.mpr c8
      have H' := Aside0.mk H
      clear H
      have hcz12_0 : w4.cell? ⟨gb102, 0, none⟩ = some (.int .i64 a0_0) := (blk_cell BK102.out 0).trans rfl
      have hcz12_1 : w4.cell? ⟨gb102, 1, none⟩ = some (.int .i64 a0_1) := (blk_cell BK102.out 1).trans rfl
      have hcz12_2 : w4.cell? ⟨gb102, 2, none⟩ = some (.int .i64 a0_2) := (blk_cell BK102.out 2).trans rfl
      have hcz12_3 : w4.cell? ⟨gb102, 3, none⟩ = some (.int .i64 a0_3) := (blk_cell BK102.out 3).trans rfl
      have hcz12_4 : w4.cell? ⟨gb102, 4, none⟩ = some (.string a0_4) := (blk_cell BK102.out 4).trans rfl
      have hfz12_0 := blk_frozen BK102.out 0
      have hfz12_1 := blk_frozen BK102.out 1
      have hfz12_2 := blk_frozen BK102.out 2
      have hfz12_3 := blk_frozen BK102.out 3
      have hfz12_4 := blk_frozen BK102.out 4
      go_wp2
      go_meet
      case rel => exact ⟨_, (true), z81_, H', ⟨z85_⟩, ⟨z47_⟩, ⟨z30_⟩⟩
    rw [if_pos c8] at H
    have c8b0 : (a0_2 == 0) = true := beq_iff_eq.mpr c8
    have c8b1 : (a0_2 != 0) = false := bne_eq_false_iff_eq.mpr c8
    clear c8
    by_cases c9 : t103 < 3
    rotate_left
    · rw [if_neg c9] at H
      have c9b0 : decide (t103 < 3) = false := decide_eq_false c9
      clear c9
      have H' := Aside0.mk H
      clear H
      have hcz11_0 : w4.cell? ⟨gb102, 0, none⟩ = some (.int .i64 a0_0) := (blk_cell BK102.out 0).trans rfl
      have hcz11_1 : w4.cell? ⟨gb102, 1, none⟩ = some (.int .i64 a0_1) := (blk_cell BK102.out 1).trans rfl
      have hcz11_2 : w4.cell? ⟨gb102, 2, none⟩ = some (.int .i64 a0_2) := (blk_cell BK102.out 2).trans rfl
      have hcz11_3 : w4.cell? ⟨gb102, 3, none⟩ = some (.int .i64 a0_3) := (blk_cell BK102.out 3).trans rfl
      have hcz11_4 : w4.cell? ⟨gb102, 4, none⟩ = some (.string a0_4) := (blk_cell BK102.out 4).trans rfl
      have hfz11_0 := blk_frozen BK102.out 0
      have hfz11_1 := blk_frozen BK102.out 1
      have hfz11_2 := blk_frozen BK102.out 2
      have hfz11_3 := blk_frozen BK102.out 3
      have hfz11_4 := blk_frozen BK102.out 4
      go_wp2
      go_meet
      case rel => exact ⟨_, (false), z81_, H', ⟨z85_⟩, ⟨z47_⟩, ⟨z30_⟩⟩
    rw [if_pos c9] at H
    have c9b0 : decide (t103 < 3) = true := decide_eq_true c9
    clear c9
    have H' := Aside0.mk H
    clear H
    have hcz10_0 : w4.cell? ⟨gb102, 0, none⟩ = some (.int .i64 a0_0) := (blk_cell BK102.out 0).trans rfl
    have hcz10_1 : w4.cell? ⟨gb102, 1, none⟩ = some (.int .i64 a0_1) := (blk_cell BK102.out 1).trans rfl
    have hcz10_2 : w4.cell? ⟨gb102, 2, none⟩ = some (.int .i64 a0_2) := (blk_cell BK102.out 2).trans rfl
    have hcz10_3 : w4.cell? ⟨gb102, 3, none⟩ = some (.int .i64 a0_3) := (blk_cell BK102.out 3).trans rfl
    have hcz10_4 : w4.cell? ⟨gb102, 4, none⟩ = some (.string a0_4) := (blk_cell BK102.out 4).trans rfl
    have hfz10_0 := blk_frozen BK102.out 0
    have hfz10_1 := blk_frozen BK102.out 1
    have hfz10_2 := blk_frozen BK102.out 2
    have hfz10_3 := blk_frozen BK102.out 3
    have hfz10_4 := blk_frozen BK102.out 4
    go_wp2
    go_meet
    case rel => exact ⟨_, ((a0_3 != 0)), z81_, H', ⟨z85_⟩, ⟨z47_⟩, ⟨z30_⟩⟩
  case rest =>
    clear HC3
    try clear c1
    try clear p2
    try clear c6
    try clear c6b0
    try clear c6b1
    try clear c7
    try clear c7b0
    try clear c8
    try clear c8b0
    try clear c8b1
    try clear c9
    try clear c9b0
    try clear c10
    try clear c13
    try clear c13b0
    try clear hcz10_0
    try clear hcz10_1
    try clear hcz10_2
    try clear hcz10_3
    try clear hcz10_4
    try clear hcz11_0
    try clear hcz11_1
    try clear hcz11_2
    try clear hcz11_3
    try clear hcz11_4
    try clear hcz12_0
    try clear hcz12_1
    try clear hcz12_2
    try clear hcz12_3
    try clear hcz12_4
    try clear hcz14_0
    try clear hcz14_1
    try clear hcz14_2
    try clear hcz14_3
    try clear hcz14_4
    try clear hcz5_0
    try clear hcz5_1
    try clear hcz5_2
    try clear hcz5_3
    try clear hcz5_4
    try clear hfz10_0
    try clear hfz10_1
    try clear hfz10_2
    try clear hfz10_3
    try clear hfz10_4
    try clear hfz11_0
    try clear hfz11_1
    try clear hfz11_2
    try clear hfz11_3
    try clear hfz11_4
    try clear hfz12_0
    try clear hfz12_1
    try clear hfz12_2
    try clear hfz12_3
    try clear hfz12_4
    try clear hfz14_0
    try clear hfz14_1
    try clear hfz14_2
    try clear hfz14_3
    try clear hfz14_4
    try clear hfz5_0
    try clear hfz5_1
    try clear hfz5_2
    try clear hfz5_3
    try clear hfz5_4
    obtain ⟨kq, x26_2, rfl, HA, HJ2, BK102, HB⟩ := hcut
    cases kq with
    | zero => exact absurd HA.out (by simp [journal_Right.j0])
    | succ kj2 =>
      have H := HA.out
      clear HA
      simp only [journal_Right.j0] at H
      by_cases c15 : x26_2 = true
      · subst c15
        have H1 : (some 230) = some r := by rw [if_pos rfl] at H; exact H
        clear H
        have H := H1
        clear H1
        obtain rfl := Option.some.inj H
        go_wp2
        go_ret
        exact ⟨z72_, z30_⟩
      replace c15 := Bool.eq_false_iff.mpr c15
      subst c15
      have H1 : (if a0_0 = 1 then (if (a0_4.size : Int) > 65536 then (some 230) else ((runes_Check.f a0_4).bind fun t104 => (some t104))) else (if a0_4.toList = ([] : List UInt8) then (if (a0_4.size : Int) > 65536 then (some 230) else ((runes_Check.f a0_4).bind fun t105 => (some t105))) else (some 230))) = some r := by rw [if_neg (show ¬ (false = true) by decide)] at H; exact H
      clear H
      have H := H1
      clear H1
      by_cases c16 : a0_0 = 1
      · rw [if_pos c16] at H
        have c16b0 : (a0_0 == 1) = true := beq_iff_eq.mpr c16
        have c16b1 : (a0_0 != 1) = false := bne_eq_false_iff_eq.mpr c16
        clear c16
        by_cases c17 : (a0_4.size : Int) > 65536
        · rw [if_pos c17] at H
          have c17b0 : decide (65536 < (a0_4.size : Int)) = true := decide_eq_true c17
          have c17b1 : decide (65536 < a0_4.size) = true := decide_eq_true (by omega)
          clear c17
          obtain rfl := Option.some.inj H
          have hcz18_0 : wc.cell? ⟨gb102, 0, none⟩ = some (.int .i64 a0_0) := (blk_cell BK102.out 0).trans rfl
          have hcz18_1 : wc.cell? ⟨gb102, 1, none⟩ = some (.int .i64 a0_1) := (blk_cell BK102.out 1).trans rfl
          have hcz18_2 : wc.cell? ⟨gb102, 2, none⟩ = some (.int .i64 a0_2) := (blk_cell BK102.out 2).trans rfl
          have hcz18_3 : wc.cell? ⟨gb102, 3, none⟩ = some (.int .i64 a0_3) := (blk_cell BK102.out 3).trans rfl
          have hcz18_4 : wc.cell? ⟨gb102, 4, none⟩ = some (.string a0_4) := (blk_cell BK102.out 4).trans rfl
          have hfz18_0 := blk_frozen BK102.out 0
          have hfz18_1 := blk_frozen BK102.out 1
          have hfz18_2 := blk_frozen BK102.out 2
          have hfz18_3 := blk_frozen BK102.out 3
          have hfz18_4 := blk_frozen BK102.out 4
          go_wp2
          go_ret
          exact ⟨z72_, z30_⟩
        rw [if_neg c17] at H
        have c17b0 : decide (65536 < (a0_4.size : Int)) = false := decide_eq_false c17
        have c17b1 : decide (65536 < a0_4.size) = false := decide_eq_false (by omega)
        clear c17
        replace H := Option.bind_eq_some_iff.mp H
        obtain ⟨t104, A190, H⟩ := H
        replace H : (some t104) = some r := H
        have A19 := Aside0.mk A190
        clear A190
        obtain rfl := Option.some.inj H
        have hcz20_0 : wc.cell? ⟨gb102, 0, none⟩ = some (.int .i64 a0_0) := (blk_cell BK102.out 0).trans rfl
        have hcz20_1 : wc.cell? ⟨gb102, 1, none⟩ = some (.int .i64 a0_1) := (blk_cell BK102.out 1).trans rfl
        have hcz20_2 : wc.cell? ⟨gb102, 2, none⟩ = some (.int .i64 a0_2) := (blk_cell BK102.out 2).trans rfl
        have hcz20_3 : wc.cell? ⟨gb102, 3, none⟩ = some (.int .i64 a0_3) := (blk_cell BK102.out 3).trans rfl
        have hcz20_4 : wc.cell? ⟨gb102, 4, none⟩ = some (.string a0_4) := (blk_cell BK102.out 4).trans rfl
        have hfz20_0 := blk_frozen BK102.out 0
        have hfz20_1 := blk_frozen BK102.out 1
        have hfz20_2 := blk_frozen BK102.out 2
        have hfz20_3 := blk_frozen BK102.out 3
        have hfz20_4 := blk_frozen BK102.out 4
        go_wp2_with (first | ((with_reducible refine gate_callee (f := 23) rfl ?_); refine goesL_ (some 43) rfl rfl Try.func23 (by kernel_rfl) rfl #[.string a0_4] rfl z41_ ?_; (with_reducible refine (runes_Check.calls a0_4 t104 _ A19.out).mono ?_); rintro e w' ⟨rfl, ⟨nd, rfl⟩⟩; refine ⟨_, rfl, ?_⟩))
        go_ret
        exact ⟨z72_, z30_⟩
      rw [if_neg c16] at H
      have c16b0 : (a0_0 == 1) = false := beq_eq_false_iff_ne.mpr c16
      have c16b1 : (a0_0 != 1) = true := bne_iff_ne.mpr c16
      by_cases c21 : a0_4.toList = ([] : List UInt8)
      rotate_left
      · rw [if_neg c21] at H
        have c21b0 : (a0_4.toList == ([] : List UInt8)) = false := beq_eq_false_iff_ne.mpr c21
        have c21b1 : (a0_4.toList != ([] : List UInt8)) = true := bne_iff_ne.mpr c21
        obtain rfl := Option.some.inj H
        have hcz26_0 : wc.cell? ⟨gb102, 0, none⟩ = some (.int .i64 a0_0) := (blk_cell BK102.out 0).trans rfl
        have hcz26_1 : wc.cell? ⟨gb102, 1, none⟩ = some (.int .i64 a0_1) := (blk_cell BK102.out 1).trans rfl
        have hcz26_2 : wc.cell? ⟨gb102, 2, none⟩ = some (.int .i64 a0_2) := (blk_cell BK102.out 2).trans rfl
        have hcz26_3 : wc.cell? ⟨gb102, 3, none⟩ = some (.int .i64 a0_3) := (blk_cell BK102.out 3).trans rfl
        have hcz26_4 : wc.cell? ⟨gb102, 4, none⟩ = some (.string a0_4) := (blk_cell BK102.out 4).trans rfl
        have hfz26_0 := blk_frozen BK102.out 0
        have hfz26_1 := blk_frozen BK102.out 1
        have hfz26_2 := blk_frozen BK102.out 2
        have hfz26_3 := blk_frozen BK102.out 3
        have hfz26_4 := blk_frozen BK102.out 4
        go_wp2
        go_ret
        exact ⟨z72_, z30_⟩
      rw [if_pos c21] at H
      have c21b0 : (a0_4.toList == ([] : List UInt8)) = true := beq_iff_eq.mpr c21
      have c21b1 : (a0_4.toList != ([] : List UInt8)) = false := bne_eq_false_iff_eq.mpr c21
      clear c21
      by_cases c22 : (a0_4.size : Int) > 65536
      · rw [if_pos c22] at H
        have c22b0 : decide (65536 < (a0_4.size : Int)) = true := decide_eq_true c22
        have c22b1 : decide (65536 < a0_4.size) = true := decide_eq_true (by omega)
        clear c22
        obtain rfl := Option.some.inj H
        have hcz23_0 : wc.cell? ⟨gb102, 0, none⟩ = some (.int .i64 a0_0) := (blk_cell BK102.out 0).trans rfl
        have hcz23_1 : wc.cell? ⟨gb102, 1, none⟩ = some (.int .i64 a0_1) := (blk_cell BK102.out 1).trans rfl
        have hcz23_2 : wc.cell? ⟨gb102, 2, none⟩ = some (.int .i64 a0_2) := (blk_cell BK102.out 2).trans rfl
        have hcz23_3 : wc.cell? ⟨gb102, 3, none⟩ = some (.int .i64 a0_3) := (blk_cell BK102.out 3).trans rfl
        have hcz23_4 : wc.cell? ⟨gb102, 4, none⟩ = some (.string a0_4) := (blk_cell BK102.out 4).trans rfl
        have hfz23_0 := blk_frozen BK102.out 0
        have hfz23_1 := blk_frozen BK102.out 1
        have hfz23_2 := blk_frozen BK102.out 2
        have hfz23_3 := blk_frozen BK102.out 3
        have hfz23_4 := blk_frozen BK102.out 4
        go_wp2
        go_ret
        exact ⟨z72_, z30_⟩
      rw [if_neg c22] at H
      have c22b0 : decide (65536 < (a0_4.size : Int)) = false := decide_eq_false c22
      have c22b1 : decide (65536 < a0_4.size) = false := decide_eq_false (by omega)
      clear c22
      replace H := Option.bind_eq_some_iff.mp H
      obtain ⟨t105, A240, H⟩ := H
      replace H : (some t105) = some r := H
      have A24 := Aside0.mk A240
      clear A240
      obtain rfl := Option.some.inj H
      have hcz25_0 : wc.cell? ⟨gb102, 0, none⟩ = some (.int .i64 a0_0) := (blk_cell BK102.out 0).trans rfl
      have hcz25_1 : wc.cell? ⟨gb102, 1, none⟩ = some (.int .i64 a0_1) := (blk_cell BK102.out 1).trans rfl
      have hcz25_2 : wc.cell? ⟨gb102, 2, none⟩ = some (.int .i64 a0_2) := (blk_cell BK102.out 2).trans rfl
      have hcz25_3 : wc.cell? ⟨gb102, 3, none⟩ = some (.int .i64 a0_3) := (blk_cell BK102.out 3).trans rfl
      have hcz25_4 : wc.cell? ⟨gb102, 4, none⟩ = some (.string a0_4) := (blk_cell BK102.out 4).trans rfl
      have hfz25_0 := blk_frozen BK102.out 0
      have hfz25_1 := blk_frozen BK102.out 1
      have hfz25_2 := blk_frozen BK102.out 2
      have hfz25_3 := blk_frozen BK102.out 3
      have hfz25_4 := blk_frozen BK102.out 4
      go_wp2_with (first | ((with_reducible refine gate_callee (f := 23) rfl ?_); refine goesL_ (some 43) rfl rfl Try.func23 (by kernel_rfl) rfl #[.string a0_4] rfl z41_ ?_; (with_reducible refine (runes_Check.calls a0_4 t105 _ A24.out).mono ?_); rintro e w' ⟨rfl, ⟨nd, rfl⟩⟩; refine ⟨_, rfl, ?_⟩))
      go_ret
      exact ⟨z72_, z30_⟩
/-! ### journal_putNumber: function 19 -/
def journal_putNumber.l0 : Nat → List Int → Int → Option (List Int)
  | 0, _, _ => none
  | k + 1, x0, x1 => if x1 ≥ 128 then (if x0.length < 140737488355328 then (journal_putNumber.l0 k (x0 ++ [Go.bits .or .u8 ((x1) % 256) 128]) (x1 / 128)) else (none)) else (if x0.length < 140737488355328 then (some (x0 ++ [(x1) % 256])) else (none))
def journal_putNumber.f (k : Nat) (l0 : List Int) (a1 : Int) : Option (List Int) := journal_putNumber.l0 k l0 a1
theorem journal_putNumber.mono_l : ∀ k, (∀ y0 y1, LeO (journal_putNumber.l0 k y0 y1) (journal_putNumber.l0 (k + 1) y0 y1))
  | 0 => fun _ _ r h => by simp [journal_putNumber.l0] at h
  | k + 1 => by
    have ih0 := journal_putNumber.mono_l k
    · intro y0 y1
      unfold journal_putNumber.l0
      repeat' first | (with_reducible first | exact ih0 _ _ | exact LeO.refl _ | exact LeO.none _ | refine LeO.ite ?_ ?_ | refine LeO.bind ?_ (fun _ => ?_)) | exact ih0 _ _ | exact LeO.none _ | refine LeO.ite ?_ ?_ | refine LeO.bind ?_ (fun _ => ?_)
theorem journal_putNumber.mono : ∀ a0 a1 k, LeO (journal_putNumber.f k a0 a1) (journal_putNumber.f (k + 1) a0 a1) := by
  intro a0 a1 k
  have ih0 := journal_putNumber.mono_l k
  unfold journal_putNumber.f
  repeat' first | (with_reducible first | exact ih0 _ _ | exact LeO.refl _ | exact LeO.none _ | refine LeO.ite ?_ ?_ | refine LeO.bind ?_ (fun _ => ?_)) | exact ih0 _ _ | exact LeO.none _ | refine LeO.ite ?_ ?_ | refine LeO.bind ?_ (fun _ => ?_)
set_option maxHeartbeats 8000000 in
set_option maxRecDepth 100000 in
theorem journal_putNumber.calls (k : Nat) (P0_ : Nat → Prop) (u9000_ : Value) (l0 : List Int) (a1 : Int) (r : List Int) (w0 w : World) (hB : Below w0.heap.size w0 w) (ho0 : Kd.R (Kd.int .u8) 5 w w0.heap.size P0_ u9000_ l0) (h : journal_putNumber.f k l0 a1 = some r) :
    Calls Try.prog 19 #[u9000_, .int .u64 a1] w fun e w' => ∃ v0_ : Value, e = .returned (v0_) ∧ Kd.R (Kd.int .u8) 5 w' w0.heap.size (fun k_ => (P0_ k_ ∨ w.heap.size ≤ k_)) v0_ r ∧ Below w0.heap.size w0 w' ∧ Kept w w' (fun k_ => P0_ k_) := by
  have HO0 := Aside0.mk (show Kd.R (Kd.int .u8) 5 w w0.heap.size (fun k_ => (P0_ k_ ∨ w.heap.size ≤ k_)) u9000_ l0 from Kd.R_mono ho0 (fun k_ hk => (.inl hk)))
  have HK := Aside0.mk (Kept.refl w (fun k_ => P0_ k_))
  have HW0 := Aside0.mk hB.size
  have HB := Aside0.mk hB
  clear hB
  have H : (journal_putNumber.l0 k l0 a1) = some r := h
  clear h
  have H' := Aside0.mk H
  clear H
  go_enter Try.func19, Try.ntmps19
  go_wp2
  go_loopg [0, 1] k (fun kq v0 v1 w' => ∃ (x0_1 : List Int) (x1_1 : Int), v1 = .int .u64 x1_1 ∧ Aside0 (journal_putNumber.l0 kq x0_1 x1_1 = some r) ∧ Aside0 (kq ≤ k) ∧ Aside0 (Kd.R (Kd.int .u8) 5 w' w0.heap.size (fun k_ => (P0_ k_ ∨ w.heap.size ≤ k_)) v0 x0_1) ∧ Aside0 (Kept w w' (fun k_ => P0_ k_)) ∧ Aside0 (Below w0.heap.size w0 w'))
  case atStart => exact ⟨(l0), (a1), z81_, H', ⟨Nat.le_refl _⟩, ⟨y74_ HO0.out⟩, ⟨z46_⟩, ⟨z44_⟩⟩
  case round =>
    clear H'
    try clear c1
    try clear p2
    obtain ⟨x0_1, x1_1, rfl, HA, HK1, HO_0, HK, HB⟩ := hrel
    cases gk with
    | zero => exact absurd HA.out (by simp [journal_putNumber.l0])
    | succ k1 =>
      have H := HA.out
      clear HA
      simp only [journal_putNumber.l0] at H
      by_cases c3 : x1_1 ≥ 128
      rotate_left
      · rw [if_neg c3] at H
        have c3b0 : decide (128 ≤ x1_1) = false := decide_eq_false c3
        clear c3
        by_cases c6 : x0_1.length < 140737488355328
        rotate_left
        · rw [if_neg c6] at H
          exact absurd H (by simp)
        rw [if_pos c6] at H
        have LMc6 := Aside0.mk c6
        clear c6
        obtain ⟨y109, hy109⟩ : ∃ y_ : List Int, y_ = (x0_1 ++ [(x1_1) % 256]) := ⟨_, rfl⟩
        replace H : (some y109) = some r := by first | (rw [hy109]; with_reducible exact H) | (have H2_ := (Option.bind_some _ _).symm.trans H; rw [hy109]; with_reducible exact H2_) | (have H2_ := (Option.bind_some _ _).symm.trans H; with_reducible exact H2_) | with_reducible exact H | (rw [hy109]; exact H) | exact H
        have Ny109 := Aside0.mk hy109
        clear hy109
        obtain rfl := Option.some.inj H
        go_wp2_with (first | ((with_reducible refine gate_builtin (b := .append) (xs := #[.tmp 15, .tmp 18]) rfl ?_); at_builtin; refine Kd.R_append (Kd.int .u8) (w0 := w0) w0.heap.size rfl (.tmp 15) (.tmp 18) 22 5 (.int .u8 0) 1 rfl Try.underlying22 info5 rfl (by decide) (by omega) u0 x0_1 ((x1_1) % 256) [.int .u8 ((x1_1) % 256)] (fun k_ => (P0_ k_ ∨ w.heap.size ≤ k_)) (fun _ => False) rfl rfl ?aP (fun _ hk => hk.elim) ?aF ?aO ?aB ?aS ?aL ?_; (case aP => exact rfl); (case aB => exact z37_); (case aF => exact z8_); (case aO => exact z53_); (case aS => exact z36_); (case aL => have := LMc6.out; omega); intro v110 w7 ho hb hg hat; rw [← Ny109.out] at ho; have n0_ := Aside0.mk (hb); have n1_ := Aside0.mk (Kept.of_grown (S := (fun k_ => P0_ k_)) hg z46_ (fun k_ e_ => (HO_0.out.1 k_ e_))); have n2_ := Aside0.mk (ho); clear HB; clear HK; clear HO_0; have HB := n0_; have HK := n1_; have HO111 := n2_; clear n0_ n1_ n2_; clear ho hb hg hat))
        go_ret
        exact ⟨_, z72_, y74_ HO111.out, z44_, z46_⟩
      rw [if_pos c3] at H
      have c3b0 : decide (128 ≤ x1_1) = true := decide_eq_true c3
      clear c3
      by_cases c4 : x0_1.length < 140737488355328
      rotate_left
      · rw [if_neg c4] at H
        exact absurd H (by simp)
      rw [if_pos c4] at H
      have LMc4 := Aside0.mk c4
      clear c4
      obtain ⟨y106, hy106⟩ : ∃ y_ : List Int, y_ = (x0_1 ++ [Go.bits .or .u8 ((x1_1) % 256) 128]) := ⟨_, rfl⟩
      replace H : (journal_putNumber.l0 k1 y106 (x1_1 / 128)) = some r := by first | (rw [hy106]; with_reducible exact H) | (have H2_ := (Option.bind_some _ _).symm.trans H; rw [hy106]; with_reducible exact H2_) | (have H2_ := (Option.bind_some _ _).symm.trans H; with_reducible exact H2_) | with_reducible exact H | (rw [hy106]; exact H) | exact H
      have Ny106 := Aside0.mk hy106
      clear hy106
      have H' := Aside0.mk H
      clear H
      go_wp2_with (first | ((with_reducible refine gate_builtin (b := .append) (xs := #[.tmp 7, .tmp 11]) rfl ?_); at_builtin; refine Kd.R_append (Kd.int .u8) (w0 := w0) w0.heap.size rfl (.tmp 7) (.tmp 11) 22 5 (.int .u8 0) 1 rfl Try.underlying22 info5 rfl (by decide) (by omega) u0 x0_1 (Go.bits .or .u8 ((x1_1) % 256) 128) [.int .u8 (Go.bits .or .u8 ((x1_1) % 256) 128)] (fun k_ => (P0_ k_ ∨ w.heap.size ≤ k_)) (fun _ => False) rfl rfl ?aP (fun _ hk => hk.elim) ?aF ?aO ?aB ?aS ?aL ?_; (case aP => exact rfl); (case aB => exact z37_); (case aF => exact z8_); (case aO => exact z53_); (case aS => exact z36_); (case aL => have := LMc4.out; omega); intro v107 w5 ho hb hg hat; rw [← Ny106.out] at ho; have n0_ := Aside0.mk (hb); have n1_ := Aside0.mk (Kept.of_grown (S := (fun k_ => P0_ k_)) hg z46_ (fun k_ e_ => (HO_0.out.1 k_ e_))); have n2_ := Aside0.mk (ho); clear HB; clear HK; clear HO_0; have HB := n0_; have HK := n1_; have HO108 := n2_; clear n0_ n1_ n2_; clear ho hb hg hat))
      go_roundg k1
      case measure => have := HK1.out; omega
      case rel => exact ⟨(y106), (x1_1 / 128), z81_, H', ⟨z91_⟩, ⟨y74_ HO108.out⟩, ⟨z46_⟩, ⟨z44_⟩⟩
/-! ### journal_folded: function 20 -/
def journal_folded.f (a0 : Int) : Option (Int) := some (Go.bits .xor .u64 (IntKind.u64.wrap ((IntKind.u64.wrap (a0)) * 2)) (IntKind.u64.wrap (a0 / 9223372036854775808)))
set_option maxHeartbeats 8000000 in
set_option maxRecDepth 100000 in
theorem journal_folded.calls (a0 : Int) (r : Int) (w : World) (h : journal_folded.f a0 = some r) :
    Calls Try.prog 20 #[.int .i64 a0] w fun e w' => e = .returned (.int .u64 r) ∧ Drawn0 w w' := by
  have H : (some (Go.bits .xor .u64 (IntKind.u64.wrap ((IntKind.u64.wrap (a0)) * 2)) (IntKind.u64.wrap (a0 / 9223372036854775808)))) = some r := h
  clear h
  obtain rfl := Option.some.inj H
  go_enter Try.func20, Try.ntmps20
  go_wp2
  go_ret
  exact ⟨z75_, z78_⟩
end Go.Proofs.Ytkgpnegebpkhlaa.PJournalBack
