-- WRITTEN BY wip/xprint.py of this repo, over the kit's print; functions the print does not take are by hand
import Derived.Test.YtiabffkfabmlpaaPLocateBackx0
import Derived.Test.YtiabffkfabmlpaaPLocateBackx1
import Derived.Test.YtiabffkfabmlpaaPLocateBackx6
import Derived.Test.YtiabffkfabmlpaaPLocateBackx7
import Derived.Test.YtiabffkfabmlpaaPLocateBackx8
import Derived.Test.YtiabffkfabmlpaaPLocateBackx10
namespace Go.Proofs.Ytiabffkfabmlpaa.PLocateBack
open Go.RowKit Go.Proofs.YtiabffkfabmlpaaW.PrintWords Go.Proofs.YtiabffkfabmlpaaW.PrintLast Go.Proofs.YtiabffkfabmlpaaW.PrintMore
attribute [local go_sem] max2_int min2_int max_two min_two max_three min_three max_four min_four   -- for this text's walks alone
set_option linter.unusedVariables false
set_option linter.unusedSimpArgs false
attribute [local go_sem high] eqA43
/-! ### locate_space: function 35 -/
def locate_space.f (k : Nat) (l0 : List (S98)) (a1_0 : ByteArray) (l1_1 : List (S75)) (a1_2 : Int) (a1_3 : Int) (a1_4 : Int) (a1_5 : Bool) (a1_6 : Int) (a1_7 : Bool) (a1_8 : Bool) (a2 : Int) : Option (Int) := (metrics_Table_Space.f l0 a2).bind fun bt214 => (if a1_2 > 0 then ((scaled_Scale.f k bt214.2.1 a1_2 a1_3).bind fun t217 => (some (wrap64 (bt214.1 + t217)))) else (if a1_2 < 0 then ((scaled_Scale.f k bt214.2.2 a1_2 a1_3).bind fun t218 => (some (wrap64 (bt214.1 + t218)))) else (some bt214.1)))
theorem locate_space.mono : ∀ a0 a1 a2 a3 a4 a5 a6 a7 a8 a9 a10 k, LeO (locate_space.f k a0 a1 a2 a3 a4 a5 a6 a7 a8 a9 a10) (locate_space.f (k + 1) a0 a1 a2 a3 a4 a5 a6 a7 a8 a9 a10) := by
  intro a0 a1 a2 a3 a4 a5 a6 a7 a8 a9 a10 k
  unfold locate_space.f
  repeat' first | (with_reducible first | exact scaled_Scale.mono _ _ _ _ | exact LeO.refl _ | exact LeO.none _ | refine LeO.ite ?_ ?_ | refine LeO.bind ?_ (fun _ => ?_)) | exact scaled_Scale.mono _ _ _ _ | exact LeO.none _ | refine LeO.ite ?_ ?_ | refine LeO.bind ?_ (fun _ => ?_)
set_option maxHeartbeats 8000000 in
set_option maxRecDepth 100000 in
theorem locate_space.calls (k : Nat) (A0 : Option Addr) (c0 : Nat) (l0 : List (S98)) (a1_0 : ByteArray) (A1_1 : Option Addr) (c1_1 : Nat) (l1_1 : List (S75)) (a1_2 : Int) (a1_3 : Int) (a1_4 : Int) (a1_5 : Bool) (a1_6 : Int) (a1_7 : Bool) (a1_8 : Bool) (a2 : Int) (r : Int) (w : World) (hr0 : Kd.C k98 w A0 l0.length l0) (hc0 : l0.length ≤ c0) (hr1_1 : Kd.C k75 w A1_1 l1_1.length l1_1) (hc1_1 : l1_1.length ≤ c1_1) (h : locate_space.f k l0 a1_0 l1_1 a1_2 a1_3 a1_4 a1_5 a1_6 a1_7 a1_8 a2 = some r) :
    Calls Try.prog 35 #[.pointer A0, .agg #[.string a1_0, .slice A1_1 l1_1.length c1_1, .int .i64 a1_2, .int .i64 a1_3, .int .i64 a1_4, .bool a1_5, .int .i64 a1_6, .bool a1_7, .bool a1_8], .int .i64 a2] w fun e w' => e = .returned (.int .i64 r) ∧ Below w.heap.size w w' := by
  have hu28 := Try.underlying28
  have HR0 := Aside0.mk hr0
  have HC0 := Aside0.mk hc0
  clear hr0 hc0
  have HR1_1 := Aside0.mk hr1_1
  have HC1_1 := Aside0.mk hc1_1
  clear hr1_1 hc1_1
  have HB := Aside0.mk (Below.refl w.heap.size w)
  have H : ((metrics_Table_Space.f l0 a2).bind fun bt214 => (if a1_2 > 0 then ((scaled_Scale.f k bt214.2.1 a1_2 a1_3).bind fun t217 => (some (wrap64 (bt214.1 + t217)))) else (if a1_2 < 0 then ((scaled_Scale.f k bt214.2.2 a1_2 a1_3).bind fun t218 => (some (wrap64 (bt214.1 + t218)))) else (some bt214.1)))) = some r := h
  clear h
  replace H := Option.bind_eq_some_iff.mp H
  obtain ⟨⟨t214, t215, t216⟩, A40, H⟩ := H
  replace H : (if a1_2 > 0 then ((scaled_Scale.f k t215 a1_2 a1_3).bind fun t217 => (some (wrap64 (t214 + t217)))) else (if a1_2 < 0 then ((scaled_Scale.f k t216 a1_2 a1_3).bind fun t218 => (some (wrap64 (t214 + t218)))) else (some t214))) = some r := H
  have A4 := Aside0.mk A40
  clear A40
  by_cases c5 : a1_2 > 0
  · rw [if_pos c5] at H
    have c5b0 : decide (0 < a1_2) = true := decide_eq_true c5
    clear c5
    replace H := Option.bind_eq_some_iff.mp H
    obtain ⟨t217, A60, H⟩ := H
    replace H : (some (wrap64 (t214 + t217))) = some r := H
    have A6 := Aside0.mk A60
    clear A60
    obtain rfl := Option.some.inj H
    go_enter Try.func35, Try.ntmps35
    go_wp2_with (first | ((with_reducible refine gate_dst (N := 4) rfl ?_); refine box_event ?hg (N := 4) ?hd (cs := #[.string a1_0, .slice A1_1 l1_1.length c1_1, .int .i64 a1_2, .int .i64 a1_3, .int .i64 a1_4, .bool a1_5, .int .i64 a1_6, .bool a1_7, .bool a1_8]) (t := 28) ?hr ?_; (case hd => rfl); (case hg => rfl); (case hr => exact z181_); intro gb213 hg w7 hbox hb; have BK213 := Aside0.mk (hbox); have GW213 := Aside0.mk ((z74_ : w.heap.size ≤ gb213)); have GE213 := Aside0.mk ((z74_ : w.heap.size ≤ gb213)); replace HB := Aside0.mk (below_step z103_ hb); clear hb hbox hg) | ((with_reducible refine gate_callee (f := 53) rfl ?_); refine goesL_ (some 13) rfl rfl Try.func53 (by kernel_rfl) rfl #[.pointer A0, .int .i64 a2] rfl z99_ ?_; (with_reducible refine (metrics_Table_Space.calls _ c0 l0 a2 t214 t215 t216 _ ?side1 ?side2 A4.out).mono ?_); (case side1 => exact z67_); (case side2 => exact HC0.out); rintro e w8 ⟨rfl, hb⟩; refine ⟨_, rfl, ?_⟩; replace BK213 := Aside0.mk (blk_below (g := gb213) (o := .cells #[.string a1_0, .slice A1_1 l1_1.length c1_1, .int .i64 a1_2, .int .i64 a1_3, .int .i64 a1_4, .bool a1_5, .int .i64 a1_6, .bool a1_7, .bool a1_8] 28 (0, 0)) z126_ hb); replace HB := Aside0.mk (below_step z84_ hb); (try clear hb); (try clear hb2); (try clear hk); (try clear hi); have hcz9_0 : w8.cell? ⟨gb213, 0, none⟩ = some (.string a1_0) := (blk_cell BK213.out 0).trans rfl; have hcz9_1 : w8.cell? ⟨gb213, 1, none⟩ = some (.slice A1_1 l1_1.length c1_1) := (blk_cell BK213.out 1).trans rfl; have hcz9_2 : w8.cell? ⟨gb213, 2, none⟩ = some (.int .i64 a1_2) := (blk_cell BK213.out 2).trans rfl; have hcz9_3 : w8.cell? ⟨gb213, 3, none⟩ = some (.int .i64 a1_3) := (blk_cell BK213.out 3).trans rfl; have hcz9_4 : w8.cell? ⟨gb213, 4, none⟩ = some (.int .i64 a1_4) := (blk_cell BK213.out 4).trans rfl; have hcz9_5 : w8.cell? ⟨gb213, 5, none⟩ = some (.bool a1_5) := (blk_cell BK213.out 5).trans rfl; have hcz9_6 : w8.cell? ⟨gb213, 6, none⟩ = some (.int .i64 a1_6) := (blk_cell BK213.out 6).trans rfl; have hcz9_7 : w8.cell? ⟨gb213, 7, none⟩ = some (.bool a1_7) := (blk_cell BK213.out 7).trans rfl; have hcz9_8 : w8.cell? ⟨gb213, 8, none⟩ = some (.bool a1_8) := (blk_cell BK213.out 8).trans rfl; have hfz9_0 := blk_frozen BK213.out 0; have hfz9_1 := blk_frozen BK213.out 1; have hfz9_2 := blk_frozen BK213.out 2; have hfz9_3 := blk_frozen BK213.out 3; have hfz9_4 := blk_frozen BK213.out 4; have hfz9_5 := blk_frozen BK213.out 5; have hfz9_6 := blk_frozen BK213.out 6; have hfz9_7 := blk_frozen BK213.out 7; have hfz9_8 := blk_frozen BK213.out 8) | ((with_reducible refine gate_callee (f := 54) rfl ?_); refine goesL_ (some 27) rfl rfl Try.func54 (by kernel_rfl) rfl #[.int .i64 t215, .int .i64 a1_2, .int .i64 a1_3] rfl z99_ ?_; (with_reducible refine (scaled_Scale.calls k t215 a1_2 a1_3 t217 _ A6.out).mono ?_); rintro e w10 ⟨rfl, hb⟩; refine ⟨_, rfl, ?_⟩; replace BK213 := Aside0.mk (blk_below (g := gb213) (o := .cells #[.string a1_0, .slice A1_1 l1_1.length c1_1, .int .i64 a1_2, .int .i64 a1_3, .int .i64 a1_4, .bool a1_5, .int .i64 a1_6, .bool a1_7, .bool a1_8] 28 (0, 0)) z126_ hb); replace HB := Aside0.mk (below_step z84_ hb); (try clear hb); (try clear hb2); (try clear hk); (try clear hi)))
    go_ret
    exact ⟨z155_, z84_⟩
  rw [if_neg c5] at H
  have c5b0 : decide (0 < a1_2) = false := decide_eq_false c5
  clear c5
  by_cases c11 : a1_2 < 0
  rotate_left
  · rw [if_neg c11] at H
    have c11b0 : decide (a1_2 < 0) = false := decide_eq_false c11
    clear c11
    obtain rfl := Option.some.inj H
    go_enter Try.func35, Try.ntmps35
    go_wp2_with (first | ((with_reducible refine gate_dst (N := 4) rfl ?_); refine box_event ?hg (N := 4) ?hd (cs := #[.string a1_0, .slice A1_1 l1_1.length c1_1, .int .i64 a1_2, .int .i64 a1_3, .int .i64 a1_4, .bool a1_5, .int .i64 a1_6, .bool a1_7, .bool a1_8]) (t := 28) ?hr ?_; (case hd => rfl); (case hg => rfl); (case hr => exact z181_); intro gb213 hg w17 hbox hb; have BK213 := Aside0.mk (hbox); have GW213 := Aside0.mk ((z74_ : w.heap.size ≤ gb213)); have GE213 := Aside0.mk ((z74_ : w.heap.size ≤ gb213)); replace HB := Aside0.mk (below_step z103_ hb); clear hb hbox hg) | ((with_reducible refine gate_callee (f := 53) rfl ?_); refine goesL_ (some 13) rfl rfl Try.func53 (by kernel_rfl) rfl #[.pointer A0, .int .i64 a2] rfl z99_ ?_; (with_reducible refine (metrics_Table_Space.calls _ c0 l0 a2 t214 t215 t216 _ ?side1 ?side2 A4.out).mono ?_); (case side1 => exact z67_); (case side2 => exact HC0.out); rintro e w18 ⟨rfl, hb⟩; refine ⟨_, rfl, ?_⟩; replace BK213 := Aside0.mk (blk_below (g := gb213) (o := .cells #[.string a1_0, .slice A1_1 l1_1.length c1_1, .int .i64 a1_2, .int .i64 a1_3, .int .i64 a1_4, .bool a1_5, .int .i64 a1_6, .bool a1_7, .bool a1_8] 28 (0, 0)) z126_ hb); replace HB := Aside0.mk (below_step z84_ hb); (try clear hb); (try clear hb2); (try clear hk); (try clear hi); have hcz19_0 : w18.cell? ⟨gb213, 0, none⟩ = some (.string a1_0) := (blk_cell BK213.out 0).trans rfl; have hcz19_1 : w18.cell? ⟨gb213, 1, none⟩ = some (.slice A1_1 l1_1.length c1_1) := (blk_cell BK213.out 1).trans rfl; have hcz19_2 : w18.cell? ⟨gb213, 2, none⟩ = some (.int .i64 a1_2) := (blk_cell BK213.out 2).trans rfl; have hcz19_3 : w18.cell? ⟨gb213, 3, none⟩ = some (.int .i64 a1_3) := (blk_cell BK213.out 3).trans rfl; have hcz19_4 : w18.cell? ⟨gb213, 4, none⟩ = some (.int .i64 a1_4) := (blk_cell BK213.out 4).trans rfl; have hcz19_5 : w18.cell? ⟨gb213, 5, none⟩ = some (.bool a1_5) := (blk_cell BK213.out 5).trans rfl; have hcz19_6 : w18.cell? ⟨gb213, 6, none⟩ = some (.int .i64 a1_6) := (blk_cell BK213.out 6).trans rfl; have hcz19_7 : w18.cell? ⟨gb213, 7, none⟩ = some (.bool a1_7) := (blk_cell BK213.out 7).trans rfl; have hcz19_8 : w18.cell? ⟨gb213, 8, none⟩ = some (.bool a1_8) := (blk_cell BK213.out 8).trans rfl; have hfz19_0 := blk_frozen BK213.out 0; have hfz19_1 := blk_frozen BK213.out 1; have hfz19_2 := blk_frozen BK213.out 2; have hfz19_3 := blk_frozen BK213.out 3; have hfz19_4 := blk_frozen BK213.out 4; have hfz19_5 := blk_frozen BK213.out 5; have hfz19_6 := blk_frozen BK213.out 6; have hfz19_7 := blk_frozen BK213.out 7; have hfz19_8 := blk_frozen BK213.out 8))
    go_ret
    exact ⟨z155_, z84_⟩
  rw [if_pos c11] at H
  have c11b0 : decide (a1_2 < 0) = true := decide_eq_true c11
  clear c11
  replace H := Option.bind_eq_some_iff.mp H
  obtain ⟨t218, A120, H⟩ := H
  replace H : (some (wrap64 (t214 + t218))) = some r := H
  have A12 := Aside0.mk A120
  clear A120
  obtain rfl := Option.some.inj H
  go_enter Try.func35, Try.ntmps35
  go_wp2_with (first | ((with_reducible refine gate_dst (N := 4) rfl ?_); refine box_event ?hg (N := 4) ?hd (cs := #[.string a1_0, .slice A1_1 l1_1.length c1_1, .int .i64 a1_2, .int .i64 a1_3, .int .i64 a1_4, .bool a1_5, .int .i64 a1_6, .bool a1_7, .bool a1_8]) (t := 28) ?hr ?_; (case hd => rfl); (case hg => rfl); (case hr => exact z181_); intro gb213 hg w13 hbox hb; have BK213 := Aside0.mk (hbox); have GW213 := Aside0.mk ((z74_ : w.heap.size ≤ gb213)); have GE213 := Aside0.mk ((z74_ : w.heap.size ≤ gb213)); replace HB := Aside0.mk (below_step z103_ hb); clear hb hbox hg) | ((with_reducible refine gate_callee (f := 53) rfl ?_); refine goesL_ (some 13) rfl rfl Try.func53 (by kernel_rfl) rfl #[.pointer A0, .int .i64 a2] rfl z99_ ?_; (with_reducible refine (metrics_Table_Space.calls _ c0 l0 a2 t214 t215 t216 _ ?side1 ?side2 A4.out).mono ?_); (case side1 => exact z67_); (case side2 => exact HC0.out); rintro e w14 ⟨rfl, hb⟩; refine ⟨_, rfl, ?_⟩; replace BK213 := Aside0.mk (blk_below (g := gb213) (o := .cells #[.string a1_0, .slice A1_1 l1_1.length c1_1, .int .i64 a1_2, .int .i64 a1_3, .int .i64 a1_4, .bool a1_5, .int .i64 a1_6, .bool a1_7, .bool a1_8] 28 (0, 0)) z126_ hb); replace HB := Aside0.mk (below_step z84_ hb); (try clear hb); (try clear hb2); (try clear hk); (try clear hi); have hcz15_0 : w14.cell? ⟨gb213, 0, none⟩ = some (.string a1_0) := (blk_cell BK213.out 0).trans rfl; have hcz15_1 : w14.cell? ⟨gb213, 1, none⟩ = some (.slice A1_1 l1_1.length c1_1) := (blk_cell BK213.out 1).trans rfl; have hcz15_2 : w14.cell? ⟨gb213, 2, none⟩ = some (.int .i64 a1_2) := (blk_cell BK213.out 2).trans rfl; have hcz15_3 : w14.cell? ⟨gb213, 3, none⟩ = some (.int .i64 a1_3) := (blk_cell BK213.out 3).trans rfl; have hcz15_4 : w14.cell? ⟨gb213, 4, none⟩ = some (.int .i64 a1_4) := (blk_cell BK213.out 4).trans rfl; have hcz15_5 : w14.cell? ⟨gb213, 5, none⟩ = some (.bool a1_5) := (blk_cell BK213.out 5).trans rfl; have hcz15_6 : w14.cell? ⟨gb213, 6, none⟩ = some (.int .i64 a1_6) := (blk_cell BK213.out 6).trans rfl; have hcz15_7 : w14.cell? ⟨gb213, 7, none⟩ = some (.bool a1_7) := (blk_cell BK213.out 7).trans rfl; have hcz15_8 : w14.cell? ⟨gb213, 8, none⟩ = some (.bool a1_8) := (blk_cell BK213.out 8).trans rfl; have hfz15_0 := blk_frozen BK213.out 0; have hfz15_1 := blk_frozen BK213.out 1; have hfz15_2 := blk_frozen BK213.out 2; have hfz15_3 := blk_frozen BK213.out 3; have hfz15_4 := blk_frozen BK213.out 4; have hfz15_5 := blk_frozen BK213.out 5; have hfz15_6 := blk_frozen BK213.out 6; have hfz15_7 := blk_frozen BK213.out 7; have hfz15_8 := blk_frozen BK213.out 8) | ((with_reducible refine gate_callee (f := 54) rfl ?_); refine goesL_ (some 39) rfl rfl Try.func54 (by kernel_rfl) rfl #[.int .i64 t216, .int .i64 a1_2, .int .i64 a1_3] rfl z99_ ?_; (with_reducible refine (scaled_Scale.calls k t216 a1_2 a1_3 t218 _ A12.out).mono ?_); rintro e w16 ⟨rfl, hb⟩; refine ⟨_, rfl, ?_⟩; replace BK213 := Aside0.mk (blk_below (g := gb213) (o := .cells #[.string a1_0, .slice A1_1 l1_1.length c1_1, .int .i64 a1_2, .int .i64 a1_3, .int .i64 a1_4, .bool a1_5, .int .i64 a1_6, .bool a1_7, .bool a1_8] 28 (0, 0)) z126_ hb); replace HB := Aside0.mk (below_step z84_ hb); (try clear hb); (try clear hb2); (try clear hk); (try clear hi)))
  go_ret
  exact ⟨z155_, z84_⟩
/-! ### locate_Stops: function 13 -/
def locate_Stops.l0 : Nat → List (S98) → List (S43) → Int → Int → ByteArray → List (S75) → Int → Int → Int → Bool → Int → Bool → Bool → ByteArray → Int → Option ((List (S43)))
  | 0, _, _, _, _, _, _, _, _, _, _, _, _, _, _, _ => none
  | k + 1, x0, x5, x6, x7, x220000, x220001, x220002, x220003, x220004, x220005, x220006, x220007, x220008, x222000, x222001 => if (x222001 : Int).toNat < x222000.size then (if x5.length < 8796093022208 then ((some (x5 ++ [(⟨itP_ x222001, x6⟩ : S43)] : List (S43))).bind fun y222 => ((locate_styleAt.f k x220001 (itP_ x222001)).bind fun t225 => ((runes_Kind.f k (itR_ x222000 x222001)).bind fun t226 => (if t226 = 1 then (if (itP_ x222001) < x7 then ((locate_space.f k x0 x220000 x220001 x220002 x220003 x220004 x220005 x220006 x220007 x220008 t225).bind fun t227 => ((scaled_Add.f x6 t227).bind fun t228 => (locate_Stops.l0 k x0 y222 t228 x7 x220000 x220001 x220002 x220003 x220004 x220005 x220006 x220007 x220008 x222000 (itN_ x222000 x222001)))) else (locate_Stops.l0 k x0 y222 x6 x7 x220000 x220001 x220002 x220003 x220004 x220005 x220006 x220007 x220008 x222000 (itN_ x222000 x222001))) else ((metrics_Table_Width.f k x0 t225 (itR_ x222000 x222001)).bind fun t229 => ((scaled_Add.f x6 t229).bind fun t230 => (locate_Stops.l0 k x0 y222 t230 x7 x220000 x220001 x220002 x220003 x220004 x220005 x220006 x220007 x220008 x222000 (itN_ x222000 x222001)))))))) else (none)) else (if x5.length < 8796093022208 then (some (x5 ++ [(⟨(x220000.size : Int), x6⟩ : S43)])) else (none))
def locate_Stops.f (k : Nat) (l0 : List (S98)) (a1_0 : ByteArray) (l1_1 : List (S75)) (a1_2 : Int) (a1_3 : Int) (a1_4 : Int) (a1_5 : Bool) (a1_6 : Int) (a1_7 : Bool) (a1_8 : Bool) : Option ((List (S43))) := (locate_shown.f k a1_0).bind fun t220 => (locate_Stops.l0 k l0 ([] : List (S43)) 0 t220 a1_0 l1_1 a1_2 a1_3 a1_4 a1_5 a1_6 a1_7 a1_8 a1_0 0)
theorem locate_Stops.mono_l : ∀ k, (∀ y0 y1 y2 y3 y4 y5 y6 y7 y8 y9 y10 y11 y12 y13 y14, LeO (locate_Stops.l0 k y0 y1 y2 y3 y4 y5 y6 y7 y8 y9 y10 y11 y12 y13 y14) (locate_Stops.l0 (k + 1) y0 y1 y2 y3 y4 y5 y6 y7 y8 y9 y10 y11 y12 y13 y14))
  | 0 => fun _ _ _ _ _ _ _ _ _ _ _ _ _ _ _ r h => by simp [locate_Stops.l0] at h
  | k + 1 => by
    have ih0 := locate_Stops.mono_l k
    · intro y0 y1 y2 y3 y4 y5 y6 y7 y8 y9 y10 y11 y12 y13 y14
      unfold locate_Stops.l0
      repeat' first | (with_reducible first | exact ih0 _ _ _ _ _ _ _ _ _ _ _ _ _ _ _ | exact locate_shown.mono _ _ | exact locate_space.mono _ _ _ _ _ _ _ _ _ _ _ _ | exact locate_styleAt.mono _ _ _ | exact metrics_Table_Width.mono _ _ _ _ | exact runes_Kind.mono _ _ | exact LeO.refl _ | exact LeO.none _ | refine LeO.ite ?_ ?_ | refine LeO.bind ?_ (fun _ => ?_)) | exact ih0 _ _ _ _ _ _ _ _ _ _ _ _ _ _ _ | exact locate_shown.mono _ _ | exact locate_space.mono _ _ _ _ _ _ _ _ _ _ _ _ | exact locate_styleAt.mono _ _ _ | exact metrics_Table_Width.mono _ _ _ _ | exact runes_Kind.mono _ _ | exact LeO.none _ | refine LeO.ite ?_ ?_ | refine LeO.bind ?_ (fun _ => ?_)
theorem locate_Stops.mono : ∀ a0 a1 a2 a3 a4 a5 a6 a7 a8 a9 k, LeO (locate_Stops.f k a0 a1 a2 a3 a4 a5 a6 a7 a8 a9) (locate_Stops.f (k + 1) a0 a1 a2 a3 a4 a5 a6 a7 a8 a9) := by
  intro a0 a1 a2 a3 a4 a5 a6 a7 a8 a9 k
  have ih0 := locate_Stops.mono_l k
  unfold locate_Stops.f
  repeat' first | (with_reducible first | exact ih0 _ _ _ _ _ _ _ _ _ _ _ _ _ _ _ | exact locate_shown.mono _ _ | exact locate_space.mono _ _ _ _ _ _ _ _ _ _ _ _ | exact locate_styleAt.mono _ _ _ | exact metrics_Table_Width.mono _ _ _ _ | exact runes_Kind.mono _ _ | exact LeO.refl _ | exact LeO.none _ | refine LeO.ite ?_ ?_ | refine LeO.bind ?_ (fun _ => ?_)) | exact ih0 _ _ _ _ _ _ _ _ _ _ _ _ _ _ _ | exact locate_shown.mono _ _ | exact locate_space.mono _ _ _ _ _ _ _ _ _ _ _ _ | exact locate_styleAt.mono _ _ _ | exact metrics_Table_Width.mono _ _ _ _ | exact runes_Kind.mono _ _ | exact LeO.none _ | refine LeO.ite ?_ ?_ | refine LeO.bind ?_ (fun _ => ?_)
set_option maxHeartbeats 8000000 in
set_option maxRecDepth 100000 in
theorem locate_Stops.calls (k : Nat) (A0 : Option Addr) (c0 : Nat) (l0 : List (S98)) (a1_0 : ByteArray) (A1_1 : Option Addr) (c1_1 : Nat) (l1_1 : List (S75)) (a1_2 : Int) (a1_3 : Int) (a1_4 : Int) (a1_5 : Bool) (a1_6 : Int) (a1_7 : Bool) (a1_8 : Bool) (r : List (S43)) (w : World) (hr0 : Kd.C k98 w A0 l0.length l0) (hc0 : l0.length ≤ c0) (hr1_1 : Kd.C k75 w A1_1 l1_1.length l1_1) (hc1_1 : l1_1.length ≤ c1_1) (h : locate_Stops.f k l0 a1_0 l1_1 a1_2 a1_3 a1_4 a1_5 a1_6 a1_7 a1_8 = some r) :
    Calls Try.prog 13 #[.pointer A0, .agg #[.string a1_0, .slice A1_1 l1_1.length c1_1, .int .i64 a1_2, .int .i64 a1_3, .int .i64 a1_4, .bool a1_5, .int .i64 a1_6, .bool a1_7, .bool a1_8]] w fun e w' => ∃ v0_ : Value, e = .returned (v0_) ∧ Kd.R k43 43 w' w.heap.size (fun _ => True) v0_ r ∧ Below w.heap.size w w' := by
  have hu28 := Try.underlying28
  have hu43 := Try.underlying43
  have HR0 := Aside0.mk hr0
  have HC0 := Aside0.mk hc0
  clear hr0 hc0
  have HR1_1 := Aside0.mk hr1_1
  have HC1_1 := Aside0.mk hc1_1
  clear hr1_1 hc1_1
  have HB := Aside0.mk (Below.refl w.heap.size w)
  have H : ((locate_shown.f k a1_0).bind fun t220 => (locate_Stops.l0 k l0 ([] : List (S43)) 0 t220 a1_0 l1_1 a1_2 a1_3 a1_4 a1_5 a1_6 a1_7 a1_8 a1_0 0)) = some r := h
  clear h
  replace H := Option.bind_eq_some_iff.mp H
  obtain ⟨t220, A30, H⟩ := H
  replace H : (locate_Stops.l0 k l0 ([] : List (S43)) 0 t220 a1_0 l1_1 a1_2 a1_3 a1_4 a1_5 a1_6 a1_7 a1_8 a1_0 0) = some r := H
  have A3 := Aside0.mk A30
  clear A30
  have H' := Aside0.mk H
  clear H
  go_enter Try.func13, Try.ntmps13
  go_wp2_with (first | ((with_reducible refine gate_dst (N := 3) rfl ?_); refine box_event ?hg (N := 3) ?hd (cs := #[.string a1_0, .slice A1_1 l1_1.length c1_1, .int .i64 a1_2, .int .i64 a1_3, .int .i64 a1_4, .bool a1_5, .int .i64 a1_6, .bool a1_7, .bool a1_8]) (t := 28) ?hr ?_; (case hd => rfl); (case hg => rfl); (case hr => exact z181_); intro gb219 hg w4 hbox hb; have BK219 := Aside0.mk (hbox); have GW219 := Aside0.mk ((z74_ : w.heap.size ≤ gb219)); have GE219 := Aside0.mk ((z74_ : w.heap.size ≤ gb219)); replace HB := Aside0.mk (below_step z103_ hb); clear hb hbox hg; have hcz5_0 : w4.cell? ⟨gb219, 0, none⟩ = some (.string a1_0) := (blk_cell BK219.out 0).trans rfl; have hcz5_1 : w4.cell? ⟨gb219, 1, none⟩ = some (.slice A1_1 l1_1.length c1_1) := (blk_cell BK219.out 1).trans rfl; have hcz5_2 : w4.cell? ⟨gb219, 2, none⟩ = some (.int .i64 a1_2) := (blk_cell BK219.out 2).trans rfl; have hcz5_3 : w4.cell? ⟨gb219, 3, none⟩ = some (.int .i64 a1_3) := (blk_cell BK219.out 3).trans rfl; have hcz5_4 : w4.cell? ⟨gb219, 4, none⟩ = some (.int .i64 a1_4) := (blk_cell BK219.out 4).trans rfl; have hcz5_5 : w4.cell? ⟨gb219, 5, none⟩ = some (.bool a1_5) := (blk_cell BK219.out 5).trans rfl; have hcz5_6 : w4.cell? ⟨gb219, 6, none⟩ = some (.int .i64 a1_6) := (blk_cell BK219.out 6).trans rfl; have hcz5_7 : w4.cell? ⟨gb219, 7, none⟩ = some (.bool a1_7) := (blk_cell BK219.out 7).trans rfl; have hcz5_8 : w4.cell? ⟨gb219, 8, none⟩ = some (.bool a1_8) := (blk_cell BK219.out 8).trans rfl; have hfz5_0 := blk_frozen BK219.out 0; have hfz5_1 := blk_frozen BK219.out 1; have hfz5_2 := blk_frozen BK219.out 2; have hfz5_3 := blk_frozen BK219.out 3; have hfz5_4 := blk_frozen BK219.out 4; have hfz5_5 := blk_frozen BK219.out 5; have hfz5_6 := blk_frozen BK219.out 6; have hfz5_7 := blk_frozen BK219.out 7; have hfz5_8 := blk_frozen BK219.out 8) | ((with_reducible refine gate_callee (f := 30) rfl ?_); refine goesL_ (some 13) rfl rfl Try.func30 (by kernel_rfl) rfl #[.string a1_0] rfl z99_ ?_; (with_reducible refine (locate_shown.calls k a1_0 t220 _ A3.out).mono ?_); rintro e w6 ⟨rfl, hb⟩; refine ⟨_, rfl, ?_⟩; replace BK219 := Aside0.mk (blk_below (g := gb219) (o := .cells #[.string a1_0, .slice A1_1 l1_1.length c1_1, .int .i64 a1_2, .int .i64 a1_3, .int .i64 a1_4, .bool a1_5, .int .i64 a1_6, .bool a1_7, .bool a1_8] 28 (0, 0)) z127_ hb); replace HB := Aside0.mk (below_step z85_ hb); (try clear hb); (try clear hb2); (try clear hk); (try clear hi); have hcz7_0 : w6.cell? ⟨gb219, 0, none⟩ = some (.string a1_0) := (blk_cell BK219.out 0).trans rfl; have hcz7_1 : w6.cell? ⟨gb219, 1, none⟩ = some (.slice A1_1 l1_1.length c1_1) := (blk_cell BK219.out 1).trans rfl; have hcz7_2 : w6.cell? ⟨gb219, 2, none⟩ = some (.int .i64 a1_2) := (blk_cell BK219.out 2).trans rfl; have hcz7_3 : w6.cell? ⟨gb219, 3, none⟩ = some (.int .i64 a1_3) := (blk_cell BK219.out 3).trans rfl; have hcz7_4 : w6.cell? ⟨gb219, 4, none⟩ = some (.int .i64 a1_4) := (blk_cell BK219.out 4).trans rfl; have hcz7_5 : w6.cell? ⟨gb219, 5, none⟩ = some (.bool a1_5) := (blk_cell BK219.out 5).trans rfl; have hcz7_6 : w6.cell? ⟨gb219, 6, none⟩ = some (.int .i64 a1_6) := (blk_cell BK219.out 6).trans rfl; have hcz7_7 : w6.cell? ⟨gb219, 7, none⟩ = some (.bool a1_7) := (blk_cell BK219.out 7).trans rfl; have hcz7_8 : w6.cell? ⟨gb219, 8, none⟩ = some (.bool a1_8) := (blk_cell BK219.out 8).trans rfl; have hfz7_0 := blk_frozen BK219.out 0; have hfz7_1 := blk_frozen BK219.out 1; have hfz7_2 := blk_frozen BK219.out 2; have hfz7_3 := blk_frozen BK219.out 3; have hfz7_4 := blk_frozen BK219.out 4; have hfz7_5 := blk_frozen BK219.out 5; have hfz7_6 := blk_frozen BK219.out 6; have hfz7_7 := blk_frozen BK219.out 7; have hfz7_8 := blk_frozen BK219.out 8) | ((with_reducible refine gate_dst (N := 16) rfl ?_); refine iter_event ?hg (N := 16) ?hd (s := a1_0) ?hr ?_; (case hd => rfl); (case hg => rfl); (case hr => exact z181_); intro gb221 hg w8 hbox hb; have BK221 := Aside0.mk (hbox); have GW221 := Aside0.mk ((z45_ : w.heap.size ≤ gb221)); have GE221 := Aside0.mk ((z45_ : w.heap.size ≤ gb221)); replace HB := Aside0.mk (below_step z85_ hb); have NB219_221 := Aside0.mk ((by rw [hg]; exact Nat.ne_of_lt (blk_lt (g := gb219) (o := .cells #[.string a1_0, .slice A1_1 l1_1.length c1_1, .int .i64 a1_2, .int .i64 a1_3, .int .i64 a1_4, .bool a1_5, .int .i64 a1_6, .bool a1_7, .bool a1_8] 28 (0, 0)) z127_) : gb219 ≠ gb221)); have NB221_219 := Aside0.mk ((by rw [hg]; exact Nat.ne_of_gt (blk_lt (g := gb219) (o := .cells #[.string a1_0, .slice A1_1 l1_1.length c1_1, .int .i64 a1_2, .int .i64 a1_3, .int .i64 a1_4, .bool a1_5, .int .i64 a1_6, .bool a1_7, .bool a1_8] 28 (0, 0)) z127_) : gb221 ≠ gb219)); replace BK219 := Aside0.mk (blk_below (g := gb219) (o := .cells #[.string a1_0, .slice A1_1 l1_1.length c1_1, .int .i64 a1_2, .int .i64 a1_3, .int .i64 a1_4, .bool a1_5, .int .i64 a1_6, .bool a1_7, .bool a1_8] 28 (0, 0)) z127_ hb); clear hb hbox hg))
  (try simp only [Act.put, List.setIfInBounds_toArray, List.set_cons_zero, List.set_cons_succ])
  go_loopg [5, 6] k (fun kq v5 v6 w' => ∃ (x5_1 : List (S43)) (x6_1 : Int) (x222001_1 : Int), v6 = .int .i64 x6_1 ∧ Aside0 (locate_Stops.l0 kq l0 x5_1 x6_1 t220 a1_0 l1_1 a1_2 a1_3 a1_4 a1_5 a1_6 a1_7 a1_8 a1_0 x222001_1 = some r) ∧ Aside0 (kq ≤ k) ∧ Aside0 (Kd.R k43 43 w' w.heap.size (fun _ => True) v5 x5_1) ∧ Aside0 (w'.heap[gb219]? = some (.cells #[.string a1_0, (.slice A1_1 l1_1.length c1_1), .int .i64 a1_2, .int .i64 a1_3, .int .i64 a1_4, .bool a1_5, .int .i64 a1_6, .bool a1_7, .bool a1_8] 28 (0, 0))) ∧ Aside0 (w'.heap[gb221]? = some (.stringIter a1_0 (x222001_1 : Int).toNat)) ∧ Aside0 (Below w.heap.size w w'))
  case atStart => exact ⟨(([] : List (S43))), (0), (0), z180_, H', ⟨Nat.le_refl _⟩, ⟨z97_⟩, ⟨z127_⟩, ⟨z128_⟩, ⟨z54_⟩⟩
  case round =>
    clear H'; (try clear c1); (try clear p2); (try clear c3); (try clear hcz5_0); (try clear hcz5_1); (try clear hcz5_2); (try clear hcz5_3); (try clear hcz5_4); (try clear hcz5_5); (try clear hcz5_6); (try clear hcz5_7); (try clear hcz5_8); (try clear hcz7_0); (try clear hcz7_1); (try clear hcz7_2); (try clear hcz7_3); (try clear hcz7_4); (try clear hcz7_5); (try clear hcz7_6); (try clear hcz7_7); (try clear hcz7_8); (try clear hfz5_0); (try clear hfz5_1); (try clear hfz5_2); (try clear hfz5_3); (try clear hfz5_4); (try clear hfz5_5); (try clear hfz5_6); (try clear hfz5_7); (try clear hfz5_8); (try clear hfz7_0); (try clear hfz7_1); (try clear hfz7_2); (try clear hfz7_3); (try clear hfz7_4); (try clear hfz7_5); (try clear hfz7_6); (try clear hfz7_7); (try clear hfz7_8)
    obtain ⟨x5_1, x6_1, x222001_1, rfl, HA, HK1, HO_5, BK219, BK221, HB⟩ := hrel
    cases gk with
    | zero => exact absurd HA.out (by simp [locate_Stops.l0])
    | succ k1 =>
      have H := HA.out
      clear HA
      simp only [locate_Stops.l0] at H
      by_cases c9 : (x222001_1 : Int).toNat < a1_0.size
      rotate_left
      · rw [if_neg c9] at H
        have c9b0 : decide ((x222001_1 : Int).toNat < a1_0.size) = false := decide_eq_false c9
        clear c9
        by_cases c39 : x5_1.length < 8796093022208
        rotate_left
        · rw [if_neg c39] at H
          exact absurd H (by simp)
        rw [if_pos c39] at H
        have LMc39 := Aside0.mk c39
        clear c39
        obtain ⟨y231, hy231⟩ : ∃ y_ : List (S43), y_ = (x5_1 ++ [(⟨(a1_0.size : Int), x6_1⟩ : S43)]) := ⟨_, rfl⟩
        replace H : (some y231) = some r := by first | (rw [hy231]; with_reducible exact H) | (have H2_ := (Option.bind_some _ _).symm.trans H; rw [hy231]; with_reducible exact H2_) | (have H2_ := (Option.bind_some _ _).symm.trans H; with_reducible exact H2_) | with_reducible exact H | (rw [hy231]; exact H) | exact H
        have Ny231 := Aside0.mk hy231
        clear hy231
        obtain rfl := Option.some.inj H
        go_wp2_with (first | ((with_reducible refine gate_dst (N := 17) rfl ?_); refine next_no (w0 := w) (base := w.heap.size) ?hg (N := 17) ?hd (g := gb221) (s := a1_0) (p := x222001_1) ?hx rfl ?hi ?hp ?hB ?he ?_; (case hd => rfl); (case hg => rfl); (case hx => exact z179_); (case hi => exact z106_); (case hp => exact z178_); (case hB => exact z38_); (case he => exact GW221.out); intro w40 hbox hg hb; replace HO_5 := Aside0.mk (Kd.R_mono (Kd.R_grown (iter_R z149_ z128_) hg (fun k_ hk_ e_ => hk_.2 (Option.some.inj e_))) (fun _ h_ => h_.1)); replace BK219 := Aside0.mk (blk_grown (g := gb219) (o := .cells #[.string a1_0, .slice A1_1 l1_1.length c1_1, .int .i64 a1_2, .int .i64 a1_3, .int .i64 a1_4, .bool a1_5, .int .i64 a1_6, .bool a1_7, .bool a1_8] 28 (0, 0)) z127_ hg (fun e_ => NB219_221.out (Option.some.inj e_))); replace BK221 := Aside0.mk (hbox); replace HB := Aside0.mk (hb); clear hbox hb hg; have hnb41 := NB219_221.out; have hnc41 := NB221_219.out; have hcz42_0 : w40.cell? ⟨gb219, 0, none⟩ = some (.string a1_0) := (blk_cell BK219.out 0).trans rfl; have hcz42_1 : w40.cell? ⟨gb219, 1, none⟩ = some (.slice A1_1 l1_1.length c1_1) := (blk_cell BK219.out 1).trans rfl; have hcz42_2 : w40.cell? ⟨gb219, 2, none⟩ = some (.int .i64 a1_2) := (blk_cell BK219.out 2).trans rfl; have hcz42_3 : w40.cell? ⟨gb219, 3, none⟩ = some (.int .i64 a1_3) := (blk_cell BK219.out 3).trans rfl; have hcz42_4 : w40.cell? ⟨gb219, 4, none⟩ = some (.int .i64 a1_4) := (blk_cell BK219.out 4).trans rfl; have hcz42_5 : w40.cell? ⟨gb219, 5, none⟩ = some (.bool a1_5) := (blk_cell BK219.out 5).trans rfl; have hcz42_6 : w40.cell? ⟨gb219, 6, none⟩ = some (.int .i64 a1_6) := (blk_cell BK219.out 6).trans rfl; have hcz42_7 : w40.cell? ⟨gb219, 7, none⟩ = some (.bool a1_7) := (blk_cell BK219.out 7).trans rfl; have hcz42_8 : w40.cell? ⟨gb219, 8, none⟩ = some (.bool a1_8) := (blk_cell BK219.out 8).trans rfl; have hfz42_0 := blk_frozen BK219.out 0; have hfz42_1 := blk_frozen BK219.out 1; have hfz42_2 := blk_frozen BK219.out 2; have hfz42_3 := blk_frozen BK219.out 3; have hfz42_4 := blk_frozen BK219.out 4; have hfz42_5 := blk_frozen BK219.out 5; have hfz42_6 := blk_frozen BK219.out 6; have hfz42_7 := blk_frozen BK219.out 7; have hfz42_8 := blk_frozen BK219.out 8) | ((with_reducible refine gate_builtin (b := .append) (xs := #[.tmp 51, .tmp 57]) rfl ?_); at_builtin; refine Kd.R_append k43 (w0 := w) w.heap.size rfl (.tmp 51) (.tmp 57) 36 43 (.agg #[(.int .i64 0), (.int .i64 0)]) 16 rfl Try.underlying36 info43 rfl (by decide) (by omega) u5 x5_1 (⟨(a1_0.size : Int), x6_1⟩ : S43) [.int .i64 (a1_0.size : Int), .int .i64 x6_1] (fun _ => True) (fun _ => False) rfl rfl ?aP (fun _ hk => hk.elim) ?aF ?aO ?aB ?aS ?aL ?_; (case aP => exact k43_mkM _ _ _ (⟨(a1_0.size : Int), x6_1⟩ : S43)); (case aB => exact z38_); (case aF => exact z188_); (case aO => exact z137_); (case aS => exact z35_); (case aL => have := LMc39.out; omega); intro v232 w43 ho hb hg hat; rw [← Ny231.out] at ho; have n0_ := Aside0.mk (blk_grown (g := gb219) (o := .cells #[.string a1_0, .slice A1_1 l1_1.length c1_1, .int .i64 a1_2, .int .i64 a1_3, .int .i64 a1_4, .bool a1_5, .int .i64 a1_6, .bool a1_7, .bool a1_8] 28 (0, 0)) z127_ hg (Kd.R_ne HO_5.out BK219.out (by decide))); have n1_ := Aside0.mk (blk_grown (g := gb221) (o := .stringIter a1_0 (x222001_1 : Int).toNat) z128_ hg (iter_ne (Kd.R_typed HO_5.out) BK221.out)); have n2_ := Aside0.mk (hb); have n3_ := Aside0.mk (ho); clear BK219; clear BK221; clear HB; clear HO_5; have BK219 := n0_; have BK221 := n1_; have HB := n2_; have HO233 := n3_; clear n0_ n1_ n2_ n3_; clear ho hb hg hat))
        go_ret
        exact ⟨_, z155_, y161_ HO233.out, z54_⟩
      rw [if_pos c9] at H
      have c9b0 : decide ((x222001_1 : Int).toNat < a1_0.size) = true := decide_eq_true c9
      clear c9
      by_cases c10 : x5_1.length < 8796093022208
      rotate_left
      · rw [if_neg c10] at H
        exact absurd H (by simp)
      rw [if_pos c10] at H
      have LMc10 := Aside0.mk c10
      clear c10
      obtain ⟨y222, hy222⟩ : ∃ y_ : List (S43), y_ = (x5_1 ++ [(⟨itP_ x222001_1, x6_1⟩ : S43)]) := ⟨_, rfl⟩
      replace H : ((locate_styleAt.f k1 l1_1 (itP_ x222001_1)).bind fun t225 => ((runes_Kind.f k1 (itR_ a1_0 x222001_1)).bind fun t226 => (if t226 = 1 then (if (itP_ x222001_1) < t220 then ((locate_space.f k1 l0 a1_0 l1_1 a1_2 a1_3 a1_4 a1_5 a1_6 a1_7 a1_8 t225).bind fun t227 => ((scaled_Add.f x6_1 t227).bind fun t228 => (locate_Stops.l0 k1 l0 y222 t228 t220 a1_0 l1_1 a1_2 a1_3 a1_4 a1_5 a1_6 a1_7 a1_8 a1_0 (itN_ a1_0 x222001_1)))) else (locate_Stops.l0 k1 l0 y222 x6_1 t220 a1_0 l1_1 a1_2 a1_3 a1_4 a1_5 a1_6 a1_7 a1_8 a1_0 (itN_ a1_0 x222001_1))) else ((metrics_Table_Width.f k1 l0 t225 (itR_ a1_0 x222001_1)).bind fun t229 => ((scaled_Add.f x6_1 t229).bind fun t230 => (locate_Stops.l0 k1 l0 y222 t230 t220 a1_0 l1_1 a1_2 a1_3 a1_4 a1_5 a1_6 a1_7 a1_8 a1_0 (itN_ a1_0 x222001_1))))))) = some r := by first | (rw [hy222]; with_reducible exact H) | (have H2_ := (Option.bind_some _ _).symm.trans H; rw [hy222]; with_reducible exact H2_) | (have H2_ := (Option.bind_some _ _).symm.trans H; with_reducible exact H2_) | with_reducible exact H | (rw [hy222]; exact H) | exact H
      have Ny222 := Aside0.mk hy222
      clear hy222
      replace H := Option.bind_eq_some_iff.mp H
      obtain ⟨t225, A110, H⟩ := H
      replace H : ((runes_Kind.f k1 (itR_ a1_0 x222001_1)).bind fun t226 => (if t226 = 1 then (if (itP_ x222001_1) < t220 then ((locate_space.f k1 l0 a1_0 l1_1 a1_2 a1_3 a1_4 a1_5 a1_6 a1_7 a1_8 t225).bind fun t227 => ((scaled_Add.f x6_1 t227).bind fun t228 => (locate_Stops.l0 k1 l0 y222 t228 t220 a1_0 l1_1 a1_2 a1_3 a1_4 a1_5 a1_6 a1_7 a1_8 a1_0 (itN_ a1_0 x222001_1)))) else (locate_Stops.l0 k1 l0 y222 x6_1 t220 a1_0 l1_1 a1_2 a1_3 a1_4 a1_5 a1_6 a1_7 a1_8 a1_0 (itN_ a1_0 x222001_1))) else ((metrics_Table_Width.f k1 l0 t225 (itR_ a1_0 x222001_1)).bind fun t229 => ((scaled_Add.f x6_1 t229).bind fun t230 => (locate_Stops.l0 k1 l0 y222 t230 t220 a1_0 l1_1 a1_2 a1_3 a1_4 a1_5 a1_6 a1_7 a1_8 a1_0 (itN_ a1_0 x222001_1)))))) = some r := H
      have A11 := Aside0.mk A110
      clear A110
      replace H := Option.bind_eq_some_iff.mp H
      obtain ⟨t226, A120, H⟩ := H
      replace H : (if t226 = 1 then (if (itP_ x222001_1) < t220 then ((locate_space.f k1 l0 a1_0 l1_1 a1_2 a1_3 a1_4 a1_5 a1_6 a1_7 a1_8 t225).bind fun t227 => ((scaled_Add.f x6_1 t227).bind fun t228 => (locate_Stops.l0 k1 l0 y222 t228 t220 a1_0 l1_1 a1_2 a1_3 a1_4 a1_5 a1_6 a1_7 a1_8 a1_0 (itN_ a1_0 x222001_1)))) else (locate_Stops.l0 k1 l0 y222 x6_1 t220 a1_0 l1_1 a1_2 a1_3 a1_4 a1_5 a1_6 a1_7 a1_8 a1_0 (itN_ a1_0 x222001_1))) else ((metrics_Table_Width.f k1 l0 t225 (itR_ a1_0 x222001_1)).bind fun t229 => ((scaled_Add.f x6_1 t229).bind fun t230 => (locate_Stops.l0 k1 l0 y222 t230 t220 a1_0 l1_1 a1_2 a1_3 a1_4 a1_5 a1_6 a1_7 a1_8 a1_0 (itN_ a1_0 x222001_1))))) = some r := H
      have A12 := Aside0.mk A120
      clear A120
      by_cases c13 : t226 = 1
      rotate_left
      · rw [if_neg c13] at H
        have c13b0 : (t226 == 1) = false := beq_eq_false_iff_ne.mpr c13
        have c13b1 : (t226 != 1) = true := bne_iff_ne.mpr c13
        replace H := Option.bind_eq_some_iff.mp H
        obtain ⟨t229, A300, H⟩ := H
        replace H : ((scaled_Add.f x6_1 t229).bind fun t230 => (locate_Stops.l0 k1 l0 y222 t230 t220 a1_0 l1_1 a1_2 a1_3 a1_4 a1_5 a1_6 a1_7 a1_8 a1_0 (itN_ a1_0 x222001_1))) = some r := H
        have A30 := Aside0.mk A300
        clear A300
        replace H := Option.bind_eq_some_iff.mp H
        obtain ⟨t230, A310, H⟩ := H
        replace H : (locate_Stops.l0 k1 l0 y222 t230 t220 a1_0 l1_1 a1_2 a1_3 a1_4 a1_5 a1_6 a1_7 a1_8 a1_0 (itN_ a1_0 x222001_1)) = some r := H
        have A31 := Aside0.mk A310
        clear A310
        have H' := Aside0.mk H
        clear H
        go_wp2_with (first | ((with_reducible refine gate_dst (N := 17) rfl ?_); refine next_yes (w0 := w) (base := w.heap.size) ?hg (N := 17) ?hd (g := gb221) (s := a1_0) (p := x222001_1) ?hx rfl ?hi ?hp ?hB ?he ?_; (case hd => rfl); (case hg => rfl); (case hx => exact z179_); (case hi => exact z106_); (case hp => exact z178_); (case hB => exact z38_); (case he => exact GW221.out); intro w32 hbox hg hb; replace HO_5 := Aside0.mk (Kd.R_mono (Kd.R_grown (iter_R z149_ z128_) hg (fun k_ hk_ e_ => hk_.2 (Option.some.inj e_))) (fun _ h_ => h_.1)); replace BK219 := Aside0.mk (blk_grown (g := gb219) (o := .cells #[.string a1_0, .slice A1_1 l1_1.length c1_1, .int .i64 a1_2, .int .i64 a1_3, .int .i64 a1_4, .bool a1_5, .int .i64 a1_6, .bool a1_7, .bool a1_8] 28 (0, 0)) z127_ hg (fun e_ => NB219_221.out (Option.some.inj e_))); replace BK221 := Aside0.mk (hbox); replace HB := Aside0.mk (hb); clear hbox hb hg) | ((with_reducible refine gate_builtin (b := .append) (xs := #[.tmp 21, .tmp 25]) rfl ?_); at_builtin; refine Kd.R_append k43 (w0 := w) w.heap.size rfl (.tmp 21) (.tmp 25) 36 43 (.agg #[(.int .i64 0), (.int .i64 0)]) 16 rfl Try.underlying36 info43 rfl (by decide) (by omega) u5 x5_1 (⟨itP_ x222001_1, x6_1⟩ : S43) [.int .i64 (itP_ x222001_1), .int .i64 x6_1] (fun _ => True) (fun _ => False) rfl rfl ?aP (fun _ hk => hk.elim) ?aF ?aO ?aB ?aS ?aL ?_; (case aP => exact z177_); (case aB => exact z38_); (case aF => exact z188_); (case aO => exact z137_); (case aS => exact z35_); (case aL => exact z190_); intro v223 w33 ho hb hg hat; rw [← Ny222.out] at ho; have n0_ := Aside0.mk (blk_grown (g := gb219) (o := .cells #[.string a1_0, .slice A1_1 l1_1.length c1_1, .int .i64 a1_2, .int .i64 a1_3, .int .i64 a1_4, .bool a1_5, .int .i64 a1_6, .bool a1_7, .bool a1_8] 28 (0, 0)) z127_ hg (Kd.R_ne HO_5.out BK219.out (by decide))); have n1_ := Aside0.mk (blk_grown (g := gb221) (o := .stringIter a1_0 (itN_ a1_0 x222001_1 : Int).toNat) z128_ hg (iter_ne (Kd.R_typed HO_5.out) BK221.out)); have n2_ := Aside0.mk (hb); have n3_ := Aside0.mk (ho); clear BK219; clear BK221; clear HB; clear HO_5; have BK219 := n0_; have BK221 := n1_; have HB := n2_; have HO224 := n3_; clear n0_ n1_ n2_ n3_; clear ho hb hg hat; have hnb34 := NB219_221.out; have hnc34 := NB221_219.out; have hcz35_0 : w33.cell? ⟨gb219, 0, none⟩ = some (.string a1_0) := (blk_cell BK219.out 0).trans rfl; have hcz35_1 : w33.cell? ⟨gb219, 1, none⟩ = some (.slice A1_1 l1_1.length c1_1) := (blk_cell BK219.out 1).trans rfl; have hcz35_2 : w33.cell? ⟨gb219, 2, none⟩ = some (.int .i64 a1_2) := (blk_cell BK219.out 2).trans rfl; have hcz35_3 : w33.cell? ⟨gb219, 3, none⟩ = some (.int .i64 a1_3) := (blk_cell BK219.out 3).trans rfl; have hcz35_4 : w33.cell? ⟨gb219, 4, none⟩ = some (.int .i64 a1_4) := (blk_cell BK219.out 4).trans rfl; have hcz35_5 : w33.cell? ⟨gb219, 5, none⟩ = some (.bool a1_5) := (blk_cell BK219.out 5).trans rfl; have hcz35_6 : w33.cell? ⟨gb219, 6, none⟩ = some (.int .i64 a1_6) := (blk_cell BK219.out 6).trans rfl; have hcz35_7 : w33.cell? ⟨gb219, 7, none⟩ = some (.bool a1_7) := (blk_cell BK219.out 7).trans rfl; have hcz35_8 : w33.cell? ⟨gb219, 8, none⟩ = some (.bool a1_8) := (blk_cell BK219.out 8).trans rfl; have hfz35_0 := blk_frozen BK219.out 0; have hfz35_1 := blk_frozen BK219.out 1; have hfz35_2 := blk_frozen BK219.out 2; have hfz35_3 := blk_frozen BK219.out 3; have hfz35_4 := blk_frozen BK219.out 4; have hfz35_5 := blk_frozen BK219.out 5; have hfz35_6 := blk_frozen BK219.out 6; have hfz35_7 := blk_frozen BK219.out 7; have hfz35_8 := blk_frozen BK219.out 8) | ((with_reducible refine gate_callee (f := 31) rfl ?_); refine goesL_ (some 30) rfl rfl Try.func31 (by kernel_rfl) rfl #[.slice A1_1 l1_1.length c1_1, .int .i64 (itP_ x222001_1)] rfl z99_ ?_; (with_reducible refine (locate_styleAt.calls k1 _ _ l1_1 (itP_ x222001_1) t225 _ ?side1 ?side2 A11.out).mono ?_); (case side1 => exact z66_); (case side2 => exact HC1_1.out); rintro e w36 ⟨rfl, hb⟩; refine ⟨_, rfl, ?_⟩; replace HO224 := Aside0.mk (Kd.R_below z140_ hb); replace BK219 := Aside0.mk (blk_below (g := gb219) (o := .cells #[.string a1_0, .slice A1_1 l1_1.length c1_1, .int .i64 a1_2, .int .i64 a1_3, .int .i64 a1_4, .bool a1_5, .int .i64 a1_6, .bool a1_7, .bool a1_8] 28 (0, 0)) z127_ hb); replace BK221 := Aside0.mk (blk_below (g := gb221) (o := .stringIter a1_0 (itN_ a1_0 x222001_1 : Int).toNat) z128_ hb); replace HB := Aside0.mk (below_step z54_ hb); (try clear hb); (try clear hb2); (try clear hk); (try clear hi)) | ((with_reducible refine gate_callee (f := 32) rfl ?_); refine goesL_ (some 33) rfl rfl Try.func32 (by kernel_rfl) rfl #[.int .i32 (itR_ a1_0 x222001_1)] rfl z99_ ?_; (with_reducible refine (runes_Kind.calls k1 (itR_ a1_0 x222001_1) t226 _ A12.out).mono ?_); rintro e w' ⟨rfl, ⟨nd, rfl⟩⟩; refine ⟨_, rfl, ?_⟩) | ((with_reducible refine gate_callee (f := 34) rfl ?_); refine goesL_ (some 39) rfl rfl Try.func34 (by kernel_rfl) rfl #[.pointer A0, .int .i64 t225, .int .i32 (itR_ a1_0 x222001_1)] rfl z99_ ?_; (with_reducible refine (metrics_Table_Width.calls k1 _ c0 l0 t225 (itR_ a1_0 x222001_1) t229 _ ?side1 ?side2 A30.out).mono ?_); (case side1 => exact z20_); (case side2 => exact HC0.out); rintro e w37 ⟨rfl, hb⟩; refine ⟨_, rfl, ?_⟩; replace HO224 := Aside0.mk (Kd.R_below z140_ hb); replace BK219 := Aside0.mk (blk_below (g := gb219) (o := .cells #[.string a1_0, .slice A1_1 l1_1.length c1_1, .int .i64 a1_2, .int .i64 a1_3, .int .i64 a1_4, .bool a1_5, .int .i64 a1_6, .bool a1_7, .bool a1_8] 28 (0, 0)) z127_ hb); replace BK221 := Aside0.mk (blk_below (g := gb221) (o := .stringIter a1_0 (itN_ a1_0 x222001_1 : Int).toNat) z128_ hb); replace HB := Aside0.mk (below_step z54_ hb); (try clear hb); (try clear hb2); (try clear hk); (try clear hi)) | ((with_reducible refine gate_callee (f := 33) rfl ?_); refine goesL_ (some 40) rfl rfl Try.func33 (by kernel_rfl) rfl #[.int .i64 x6_1, .int .i64 t229] rfl z99_ ?_; (with_reducible refine (scaled_Add.calls x6_1 t229 t230 _ A31.out).mono ?_); rintro e w38 ⟨rfl, hb⟩; refine ⟨_, rfl, ?_⟩; replace HO224 := Aside0.mk (Kd.R_below z140_ hb); replace BK219 := Aside0.mk (blk_below (g := gb219) (o := .cells #[.string a1_0, .slice A1_1 l1_1.length c1_1, .int .i64 a1_2, .int .i64 a1_3, .int .i64 a1_4, .bool a1_5, .int .i64 a1_6, .bool a1_7, .bool a1_8] 28 (0, 0)) z127_ hb); replace BK221 := Aside0.mk (blk_below (g := gb221) (o := .stringIter a1_0 (itN_ a1_0 x222001_1 : Int).toNat) z128_ hb); replace HB := Aside0.mk (below_step z54_ hb); (try clear hb); (try clear hb2); (try clear hk); (try clear hi)))
        go_roundg k1
        case measure => have := HK1.out; omega
        case rel => exact ⟨(y222), (t230), (itN_ a1_0 x222001_1), z180_, H', ⟨z191_⟩, ⟨z140_⟩, ⟨z127_⟩, ⟨z128_⟩, ⟨z54_⟩⟩
      rw [if_pos c13] at H
      have c13b0 : (t226 == 1) = true := beq_iff_eq.mpr c13
      have c13b1 : (t226 != 1) = false := bne_eq_false_iff_eq.mpr c13
      clear c13
      by_cases c14 : (itP_ x222001_1) < t220
      rotate_left
      · rw [if_neg c14] at H
        have c14b0 : decide ((itP_ x222001_1) < t220) = false := decide_eq_false c14
        clear c14
        have H' := Aside0.mk H
        clear H
        go_wp2_with (first | ((with_reducible refine gate_dst (N := 17) rfl ?_); refine next_yes (w0 := w) (base := w.heap.size) ?hg (N := 17) ?hd (g := gb221) (s := a1_0) (p := x222001_1) ?hx rfl ?hi ?hp ?hB ?he ?_; (case hd => rfl); (case hg => rfl); (case hx => exact z179_); (case hi => exact z106_); (case hp => exact z178_); (case hB => exact z38_); (case he => exact GW221.out); intro w25 hbox hg hb; replace HO_5 := Aside0.mk (Kd.R_mono (Kd.R_grown (iter_R z149_ z128_) hg (fun k_ hk_ e_ => hk_.2 (Option.some.inj e_))) (fun _ h_ => h_.1)); replace BK219 := Aside0.mk (blk_grown (g := gb219) (o := .cells #[.string a1_0, .slice A1_1 l1_1.length c1_1, .int .i64 a1_2, .int .i64 a1_3, .int .i64 a1_4, .bool a1_5, .int .i64 a1_6, .bool a1_7, .bool a1_8] 28 (0, 0)) z127_ hg (fun e_ => NB219_221.out (Option.some.inj e_))); replace BK221 := Aside0.mk (hbox); replace HB := Aside0.mk (hb); clear hbox hb hg) | ((with_reducible refine gate_builtin (b := .append) (xs := #[.tmp 21, .tmp 25]) rfl ?_); at_builtin; refine Kd.R_append k43 (w0 := w) w.heap.size rfl (.tmp 21) (.tmp 25) 36 43 (.agg #[(.int .i64 0), (.int .i64 0)]) 16 rfl Try.underlying36 info43 rfl (by decide) (by omega) u5 x5_1 (⟨itP_ x222001_1, x6_1⟩ : S43) [.int .i64 (itP_ x222001_1), .int .i64 x6_1] (fun _ => True) (fun _ => False) rfl rfl ?aP (fun _ hk => hk.elim) ?aF ?aO ?aB ?aS ?aL ?_; (case aP => exact z177_); (case aB => exact z38_); (case aF => exact z188_); (case aO => exact z137_); (case aS => exact z35_); (case aL => exact z190_); intro v223 w26 ho hb hg hat; rw [← Ny222.out] at ho; have n0_ := Aside0.mk (blk_grown (g := gb219) (o := .cells #[.string a1_0, .slice A1_1 l1_1.length c1_1, .int .i64 a1_2, .int .i64 a1_3, .int .i64 a1_4, .bool a1_5, .int .i64 a1_6, .bool a1_7, .bool a1_8] 28 (0, 0)) z127_ hg (Kd.R_ne HO_5.out BK219.out (by decide))); have n1_ := Aside0.mk (blk_grown (g := gb221) (o := .stringIter a1_0 (itN_ a1_0 x222001_1 : Int).toNat) z128_ hg (iter_ne (Kd.R_typed HO_5.out) BK221.out)); have n2_ := Aside0.mk (hb); have n3_ := Aside0.mk (ho); clear BK219; clear BK221; clear HB; clear HO_5; have BK219 := n0_; have BK221 := n1_; have HB := n2_; have HO224 := n3_; clear n0_ n1_ n2_ n3_; clear ho hb hg hat; have hnb27 := NB219_221.out; have hnc27 := NB221_219.out; have hcz28_0 : w26.cell? ⟨gb219, 0, none⟩ = some (.string a1_0) := (blk_cell BK219.out 0).trans rfl; have hcz28_1 : w26.cell? ⟨gb219, 1, none⟩ = some (.slice A1_1 l1_1.length c1_1) := (blk_cell BK219.out 1).trans rfl; have hcz28_2 : w26.cell? ⟨gb219, 2, none⟩ = some (.int .i64 a1_2) := (blk_cell BK219.out 2).trans rfl; have hcz28_3 : w26.cell? ⟨gb219, 3, none⟩ = some (.int .i64 a1_3) := (blk_cell BK219.out 3).trans rfl; have hcz28_4 : w26.cell? ⟨gb219, 4, none⟩ = some (.int .i64 a1_4) := (blk_cell BK219.out 4).trans rfl; have hcz28_5 : w26.cell? ⟨gb219, 5, none⟩ = some (.bool a1_5) := (blk_cell BK219.out 5).trans rfl; have hcz28_6 : w26.cell? ⟨gb219, 6, none⟩ = some (.int .i64 a1_6) := (blk_cell BK219.out 6).trans rfl; have hcz28_7 : w26.cell? ⟨gb219, 7, none⟩ = some (.bool a1_7) := (blk_cell BK219.out 7).trans rfl; have hcz28_8 : w26.cell? ⟨gb219, 8, none⟩ = some (.bool a1_8) := (blk_cell BK219.out 8).trans rfl; have hfz28_0 := blk_frozen BK219.out 0; have hfz28_1 := blk_frozen BK219.out 1; have hfz28_2 := blk_frozen BK219.out 2; have hfz28_3 := blk_frozen BK219.out 3; have hfz28_4 := blk_frozen BK219.out 4; have hfz28_5 := blk_frozen BK219.out 5; have hfz28_6 := blk_frozen BK219.out 6; have hfz28_7 := blk_frozen BK219.out 7; have hfz28_8 := blk_frozen BK219.out 8) | ((with_reducible refine gate_callee (f := 31) rfl ?_); refine goesL_ (some 30) rfl rfl Try.func31 (by kernel_rfl) rfl #[.slice A1_1 l1_1.length c1_1, .int .i64 (itP_ x222001_1)] rfl z99_ ?_; (with_reducible refine (locate_styleAt.calls k1 _ _ l1_1 (itP_ x222001_1) t225 _ ?side1 ?side2 A11.out).mono ?_); (case side1 => exact z66_); (case side2 => exact HC1_1.out); rintro e w29 ⟨rfl, hb⟩; refine ⟨_, rfl, ?_⟩; replace HO224 := Aside0.mk (Kd.R_below z140_ hb); replace BK219 := Aside0.mk (blk_below (g := gb219) (o := .cells #[.string a1_0, .slice A1_1 l1_1.length c1_1, .int .i64 a1_2, .int .i64 a1_3, .int .i64 a1_4, .bool a1_5, .int .i64 a1_6, .bool a1_7, .bool a1_8] 28 (0, 0)) z127_ hb); replace BK221 := Aside0.mk (blk_below (g := gb221) (o := .stringIter a1_0 (itN_ a1_0 x222001_1 : Int).toNat) z128_ hb); replace HB := Aside0.mk (below_step z54_ hb); (try clear hb); (try clear hb2); (try clear hk); (try clear hi)) | ((with_reducible refine gate_callee (f := 32) rfl ?_); refine goesL_ (some 33) rfl rfl Try.func32 (by kernel_rfl) rfl #[.int .i32 (itR_ a1_0 x222001_1)] rfl z99_ ?_; (with_reducible refine (runes_Kind.calls k1 (itR_ a1_0 x222001_1) t226 _ A12.out).mono ?_); rintro e w' ⟨rfl, ⟨nd, rfl⟩⟩; refine ⟨_, rfl, ?_⟩))
        go_roundg k1
        case measure => have := HK1.out; omega
        case rel => exact ⟨(y222), (x6_1), (itN_ a1_0 x222001_1), z180_, H', ⟨z191_⟩, ⟨z140_⟩, ⟨z127_⟩, ⟨z128_⟩, ⟨z54_⟩⟩
      rw [if_pos c14] at H
      have c14b0 : decide ((itP_ x222001_1) < t220) = true := decide_eq_true c14
      clear c14
      replace H := Option.bind_eq_some_iff.mp H
      obtain ⟨t227, A150, H⟩ := H
      replace H : ((scaled_Add.f x6_1 t227).bind fun t228 => (locate_Stops.l0 k1 l0 y222 t228 t220 a1_0 l1_1 a1_2 a1_3 a1_4 a1_5 a1_6 a1_7 a1_8 a1_0 (itN_ a1_0 x222001_1))) = some r := H
      have A15 := Aside0.mk A150
      clear A150
      replace H := Option.bind_eq_some_iff.mp H
      obtain ⟨t228, A160, H⟩ := H
      replace H : (locate_Stops.l0 k1 l0 y222 t228 t220 a1_0 l1_1 a1_2 a1_3 a1_4 a1_5 a1_6 a1_7 a1_8 a1_0 (itN_ a1_0 x222001_1)) = some r := H
      have A16 := Aside0.mk A160
      clear A160
      have H' := Aside0.mk H
      clear H
      go_wp2_with (first | ((with_reducible refine gate_dst (N := 17) rfl ?_); refine next_yes (w0 := w) (base := w.heap.size) ?hg (N := 17) ?hd (g := gb221) (s := a1_0) (p := x222001_1) ?hx rfl ?hi ?hp ?hB ?he ?_; (case hd => rfl); (case hg => rfl); (case hx => exact z179_); (case hi => exact z106_); (case hp => exact z178_); (case hB => exact z38_); (case he => exact GW221.out); intro w17 hbox hg hb; replace HO_5 := Aside0.mk (Kd.R_mono (Kd.R_grown (iter_R z149_ z128_) hg (fun k_ hk_ e_ => hk_.2 (Option.some.inj e_))) (fun _ h_ => h_.1)); replace BK219 := Aside0.mk (blk_grown (g := gb219) (o := .cells #[.string a1_0, .slice A1_1 l1_1.length c1_1, .int .i64 a1_2, .int .i64 a1_3, .int .i64 a1_4, .bool a1_5, .int .i64 a1_6, .bool a1_7, .bool a1_8] 28 (0, 0)) z127_ hg (fun e_ => NB219_221.out (Option.some.inj e_))); replace BK221 := Aside0.mk (hbox); replace HB := Aside0.mk (hb); clear hbox hb hg) | ((with_reducible refine gate_builtin (b := .append) (xs := #[.tmp 21, .tmp 25]) rfl ?_); at_builtin; refine Kd.R_append k43 (w0 := w) w.heap.size rfl (.tmp 21) (.tmp 25) 36 43 (.agg #[(.int .i64 0), (.int .i64 0)]) 16 rfl Try.underlying36 info43 rfl (by decide) (by omega) u5 x5_1 (⟨itP_ x222001_1, x6_1⟩ : S43) [.int .i64 (itP_ x222001_1), .int .i64 x6_1] (fun _ => True) (fun _ => False) rfl rfl ?aP (fun _ hk => hk.elim) ?aF ?aO ?aB ?aS ?aL ?_; (case aP => exact z177_); (case aB => exact z38_); (case aF => exact z188_); (case aO => exact z137_); (case aS => exact z35_); (case aL => exact z190_); intro v223 w18 ho hb hg hat; rw [← Ny222.out] at ho; have n0_ := Aside0.mk (blk_grown (g := gb219) (o := .cells #[.string a1_0, .slice A1_1 l1_1.length c1_1, .int .i64 a1_2, .int .i64 a1_3, .int .i64 a1_4, .bool a1_5, .int .i64 a1_6, .bool a1_7, .bool a1_8] 28 (0, 0)) z127_ hg (Kd.R_ne HO_5.out BK219.out (by decide))); have n1_ := Aside0.mk (blk_grown (g := gb221) (o := .stringIter a1_0 (itN_ a1_0 x222001_1 : Int).toNat) z128_ hg (iter_ne (Kd.R_typed HO_5.out) BK221.out)); have n2_ := Aside0.mk (hb); have n3_ := Aside0.mk (ho); clear BK219; clear BK221; clear HB; clear HO_5; have BK219 := n0_; have BK221 := n1_; have HB := n2_; have HO224 := n3_; clear n0_ n1_ n2_ n3_; clear ho hb hg hat; have hnb19 := NB219_221.out; have hnc19 := NB221_219.out; have hcz20_0 : w18.cell? ⟨gb219, 0, none⟩ = some (.string a1_0) := (blk_cell BK219.out 0).trans rfl; have hcz20_1 : w18.cell? ⟨gb219, 1, none⟩ = some (.slice A1_1 l1_1.length c1_1) := (blk_cell BK219.out 1).trans rfl; have hcz20_2 : w18.cell? ⟨gb219, 2, none⟩ = some (.int .i64 a1_2) := (blk_cell BK219.out 2).trans rfl; have hcz20_3 : w18.cell? ⟨gb219, 3, none⟩ = some (.int .i64 a1_3) := (blk_cell BK219.out 3).trans rfl; have hcz20_4 : w18.cell? ⟨gb219, 4, none⟩ = some (.int .i64 a1_4) := (blk_cell BK219.out 4).trans rfl; have hcz20_5 : w18.cell? ⟨gb219, 5, none⟩ = some (.bool a1_5) := (blk_cell BK219.out 5).trans rfl; have hcz20_6 : w18.cell? ⟨gb219, 6, none⟩ = some (.int .i64 a1_6) := (blk_cell BK219.out 6).trans rfl; have hcz20_7 : w18.cell? ⟨gb219, 7, none⟩ = some (.bool a1_7) := (blk_cell BK219.out 7).trans rfl; have hcz20_8 : w18.cell? ⟨gb219, 8, none⟩ = some (.bool a1_8) := (blk_cell BK219.out 8).trans rfl; have hfz20_0 := blk_frozen BK219.out 0; have hfz20_1 := blk_frozen BK219.out 1; have hfz20_2 := blk_frozen BK219.out 2; have hfz20_3 := blk_frozen BK219.out 3; have hfz20_4 := blk_frozen BK219.out 4; have hfz20_5 := blk_frozen BK219.out 5; have hfz20_6 := blk_frozen BK219.out 6; have hfz20_7 := blk_frozen BK219.out 7; have hfz20_8 := blk_frozen BK219.out 8) | ((with_reducible refine gate_callee (f := 31) rfl ?_); refine goesL_ (some 30) rfl rfl Try.func31 (by kernel_rfl) rfl #[.slice A1_1 l1_1.length c1_1, .int .i64 (itP_ x222001_1)] rfl z99_ ?_; (with_reducible refine (locate_styleAt.calls k1 _ _ l1_1 (itP_ x222001_1) t225 _ ?side1 ?side2 A11.out).mono ?_); (case side1 => exact z66_); (case side2 => exact HC1_1.out); rintro e w21 ⟨rfl, hb⟩; refine ⟨_, rfl, ?_⟩; replace HO224 := Aside0.mk (Kd.R_below z140_ hb); replace BK219 := Aside0.mk (blk_below (g := gb219) (o := .cells #[.string a1_0, .slice A1_1 l1_1.length c1_1, .int .i64 a1_2, .int .i64 a1_3, .int .i64 a1_4, .bool a1_5, .int .i64 a1_6, .bool a1_7, .bool a1_8] 28 (0, 0)) z127_ hb); replace BK221 := Aside0.mk (blk_below (g := gb221) (o := .stringIter a1_0 (itN_ a1_0 x222001_1 : Int).toNat) z128_ hb); replace HB := Aside0.mk (below_step z54_ hb); (try clear hb); (try clear hb2); (try clear hk); (try clear hi)) | ((with_reducible refine gate_callee (f := 32) rfl ?_); refine goesL_ (some 33) rfl rfl Try.func32 (by kernel_rfl) rfl #[.int .i32 (itR_ a1_0 x222001_1)] rfl z99_ ?_; (with_reducible refine (runes_Kind.calls k1 (itR_ a1_0 x222001_1) t226 _ A12.out).mono ?_); rintro e w' ⟨rfl, ⟨nd, rfl⟩⟩; refine ⟨_, rfl, ?_⟩; have hcz22_0 : w21.cell? ⟨gb219, 0, none⟩ = some (.string a1_0) := (blk_cell BK219.out 0).trans rfl; have hcz22_1 : w21.cell? ⟨gb219, 1, none⟩ = some (.slice A1_1 l1_1.length c1_1) := (blk_cell BK219.out 1).trans rfl; have hcz22_2 : w21.cell? ⟨gb219, 2, none⟩ = some (.int .i64 a1_2) := (blk_cell BK219.out 2).trans rfl; have hcz22_3 : w21.cell? ⟨gb219, 3, none⟩ = some (.int .i64 a1_3) := (blk_cell BK219.out 3).trans rfl; have hcz22_4 : w21.cell? ⟨gb219, 4, none⟩ = some (.int .i64 a1_4) := (blk_cell BK219.out 4).trans rfl; have hcz22_5 : w21.cell? ⟨gb219, 5, none⟩ = some (.bool a1_5) := (blk_cell BK219.out 5).trans rfl; have hcz22_6 : w21.cell? ⟨gb219, 6, none⟩ = some (.int .i64 a1_6) := (blk_cell BK219.out 6).trans rfl; have hcz22_7 : w21.cell? ⟨gb219, 7, none⟩ = some (.bool a1_7) := (blk_cell BK219.out 7).trans rfl; have hcz22_8 : w21.cell? ⟨gb219, 8, none⟩ = some (.bool a1_8) := (blk_cell BK219.out 8).trans rfl; have hfz22_0 := blk_frozen BK219.out 0; have hfz22_1 := blk_frozen BK219.out 1; have hfz22_2 := blk_frozen BK219.out 2; have hfz22_3 := blk_frozen BK219.out 3; have hfz22_4 := blk_frozen BK219.out 4; have hfz22_5 := blk_frozen BK219.out 5; have hfz22_6 := blk_frozen BK219.out 6; have hfz22_7 := blk_frozen BK219.out 7; have hfz22_8 := blk_frozen BK219.out 8) | ((with_reducible refine gate_callee (f := 35) rfl ?_); refine goesL_ (some 49) rfl rfl Try.func35 (by kernel_rfl) rfl #[.pointer A0, .agg #[.string a1_0, .slice A1_1 l1_1.length c1_1, .int .i64 a1_2, .int .i64 a1_3, .int .i64 a1_4, .bool a1_5, .int .i64 a1_6, .bool a1_7, .bool a1_8], .int .i64 t225] rfl z99_ ?_; (with_reducible refine (locate_space.calls k1 _ c0 l0 a1_0 _ _ l1_1 a1_2 a1_3 a1_4 a1_5 a1_6 a1_7 a1_8 t225 t227 _ ?side1 ?side2 ?side3 ?side4 A15.out).mono ?_); (case side1 => exact z20_); (case side2 => exact HC0.out); (case side3 => repeat (first | exact (Kd.C_below HR1_1.out z54_) | (with_reducible refine Kd.C_alloc ?_ _) | (with_reducible refine Kd.C_drewN ?_ _) | (with_reducible refine Kd.C_drew ?_))); (case side4 => exact HC1_1.out); rintro e w23 ⟨rfl, hb⟩; refine ⟨_, rfl, ?_⟩; replace HO224 := Aside0.mk (Kd.R_below z140_ hb); replace BK219 := Aside0.mk (blk_below (g := gb219) (o := .cells #[.string a1_0, .slice A1_1 l1_1.length c1_1, .int .i64 a1_2, .int .i64 a1_3, .int .i64 a1_4, .bool a1_5, .int .i64 a1_6, .bool a1_7, .bool a1_8] 28 (0, 0)) z127_ hb); replace BK221 := Aside0.mk (blk_below (g := gb221) (o := .stringIter a1_0 (itN_ a1_0 x222001_1 : Int).toNat) z128_ hb); replace HB := Aside0.mk (below_step z54_ hb); (try clear hb); (try clear hb2); (try clear hk); (try clear hi)) | ((with_reducible refine gate_callee (f := 33) rfl ?_); refine goesL_ (some 50) rfl rfl Try.func33 (by kernel_rfl) rfl #[.int .i64 x6_1, .int .i64 t227] rfl z99_ ?_; (with_reducible refine (scaled_Add.calls x6_1 t227 t228 _ A16.out).mono ?_); rintro e w24 ⟨rfl, hb⟩; refine ⟨_, rfl, ?_⟩; replace HO224 := Aside0.mk (Kd.R_below z140_ hb); replace BK219 := Aside0.mk (blk_below (g := gb219) (o := .cells #[.string a1_0, .slice A1_1 l1_1.length c1_1, .int .i64 a1_2, .int .i64 a1_3, .int .i64 a1_4, .bool a1_5, .int .i64 a1_6, .bool a1_7, .bool a1_8] 28 (0, 0)) z127_ hb); replace BK221 := Aside0.mk (blk_below (g := gb221) (o := .stringIter a1_0 (itN_ a1_0 x222001_1 : Int).toNat) z128_ hb); replace HB := Aside0.mk (below_step z54_ hb); (try clear hb); (try clear hb2); (try clear hk); (try clear hi)))
      go_roundg k1
      case measure => have := HK1.out; omega
      case rel => exact ⟨(y222), (t228), (itN_ a1_0 x222001_1), z180_, H', ⟨z191_⟩, ⟨z140_⟩, ⟨z127_⟩, ⟨z128_⟩, ⟨z54_⟩⟩
/-! ### regletlaw15_awake: function 9 -/
def regletlaw15_awake.f (k : Nat)  : Option (Bool) := (regletlaw15_table.f k (([(⟨10, 6, 3, 2, 6, 6, ([] : List (S110)), false⟩ : S73)] : List (S73)))).bind fun t237 => (if (t237.length : Int) = 0 then (some false) else ((locate_Stops.f k t237 (⟨#[97, 98, 32]⟩ : ByteArray) (([(⟨3, 0⟩ : S75)] : List (S75))) 0 1 0 false 0 false false).bind fun t243 => (if (t243.length : Int) = 4 then (if 1 < (t243.length : Int) then (if (((rd_T43 t243 1).f0) == 1 && (((rd_T43 t243 1).f1) == 6)) = true then (if 3 < (t243.length : Int) then (some (((rd_T43 t243 3).f0) == 3 && (((rd_T43 t243 3).f1) == 12))) else (none)) else (some false)) else (none)) else (some false))))
theorem regletlaw15_awake.mono : ∀ k, LeO (regletlaw15_awake.f k ) (regletlaw15_awake.f (k + 1) ) := by
  intro  k
  unfold regletlaw15_awake.f
  repeat' first | (with_reducible first | exact locate_Stops.mono _ _ _ _ _ _ _ _ _ _ _ | exact regletlaw15_table.mono _ _ | exact LeO.refl _ | exact LeO.none _ | refine LeO.ite ?_ ?_ | refine LeO.bind ?_ (fun _ => ?_)) | exact locate_Stops.mono _ _ _ _ _ _ _ _ _ _ _ | exact regletlaw15_table.mono _ _ | exact LeO.none _ | refine LeO.ite ?_ ?_ | refine LeO.bind ?_ (fun _ => ?_)
set_option maxHeartbeats 8000000 in
set_option maxRecDepth 100000 in
theorem regletlaw15_awake.calls (k : Nat)  (r : Bool) (w : World) (h : regletlaw15_awake.f k  = some r) :
    Calls Try.prog 9 #[] w fun e w' => e = .returned (.bool r) ∧ Below w.heap.size w w' := by
  have hu73 := Try.underlying73
  have hu75 := Try.underlying75
  have hu28 := Try.underlying28
  have hu43 := Try.underlying43
  have HB := Aside0.mk (Below.refl w.heap.size w)
  have H : ((regletlaw15_table.f k (([(⟨10, 6, 3, 2, 6, 6, ([] : List (S110)), false⟩ : S73)] : List (S73)))).bind fun t237 => (if (t237.length : Int) = 0 then (some false) else ((locate_Stops.f k t237 (⟨#[97, 98, 32]⟩ : ByteArray) (([(⟨3, 0⟩ : S75)] : List (S75))) 0 1 0 false 0 false false).bind fun t243 => (if (t243.length : Int) = 4 then (if 1 < (t243.length : Int) then (if (((rd_T43 t243 1).f0) == 1 && (((rd_T43 t243 1).f1) == 6)) = true then (if 3 < (t243.length : Int) then (some (((rd_T43 t243 3).f0) == 3 && (((rd_T43 t243 3).f1) == 12))) else (none)) else (some false)) else (none)) else (some false))))) = some r := h
  clear h
  obtain ⟨y234, hy234⟩ : ∃ y_ : List (S73), y_ = (([(⟨10, 6, 3, 2, 6, 6, ([] : List (S110)), false⟩ : S73)] : List (S73))) := ⟨_, rfl⟩
  replace H : ((regletlaw15_table.f k y234).bind fun t237 => (if (t237.length : Int) = 0 then (some false) else ((locate_Stops.f k t237 (⟨#[97, 98, 32]⟩ : ByteArray) (([(⟨3, 0⟩ : S75)] : List (S75))) 0 1 0 false 0 false false).bind fun t243 => (if (t243.length : Int) = 4 then (if 1 < (t243.length : Int) then (if (((rd_T43 t243 1).f0) == 1 && (((rd_T43 t243 1).f1) == 6)) = true then (if 3 < (t243.length : Int) then (some (((rd_T43 t243 3).f0) == 3 && (((rd_T43 t243 3).f1) == 12))) else (none)) else (some false)) else (none)) else (some false))))) = some r := by first | (rw [hy234]; with_reducible exact H) | (have H2_ := (Option.bind_some _ _).symm.trans H; rw [hy234]; with_reducible exact H2_) | (have H2_ := (Option.bind_some _ _).symm.trans H; with_reducible exact H2_) | with_reducible exact H | (rw [hy234]; exact H) | exact H
  have Ny234 := Aside0.mk hy234
  clear hy234
  replace H := Option.bind_eq_some_iff.mp H
  obtain ⟨t237, A10, H⟩ := H
  replace H : (if (t237.length : Int) = 0 then (some false) else ((locate_Stops.f k t237 (⟨#[97, 98, 32]⟩ : ByteArray) (([(⟨3, 0⟩ : S75)] : List (S75))) 0 1 0 false 0 false false).bind fun t243 => (if (t243.length : Int) = 4 then (if 1 < (t243.length : Int) then (if (((rd_T43 t243 1).f0) == 1 && (((rd_T43 t243 1).f1) == 6)) = true then (if 3 < (t243.length : Int) then (some (((rd_T43 t243 3).f0) == 3 && (((rd_T43 t243 3).f1) == 12))) else (none)) else (some false)) else (none)) else (some false)))) = some r := H
  have A1 := Aside0.mk A10
  clear A10
  by_cases c2 : (t237.length : Int) = 0
  · rw [if_pos c2] at H
    have c2b0 : ((t237.length : Int) == 0) = true := beq_iff_eq.mpr c2
    have c2b1 : ((t237.length : Int) != 0) = false := bne_eq_false_iff_eq.mpr c2
    clear c2
    obtain rfl := Option.some.inj H
    go_enter Try.func9, Try.ntmps9
    go_wp2_with (first | ((with_reducible refine gate_dst (N := 4) rfl ?_); refine Kd.S_lit k73 _ 73 ?hg (N := 4) ?hd (xs := ([(⟨10, 6, 3, 2, 6, 6, ([] : List (S110)), false⟩ : S73)] : List (S73))) (inner := [.int .i64 10, .int .i64 6, .int .i64 3, .int .i64 2, .int .i64 6, .int .i64 6, .slice none 0 0, .bool false]) (ok := fun _ => True) (okp := fun _ => True) ?hr ?hp (fun _ hk => hk) trivial (Below.refl _ _) (Nat.le_refl _) (by simp) ?_; (case hd => rfl); (case hg => rfl); (case hr => exact z181_); (case hp => exact z23_); intro v235 w3 ho4 hb hg_ hnew_; clear hg_ hnew_; (first | rw [← Ny234.out] at ho4 | (simp only [Int.reduceToNat] at ho4; rw [← Ny234.out] at ho4)); have HO236 := Aside0.mk (Kd.S_lower ho4 (below_size z103_)); replace HB := Aside0.mk (below_step z103_ hb); clear hb ho4; obtain ⟨Ao5, co5, eo5⟩ := Kd.S_slice HO236.out; subst eo5) | ((with_reducible refine gate_callee (f := 11) rfl ?_); refine goesL_ (some 5) rfl rfl Try.func11 (by kernel_rfl) rfl #[.slice Ao5 y234.length co5] rfl z99_ ?_; (with_reducible refine (regletlaw15_table.calls k _ _ y234 t237 _ ?side1 ?side2 A1.out).mono ?_); (case side1 => exact z71_); (case side2 => exact z185_); rintro e w6 ⟨v238, rfl, ho0, hb⟩; refine ⟨_, rfl, ?_⟩; have HO239 := Aside0.mk (Kd.V_lower (Kd.V_mono (ok' := fun k_ => some k_ ≠ (.slice Ao5 y234.length co5 : Value).ownBlock) ho0 (fun k_ hk_ => (Kd.fresh' (Kd.S_lt z145_) k_ hk_))) (below_size z103_)); replace HO236 := Aside0.mk (Kd.S_below z145_ hb); replace HB := Aside0.mk (below_step z103_ hb); (try clear hb); (try clear hb2); (try clear hk); (try clear hi); (try clear ho0); obtain ⟨Ao7, co7, eo7⟩ := Kd.V_slice HO239.out; subst eo7; have hzq8 : ((t237.length : Int) == 0) = true := z178_; have hpq8 : ptrV (.slice Ao7 t237.length co7) t237 = .pointer none := ptrV_nil hzq8))
    go_ret
    exact ⟨z155_, z103_⟩
  rw [if_neg c2] at H
  have c2b0 : ((t237.length : Int) == 0) = false := beq_eq_false_iff_ne.mpr c2
  have c2b1 : ((t237.length : Int) != 0) = true := bne_iff_ne.mpr c2
  have c2b2 : ¬ (t237 = []) := fun h_ => c2 (by rw [h_]; rfl)
  obtain ⟨y240, hy240⟩ : ∃ y_ : List (S75), y_ = (([(⟨3, 0⟩ : S75)] : List (S75))) := ⟨_, rfl⟩
  replace H : ((locate_Stops.f k t237 (⟨#[97, 98, 32]⟩ : ByteArray) y240 0 1 0 false 0 false false).bind fun t243 => (if (t243.length : Int) = 4 then (if 1 < (t243.length : Int) then (if (((rd_T43 t243 1).f0) == 1 && (((rd_T43 t243 1).f1) == 6)) = true then (if 3 < (t243.length : Int) then (some (((rd_T43 t243 3).f0) == 3 && (((rd_T43 t243 3).f1) == 12))) else (none)) else (some false)) else (none)) else (some false))) = some r := by first | (rw [hy240]; with_reducible exact H) | (have H2_ := (Option.bind_some _ _).symm.trans H; rw [hy240]; with_reducible exact H2_) | (have H2_ := (Option.bind_some _ _).symm.trans H; with_reducible exact H2_) | with_reducible exact H | (rw [hy240]; exact H) | exact H
  have Ny240 := Aside0.mk hy240
  clear hy240
  replace H := Option.bind_eq_some_iff.mp H
  obtain ⟨t243, A90, H⟩ := H
  replace H : (if (t243.length : Int) = 4 then (if 1 < (t243.length : Int) then (if (((rd_T43 t243 1).f0) == 1 && (((rd_T43 t243 1).f1) == 6)) = true then (if 3 < (t243.length : Int) then (some (((rd_T43 t243 3).f0) == 3 && (((rd_T43 t243 3).f1) == 12))) else (none)) else (some false)) else (none)) else (some false)) = some r := H
  have A9 := Aside0.mk A90
  clear A90
  by_cases c10 : (t243.length : Int) = 4
  rotate_left
  · rw [if_neg c10] at H
    have c10b0 : ((t243.length : Int) == 4) = false := beq_eq_false_iff_ne.mpr c10
    have c10b1 : ((t243.length : Int) != 4) = true := bne_iff_ne.mpr c10
    obtain rfl := Option.some.inj H
    go_enter Try.func9, Try.ntmps9
    go_wp2_with (first | ((with_reducible refine gate_dst (N := 4) rfl ?_); refine Kd.S_lit k73 _ 73 ?hg (N := 4) ?hd (xs := ([(⟨10, 6, 3, 2, 6, 6, ([] : List (S110)), false⟩ : S73)] : List (S73))) (inner := [.int .i64 10, .int .i64 6, .int .i64 3, .int .i64 2, .int .i64 6, .int .i64 6, .slice none 0 0, .bool false]) (ok := fun _ => True) (okp := fun _ => True) ?hr ?hp (fun _ hk => hk) trivial (Below.refl _ _) (Nat.le_refl _) (by simp) ?_; (case hd => rfl); (case hg => rfl); (case hr => exact z181_); (case hp => exact z23_); intro v235 w36 ho37 hb hg_ hnew_; clear hg_ hnew_; (first | rw [← Ny234.out] at ho37 | (simp only [Int.reduceToNat] at ho37; rw [← Ny234.out] at ho37)); have HO236 := Aside0.mk (Kd.S_lower ho37 (below_size z103_)); replace HB := Aside0.mk (below_step z103_ hb); clear hb ho37; obtain ⟨Ao38, co38, eo38⟩ := Kd.S_slice HO236.out; subst eo38) | ((with_reducible refine gate_callee (f := 11) rfl ?_); refine goesL_ (some 5) rfl rfl Try.func11 (by kernel_rfl) rfl #[.slice Ao38 y234.length co38] rfl z99_ ?_; (with_reducible refine (regletlaw15_table.calls k _ _ y234 t237 _ ?side1 ?side2 A1.out).mono ?_); (case side1 => exact z71_); (case side2 => exact z185_); rintro e w39 ⟨v238, rfl, ho0, hb⟩; refine ⟨_, rfl, ?_⟩; have HO239 := Aside0.mk (Kd.V_lower (Kd.V_mono (ok' := fun k_ => some k_ ≠ (.slice Ao38 y234.length co38 : Value).ownBlock) ho0 (fun k_ hk_ => (Kd.fresh' (Kd.S_lt z145_) k_ hk_))) (below_size z103_)); replace HO236 := Aside0.mk (Kd.S_below z145_ hb); replace HB := Aside0.mk (below_step z103_ hb); (try clear hb); (try clear hb2); (try clear hk); (try clear hi); (try clear ho0); obtain ⟨Ao40, co40, eo40⟩ := Kd.V_slice HO239.out; subst eo40; have hzq41 : ((t237.length : Int) == 0) = false := z178_; have hpq41 : ptrV (.slice Ao40 t237.length co40) t237 = .pointer Ao40 := ptrV_ne hzq41; have hsq41 : Option.isNone Ao40 = false := ptr_some (Kd.V_reads' HO239.out).2.2 hzq41) | ((with_reducible refine gate_dst (N := 10) rfl ?_); refine Kd.R_lit k75 _ 75 ?hg (N := 10) ?hd (xs := ([(⟨3, 0⟩ : S75)] : List (S75))) (inner := [.int .i64 3, .int .i64 0]) (ok := fun _ => True) (okp := fun _ => True) ?hr ?hp (fun _ hk => hk) trivial (Below.refl _ _) (Nat.le_refl _) (by simp) ?_; (case hd => rfl); (case hg => rfl); (case hr => exact z181_); (case hp => exact z102_); intro v241 w42 ho43 hb hg_ hnew_; clear hg_ hnew_; (first | rw [← Ny240.out] at ho43 | (simp only [Int.reduceToNat] at ho43; rw [← Ny240.out] at ho43)); replace HO236 := Aside0.mk (Kd.S_below z145_ hb); replace HO239 := Aside0.mk (Kd.V_elder' z147_ (Kd.R_base ho43) hb); have HO242 := Aside0.mk (Kd.R_lower ho43 (below_size z103_)); replace HB := Aside0.mk (below_step z103_ hb); clear hb ho43; obtain ⟨Ao44, co44, eo44⟩ := Kd.R_slice HO242.out; subst eo44) | ((with_reducible refine gate_callee (f := 13) rfl ?_); refine goesL_ (some 12) rfl rfl Try.func13 (by kernel_rfl) rfl #[.pointer Ao40, .agg #[.string (⟨#[97, 98, 32]⟩ : ByteArray), .slice Ao44 y240.length co44, .int .i64 0, .int .i64 1, .int .i64 0, .bool false, .int .i64 0, .bool false, .bool false]] rfl z99_ ?_; (with_reducible refine (locate_Stops.calls k _ co40 t237 (⟨#[97, 98, 32]⟩ : ByteArray) _ _ y240 0 1 0 false 0 false false t243 _ ?side1 ?side2 ?side3 ?side4 A9.out).mono ?_); (case side1 => exact z72_); (case side2 => exact z186_); (case side3 => exact z69_); (case side4 => exact z184_); rintro e w45 ⟨v244, rfl, ho0, hb⟩; refine ⟨_, rfl, ?_⟩; replace HO236 := Aside0.mk (Kd.S_below z145_ hb); replace HO239 := Aside0.mk (Kd.V_elder' z147_ (Kd.R_base ho0) hb); replace HO242 := Aside0.mk (Kd.R_below z141_ hb); have HO245 := Aside0.mk (Kd.R_lower ho0 (below_size z103_)); replace HB := Aside0.mk (below_step z103_ hb); (try clear hb); (try clear hb2); (try clear hk); (try clear hi); (try clear ho0); obtain ⟨Ao46, co46, eo46⟩ := Kd.R_slice HO245.out; subst eo46))
    go_ret
    exact ⟨z155_, z103_⟩
  rw [if_pos c10] at H
  have c10b0 : ((t243.length : Int) == 4) = true := beq_iff_eq.mpr c10
  have c10b1 : ((t243.length : Int) != 4) = false := bne_eq_false_iff_eq.mpr c10
  clear c10
  by_cases c11 : 1 < (t243.length : Int)
  rotate_left
  · rw [if_neg c11] at H
    exact absurd H (by simp)
  rw [if_pos c11] at H
  have c11b0 : decide (1 < (t243.length : Int)) = true := decide_eq_true c11
  have c11b1 : decide (1 < t243.length) = true := decide_eq_true (by omega)
  clear c11
  by_cases c12 : (((rd_T43 t243 1).f0) == 1 && (((rd_T43 t243 1).f1) == 6)) = true
  rotate_left
  · rw [if_neg c12] at H
    have c12b0 : (((rd_T43 t243 1).f0) == 1 && (((rd_T43 t243 1).f1) == 6)) = false := by simpa using c12
    (try (have c12b1 : decide (((rd_T43 t243 1).f0) = 1 && (((rd_T43 t243 1).f1) == 6)) = false := by simpa using c12))
    (try (have c12b2 : (((rd_T43 t243 1).f0) == 1 && (((rd_T43 t243 1).f1) == 6)) = false := by simpa using c12))
    (try (have c12b3 : ¬ (((rd_T43 t243 1).f0) = 1 && (((rd_T43 t243 1).f1) == 6)) := by simpa using c12))
    clear c12
    obtain rfl := Option.some.inj H
    go_enter Try.func9, Try.ntmps9
    go_wp2_with (first | ((with_reducible refine gate_dst (N := 4) rfl ?_); refine Kd.S_lit k73 _ 73 ?hg (N := 4) ?hd (xs := ([(⟨10, 6, 3, 2, 6, 6, ([] : List (S110)), false⟩ : S73)] : List (S73))) (inner := [.int .i64 10, .int .i64 6, .int .i64 3, .int .i64 2, .int .i64 6, .int .i64 6, .slice none 0 0, .bool false]) (ok := fun _ => True) (okp := fun _ => True) ?hr ?hp (fun _ hk => hk) trivial (Below.refl _ _) (Nat.le_refl _) (by simp) ?_; (case hd => rfl); (case hg => rfl); (case hr => exact z181_); (case hp => exact z23_); intro v235 w25 ho26 hb hg_ hnew_; clear hg_ hnew_; (first | rw [← Ny234.out] at ho26 | (simp only [Int.reduceToNat] at ho26; rw [← Ny234.out] at ho26)); have HO236 := Aside0.mk (Kd.S_lower ho26 (below_size z103_)); replace HB := Aside0.mk (below_step z103_ hb); clear hb ho26; obtain ⟨Ao27, co27, eo27⟩ := Kd.S_slice HO236.out; subst eo27) | ((with_reducible refine gate_callee (f := 11) rfl ?_); refine goesL_ (some 5) rfl rfl Try.func11 (by kernel_rfl) rfl #[.slice Ao27 y234.length co27] rfl z99_ ?_; (with_reducible refine (regletlaw15_table.calls k _ _ y234 t237 _ ?side1 ?side2 A1.out).mono ?_); (case side1 => exact z71_); (case side2 => exact z185_); rintro e w28 ⟨v238, rfl, ho0, hb⟩; refine ⟨_, rfl, ?_⟩; have HO239 := Aside0.mk (Kd.V_lower (Kd.V_mono (ok' := fun k_ => some k_ ≠ (.slice Ao27 y234.length co27 : Value).ownBlock) ho0 (fun k_ hk_ => (Kd.fresh' (Kd.S_lt z145_) k_ hk_))) (below_size z103_)); replace HO236 := Aside0.mk (Kd.S_below z145_ hb); replace HB := Aside0.mk (below_step z103_ hb); (try clear hb); (try clear hb2); (try clear hk); (try clear hi); (try clear ho0); obtain ⟨Ao29, co29, eo29⟩ := Kd.V_slice HO239.out; subst eo29; have hzq30 : ((t237.length : Int) == 0) = false := z178_; have hpq30 : ptrV (.slice Ao29 t237.length co29) t237 = .pointer Ao29 := ptrV_ne hzq30; have hsq30 : Option.isNone Ao29 = false := ptr_some (Kd.V_reads' HO239.out).2.2 hzq30) | ((with_reducible refine gate_dst (N := 10) rfl ?_); refine Kd.R_lit k75 _ 75 ?hg (N := 10) ?hd (xs := ([(⟨3, 0⟩ : S75)] : List (S75))) (inner := [.int .i64 3, .int .i64 0]) (ok := fun _ => True) (okp := fun _ => True) ?hr ?hp (fun _ hk => hk) trivial (Below.refl _ _) (Nat.le_refl _) (by simp) ?_; (case hd => rfl); (case hg => rfl); (case hr => exact z181_); (case hp => exact z102_); intro v241 w31 ho32 hb hg_ hnew_; clear hg_ hnew_; (first | rw [← Ny240.out] at ho32 | (simp only [Int.reduceToNat] at ho32; rw [← Ny240.out] at ho32)); replace HO236 := Aside0.mk (Kd.S_below z145_ hb); replace HO239 := Aside0.mk (Kd.V_elder' z147_ (Kd.R_base ho32) hb); have HO242 := Aside0.mk (Kd.R_lower ho32 (below_size z103_)); replace HB := Aside0.mk (below_step z103_ hb); clear hb ho32; obtain ⟨Ao33, co33, eo33⟩ := Kd.R_slice HO242.out; subst eo33) | ((with_reducible refine gate_callee (f := 13) rfl ?_); refine goesL_ (some 12) rfl rfl Try.func13 (by kernel_rfl) rfl #[.pointer Ao29, .agg #[.string (⟨#[97, 98, 32]⟩ : ByteArray), .slice Ao33 y240.length co33, .int .i64 0, .int .i64 1, .int .i64 0, .bool false, .int .i64 0, .bool false, .bool false]] rfl z99_ ?_; (with_reducible refine (locate_Stops.calls k _ co29 t237 (⟨#[97, 98, 32]⟩ : ByteArray) _ _ y240 0 1 0 false 0 false false t243 _ ?side1 ?side2 ?side3 ?side4 A9.out).mono ?_); (case side1 => exact z72_); (case side2 => exact z186_); (case side3 => exact z69_); (case side4 => exact z184_); rintro e w34 ⟨v244, rfl, ho0, hb⟩; refine ⟨_, rfl, ?_⟩; replace HO236 := Aside0.mk (Kd.S_below z145_ hb); replace HO239 := Aside0.mk (Kd.V_elder' z147_ (Kd.R_base ho0) hb); replace HO242 := Aside0.mk (Kd.R_below z141_ hb); have HO245 := Aside0.mk (Kd.R_lower ho0 (below_size z103_)); replace HB := Aside0.mk (below_step z103_ hb); (try clear hb); (try clear hb2); (try clear hk); (try clear hi); (try clear ho0); obtain ⟨Ao35, co35, eo35⟩ := Kd.R_slice HO245.out; subst eo35; have p246 : 0 ≤ (1 : Int) := (by omega); have q246 : 1 < (t243.length : Int) := of_decide_eq_true z178_; obtain ⟨ad246, e246, hx246_0, hx246_1⟩ := at_T43 (Kd.R_reads' HO245.out).2.2 1 p246 q246; cases e246; (try simp only [show (1 : Int).toNat = 1 from rfl, Nat.reduceMul, Nat.reduceEqDiff, Go.Addr.add, ↓reduceIte] at hx246_0); (try simp only [show (1 : Int).toNat = 1 from rfl, Nat.reduceMul, Nat.reduceEqDiff, Go.Addr.add, ↓reduceIte] at hx246_1); have qi246 : (1 < t243.length) = True := eq_true (by omega); (try rw [show ((1 : Int)).toNat = 1 from rfl] at hx246_0); (try rw [show 1 * 2 = 2 from rfl] at hx246_0); (try rw [show ((1 : Int)).toNat = 1 from rfl] at hx246_1); (try rw [show 1 * 2 = 2 from rfl] at hx246_1); replace p246 := eq_true p246; replace q246 := eq_true q246))
    go_ret
    exact ⟨z155_, z103_⟩
  rw [if_pos c12] at H
  have c12b0 : (((rd_T43 t243 1).f0) == 1 && (((rd_T43 t243 1).f1) == 6)) = true := c12
  (try (have c12b1 : decide (((rd_T43 t243 1).f0) = 1 && (((rd_T43 t243 1).f1) == 6)) = true := by simpa using c12))
  (try (have c12b2 : (((rd_T43 t243 1).f0) == 1 && (((rd_T43 t243 1).f1) == 6)) = true := by simpa using c12))
  clear c12
  by_cases c13 : 3 < (t243.length : Int)
  rotate_left
  · rw [if_neg c13] at H
    exact absurd H (by simp)
  rw [if_pos c13] at H
  have c13b0 : decide (3 < (t243.length : Int)) = true := decide_eq_true c13
  have c13b1 : decide (3 < t243.length) = true := decide_eq_true (by omega)
  clear c13
  obtain rfl := Option.some.inj H
  go_enter Try.func9, Try.ntmps9
  go_wp2_with (first | ((with_reducible refine gate_dst (N := 4) rfl ?_); refine Kd.S_lit k73 _ 73 ?hg (N := 4) ?hd (xs := ([(⟨10, 6, 3, 2, 6, 6, ([] : List (S110)), false⟩ : S73)] : List (S73))) (inner := [.int .i64 10, .int .i64 6, .int .i64 3, .int .i64 2, .int .i64 6, .int .i64 6, .slice none 0 0, .bool false]) (ok := fun _ => True) (okp := fun _ => True) ?hr ?hp (fun _ hk => hk) trivial (Below.refl _ _) (Nat.le_refl _) (by simp) ?_; (case hd => rfl); (case hg => rfl); (case hr => exact z181_); (case hp => exact z23_); intro v235 w14 ho15 hb hg_ hnew_; clear hg_ hnew_; (first | rw [← Ny234.out] at ho15 | (simp only [Int.reduceToNat] at ho15; rw [← Ny234.out] at ho15)); have HO236 := Aside0.mk (Kd.S_lower ho15 (below_size z103_)); replace HB := Aside0.mk (below_step z103_ hb); clear hb ho15; obtain ⟨Ao16, co16, eo16⟩ := Kd.S_slice HO236.out; subst eo16) | ((with_reducible refine gate_callee (f := 11) rfl ?_); refine goesL_ (some 5) rfl rfl Try.func11 (by kernel_rfl) rfl #[.slice Ao16 y234.length co16] rfl z99_ ?_; (with_reducible refine (regletlaw15_table.calls k _ _ y234 t237 _ ?side1 ?side2 A1.out).mono ?_); (case side1 => exact z71_); (case side2 => exact z185_); rintro e w17 ⟨v238, rfl, ho0, hb⟩; refine ⟨_, rfl, ?_⟩; have HO239 := Aside0.mk (Kd.V_lower (Kd.V_mono (ok' := fun k_ => some k_ ≠ (.slice Ao16 y234.length co16 : Value).ownBlock) ho0 (fun k_ hk_ => (Kd.fresh' (Kd.S_lt z145_) k_ hk_))) (below_size z103_)); replace HO236 := Aside0.mk (Kd.S_below z145_ hb); replace HB := Aside0.mk (below_step z103_ hb); (try clear hb); (try clear hb2); (try clear hk); (try clear hi); (try clear ho0); obtain ⟨Ao18, co18, eo18⟩ := Kd.V_slice HO239.out; subst eo18; have hzq19 : ((t237.length : Int) == 0) = false := z178_; have hpq19 : ptrV (.slice Ao18 t237.length co18) t237 = .pointer Ao18 := ptrV_ne hzq19; have hsq19 : Option.isNone Ao18 = false := ptr_some (Kd.V_reads' HO239.out).2.2 hzq19) | ((with_reducible refine gate_dst (N := 10) rfl ?_); refine Kd.R_lit k75 _ 75 ?hg (N := 10) ?hd (xs := ([(⟨3, 0⟩ : S75)] : List (S75))) (inner := [.int .i64 3, .int .i64 0]) (ok := fun _ => True) (okp := fun _ => True) ?hr ?hp (fun _ hk => hk) trivial (Below.refl _ _) (Nat.le_refl _) (by simp) ?_; (case hd => rfl); (case hg => rfl); (case hr => exact z181_); (case hp => exact z102_); intro v241 w20 ho21 hb hg_ hnew_; clear hg_ hnew_; (first | rw [← Ny240.out] at ho21 | (simp only [Int.reduceToNat] at ho21; rw [← Ny240.out] at ho21)); replace HO236 := Aside0.mk (Kd.S_below z145_ hb); replace HO239 := Aside0.mk (Kd.V_elder' z147_ (Kd.R_base ho21) hb); have HO242 := Aside0.mk (Kd.R_lower ho21 (below_size z103_)); replace HB := Aside0.mk (below_step z103_ hb); clear hb ho21; obtain ⟨Ao22, co22, eo22⟩ := Kd.R_slice HO242.out; subst eo22) | ((with_reducible refine gate_callee (f := 13) rfl ?_); refine goesL_ (some 12) rfl rfl Try.func13 (by kernel_rfl) rfl #[.pointer Ao18, .agg #[.string (⟨#[97, 98, 32]⟩ : ByteArray), .slice Ao22 y240.length co22, .int .i64 0, .int .i64 1, .int .i64 0, .bool false, .int .i64 0, .bool false, .bool false]] rfl z99_ ?_; (with_reducible refine (locate_Stops.calls k _ co18 t237 (⟨#[97, 98, 32]⟩ : ByteArray) _ _ y240 0 1 0 false 0 false false t243 _ ?side1 ?side2 ?side3 ?side4 A9.out).mono ?_); (case side1 => exact z72_); (case side2 => exact z186_); (case side3 => exact z69_); (case side4 => exact z184_); rintro e w23 ⟨v244, rfl, ho0, hb⟩; refine ⟨_, rfl, ?_⟩; replace HO236 := Aside0.mk (Kd.S_below z145_ hb); replace HO239 := Aside0.mk (Kd.V_elder' z147_ (Kd.R_base ho0) hb); replace HO242 := Aside0.mk (Kd.R_below z141_ hb); have HO245 := Aside0.mk (Kd.R_lower ho0 (below_size z103_)); replace HB := Aside0.mk (below_step z103_ hb); (try clear hb); (try clear hb2); (try clear hk); (try clear hi); (try clear ho0); obtain ⟨Ao24, co24, eo24⟩ := Kd.R_slice HO245.out; subst eo24; have p246 : 0 ≤ (1 : Int) := (by omega); have q246 : 1 < (t243.length : Int) := of_decide_eq_true z178_; obtain ⟨ad246, e246, hx246_0, hx246_1⟩ := at_T43 (Kd.R_reads' HO245.out).2.2 1 p246 q246; cases e246; (try simp only [show (1 : Int).toNat = 1 from rfl, Nat.reduceMul, Nat.reduceEqDiff, Go.Addr.add, ↓reduceIte] at hx246_0); (try simp only [show (1 : Int).toNat = 1 from rfl, Nat.reduceMul, Nat.reduceEqDiff, Go.Addr.add, ↓reduceIte] at hx246_1); have qi246 : (1 < t243.length) = True := eq_true (by omega); (try rw [show ((1 : Int)).toNat = 1 from rfl] at hx246_0); (try rw [show 1 * 2 = 2 from rfl] at hx246_0); (try rw [show ((1 : Int)).toNat = 1 from rfl] at hx246_1); (try rw [show 1 * 2 = 2 from rfl] at hx246_1); replace p246 := eq_true p246; replace q246 := eq_true q246; have p247 : 0 ≤ (3 : Int) := (by omega); have q247 : 3 < (t243.length : Int) := of_decide_eq_true z178_; obtain ⟨ad247, e247, hx247_0, hx247_1⟩ := at_T43 (Kd.R_reads' HO245.out).2.2 3 p247 q247; obtain rfl : ad246 = ad247 := (by injection e247); (try simp only [show (3 : Int).toNat = 3 from rfl, Nat.reduceMul, Nat.reduceEqDiff, Go.Addr.add, ↓reduceIte] at hx247_0); (try simp only [show (3 : Int).toNat = 3 from rfl, Nat.reduceMul, Nat.reduceEqDiff, Go.Addr.add, ↓reduceIte] at hx247_1); have qi247 : (3 < t243.length) = True := eq_true (by omega); (try rw [show ((3 : Int)).toNat = 3 from rfl] at hx247_0); (try rw [show 3 * 2 = 6 from rfl] at hx247_0); (try rw [show ((3 : Int)).toNat = 3 from rfl] at hx247_1); (try rw [show 3 * 2 = 6 from rfl] at hx247_1); replace p247 := eq_true p247; replace q247 := eq_true q247))
  go_ret
  exact ⟨z155_, z103_⟩
/-! ### regletref02_value: function 64 -/
def regletref02_value.l0 : Nat → ByteArray → Int → Int → Int → Int → Option (Int)
  | 0, _, _, _, _, _ => none
  | k + 1, x0, x1, x2, x8, x9 => if x9 < x2 then (if 0 ≤ (wrap64 (x1 + x9)) then (if (wrap64 (x1 + x9)) < (x0.size : Int) then (regletref02_value.l0 k x0 x1 x2 (wrap64 ((wrap64 (x8 * 64)) + (Int.tmod (wrap64 (bt x0 (wrap64 (x1 + x9)))) 64))) (wrap64 (x9 + 1))) else (none)) else (none)) else (some x8)
def regletref02_value.f (k : Nat) (a0 : ByteArray) (a1 : Int) (a2 : Int) : Option (Int) := if 0 ≤ a1 then (if a1 < (a0.size : Int) then (if a2 = 1 then (some (wrap64 (bt a0 a1))) else (if 0 ≤ (wrap64 (7 - a2)) then (if (shl .i64 1 (wrap64 (7 - a2))) = 0 then (none) else (regletref02_value.l0 k a0 a1 a2 (Int.tmod (wrap64 (bt a0 a1)) (shl .i64 1 (wrap64 (7 - a2)))) 1)) else (none))) else (none)) else (none)
theorem regletref02_value.mono_l : ∀ k, (∀ y0 y1 y2 y3 y4, LeO (regletref02_value.l0 k y0 y1 y2 y3 y4) (regletref02_value.l0 (k + 1) y0 y1 y2 y3 y4))
  | 0 => fun _ _ _ _ _ r h => by simp [regletref02_value.l0] at h
  | k + 1 => by
    have ih0 := regletref02_value.mono_l k
    · intro y0 y1 y2 y3 y4
      unfold regletref02_value.l0
      repeat' first | (with_reducible first | exact ih0 _ _ _ _ _ | exact LeO.refl _ | exact LeO.none _ | refine LeO.ite ?_ ?_ | refine LeO.bind ?_ (fun _ => ?_)) | exact ih0 _ _ _ _ _ | exact LeO.none _ | refine LeO.ite ?_ ?_ | refine LeO.bind ?_ (fun _ => ?_)
theorem regletref02_value.mono : ∀ a0 a1 a2 k, LeO (regletref02_value.f k a0 a1 a2) (regletref02_value.f (k + 1) a0 a1 a2) := by
  intro a0 a1 a2 k
  have ih0 := regletref02_value.mono_l k
  unfold regletref02_value.f
  repeat' first | (with_reducible first | exact ih0 _ _ _ _ _ | exact LeO.refl _ | exact LeO.none _ | refine LeO.ite ?_ ?_ | refine LeO.bind ?_ (fun _ => ?_)) | exact ih0 _ _ _ _ _ | exact LeO.none _ | refine LeO.ite ?_ ?_ | refine LeO.bind ?_ (fun _ => ?_)
set_option maxHeartbeats 8000000 in
set_option maxRecDepth 100000 in
theorem regletref02_value.calls (k : Nat) (a0 : ByteArray) (a1 : Int) (a2 : Int) (r : Int) (w : World) (h : regletref02_value.f k a0 a1 a2 = some r) :
    Calls Try.prog 64 #[.string a0, .int .i64 a1, .int .i64 a2] w fun e w' => e = .returned (.int .i64 r) ∧ Drawn0 w w' := by
  have H : (if 0 ≤ a1 then (if a1 < (a0.size : Int) then (if a2 = 1 then (some (wrap64 (bt a0 a1))) else (if 0 ≤ (wrap64 (7 - a2)) then (if (shl .i64 1 (wrap64 (7 - a2))) = 0 then (none) else (regletref02_value.l0 k a0 a1 a2 (Int.tmod (wrap64 (bt a0 a1)) (shl .i64 1 (wrap64 (7 - a2)))) 1)) else (none))) else (none)) else (none)) = some r := h
  clear h
  by_cases c4 : 0 ≤ a1
  rotate_left
  · rw [if_neg c4] at H
    exact absurd H (by simp)
  rw [if_pos c4] at H
  have c4b0 : decide (0 ≤ a1) = true := decide_eq_true c4
  clear c4
  by_cases c5 : a1 < (a0.size : Int)
  rotate_left
  · rw [if_neg c5] at H
    exact absurd H (by simp)
  rw [if_pos c5] at H
  have c5b0 : decide (a1 < (a0.size : Int)) = true := decide_eq_true c5
  clear c5
  by_cases c7 : a2 = 1
  · rw [if_pos c7] at H
    have c7b0 : (a2 == 1) = true := beq_iff_eq.mpr c7
    have c7b1 : (a2 != 1) = false := bne_eq_false_iff_eq.mpr c7
    clear c7
    obtain rfl := Option.some.inj H
    have p6 : 0 ≤ (a1 : Int) := of_decide_eq_true z178_
    have q6 : a1 < (a0.size : Int) := of_decide_eq_true z178_
    have hx6 := bt_at a0 a1
    replace p6 := eq_true p6
    replace q6 := eq_true q6
    go_enter Try.func64, Try.ntmps64
    go_wp2
    go_ret
    exact ⟨z166_, z173_⟩
  rw [if_neg c7] at H
  have c7b0 : (a2 == 1) = false := beq_eq_false_iff_ne.mpr c7
  have c7b1 : (a2 != 1) = true := bne_iff_ne.mpr c7
  obtain ⟨ji8, hji8⟩ : ∃ j_ : Int, (wrap64 (7 - a2)) = j_ := ⟨_, rfl⟩
  replace H : (if 0 ≤ (ji8) then (if (shl .i64 1 (ji8)) = 0 then (none) else (regletref02_value.l0 k a0 a1 a2 (Int.tmod (wrap64 (bt a0 a1)) (shl .i64 1 (ji8))) 1)) else (none)) = some r := by first | (rw [hji8] at H; exact H) | (simp only [hji8] at H ⊢; exact H)
  have hji8w : (IntKind.i64.wrap (7 - a2)) = ji8 := (i64_w _).trans hji8
  by_cases c9 : 0 ≤ (ji8)
  rotate_left
  · rw [if_neg c9] at H
    exact absurd H (by simp)
  rw [if_pos c9] at H
  have c9b0 := eq_true c9
  have c9b1 : decide (0 ≤ (ji8)) = true := decide_eq_true c9
  clear c9
  obtain ⟨ji10, hji10⟩ : ∃ j_ : Int, (shl .i64 1 (ji8)) = j_ := ⟨_, rfl⟩
  replace H : (if (ji10) = 0 then (none) else (regletref02_value.l0 k a0 a1 a2 (Int.tmod (wrap64 (bt a0 a1)) (ji10)) 1)) = some r := by first | (rw [hji10] at H; exact H) | (simp only [hji10] at H ⊢; exact H)
  have hji10_ : (IntKind.i64.wrap (1 * 2 ^ min (ji8).toNat 64)) = ji10 := hji10
  have hji10z : (ji8) ≤ 64 → (IntKind.i64.wrap (1 * 2 ^ (ji8).toNat)) = ji10 := shl_small hji10
  have hji10u : (IntKind.i64.wrap (2 ^ min (ji8).toNat 64)) = ji10 := by have h_ := hji10_; rw [Int.one_mul] at h_; exact h_
  have hji10v : (ji8) ≤ 64 → (IntKind.i64.wrap (2 ^ (ji8).toNat)) = ji10 := fun hle_ => by have h_ := hji10z hle_; rw [Int.one_mul] at h_; exact h_
  have hji10y : (wrap64 (1 * 2 ^ min (ji8).toNat 64)) = ji10 := (i64_w _).symm.trans hji10_
  have hji10x : (ji8) ≤ 64 → (wrap64 (1 * 2 ^ (ji8).toNat)) = ji10 := fun h_ => (i64_w _).symm.trans (hji10z h_)
  by_cases c11 : (ji10) = 0
  · rw [if_pos c11] at H
    exact absurd H (by simp)
  rw [if_neg c11] at H
  have c11b0 : ((ji10) == 0) = false := beq_eq_false_iff_ne.mpr c11
  have c11b1 : ((ji10) != 0) = true := bne_iff_ne.mpr c11
  have H' := Aside0.mk H
  clear H
  have p6 : 0 ≤ (a1 : Int) := of_decide_eq_true z178_
  have q6 : a1 < (a0.size : Int) := of_decide_eq_true z178_
  have hx6 := bt_at a0 a1
  replace p6 := eq_true p6
  replace q6 := eq_true q6
  go_enter Try.func64, Try.ntmps64
  go_wp2
  go_loopg [8, 9] k (fun kq v8 v9 w' => ∃ (x8_1 : Int) (x9_1 : Int), v8 = .int .i64 x8_1 ∧ v9 = .int .i64 x9_1 ∧ Aside0 (regletref02_value.l0 kq a0 a1 a2 x8_1 x9_1 = some r) ∧ Aside0 (kq ≤ k) ∧ Drawn0 w w')
  case atStart => exact ⟨(Int.tmod (wrap64 (bt a0 a1)) (ji10)), (1), z156_, z180_, H', ⟨Nat.le_refl _⟩, z173_⟩
  case round =>
    clear H'; (try clear c1); (try clear p2); (try clear c4); (try clear c4b0); (try clear c5); (try clear c5b0); (try clear c6); (try clear p6); (try clear q6); (try clear hx6); (try clear c7); (try clear c7b0); (try clear c7b1); (try clear c9); (try clear c9b0); (try clear c9b1); (try clear c11); (try clear c11b0); (try clear c11b1); (try clear p6); (try clear q6)
    obtain ⟨x8_1, x9_1, rfl, rfl, HA, HK1, ⟨m1, rfl⟩⟩ := hrel
    cases gk with
    | zero => exact absurd HA.out (by simp [regletref02_value.l0])
    | succ k1 =>
      have H := HA.out
      clear HA
      simp only [regletref02_value.l0] at H
      by_cases c12 : x9_1 < a2
      rotate_left
      · rw [if_neg c12] at H
        have c12b0 : decide (x9_1 < a2) = false := decide_eq_false c12
        clear c12
        obtain rfl := Option.some.inj H
        go_wp2
        go_ret
        exact ⟨by first | rfl | (simp; done) | (simp only [← hji8, ← hji10] <;> (first | rfl | simp)) | (simp [*]; done) | (simp [*]; decide +kernel), z173_⟩
      rw [if_pos c12] at H
      have c12b0 : decide (x9_1 < a2) = true := decide_eq_true c12
      clear c12
      obtain ⟨ji13, hji13⟩ : ∃ j_ : Int, (wrap64 (a1 + x9_1)) = j_ := ⟨_, rfl⟩
      replace H : (if 0 ≤ (ji13) then (if (ji13) < (a0.size : Int) then (regletref02_value.l0 k1 a0 a1 a2 (wrap64 ((wrap64 (x8_1 * 64)) + (Int.tmod (wrap64 (bt a0 (ji13))) 64))) (wrap64 (x9_1 + 1))) else (none)) else (none)) = some r := by first | (rw [hji13] at H; exact H) | (simp only [hji13] at H ⊢; exact H)
      have hji13w : (IntKind.i64.wrap (a1 + x9_1)) = ji13 := (i64_w _).trans hji13
      by_cases c14 : 0 ≤ (ji13)
      rotate_left
      · rw [if_neg c14] at H
        exact absurd H (by simp)
      rw [if_pos c14] at H
      have c14b0 : decide (0 ≤ (ji13)) = true := decide_eq_true c14
      clear c14
      by_cases c15 : (ji13) < (a0.size : Int)
      rotate_left
      · rw [if_neg c15] at H
        exact absurd H (by simp)
      rw [if_pos c15] at H
      have c15b0 : decide ((ji13) < (a0.size : Int)) = true := decide_eq_true c15
      clear c15
      have H' := Aside0.mk H
      clear H
      have p16 : 0 ≤ ((ji13) : Int) := of_decide_eq_true z178_
      have q16 : (ji13) < (a0.size : Int) := of_decide_eq_true z178_
      have hx16 := bt_at a0 (ji13)
      replace p16 := eq_true p16
      replace q16 := eq_true q16
      go_wp2
      go_roundg k1
      case measure => have := HK1.out; omega
      case rel => exact ⟨(wrap64 ((wrap64 (x8_1 * 64)) + (Int.tmod (wrap64 (bt a0 (ji13))) 64))), (wrap64 (x9_1 + 1)), (by first | rfl | (simp; done) | (simp only [← hji13] <;> (first | rfl | simp)) | (simp [*]; done)), z180_, H', ⟨z191_⟩, z173_⟩
/-! ### regletref02_IsRune: function 74 -/
def regletref02_IsRune.f (a0 : Int) : Option (Bool) := if a0 ≥ 0 then (if a0 ≤ 1114111 then (if a0 < 55296 then (some true) else (some (decide (a0 > 57343)))) else (some false)) else (some false)
set_option maxHeartbeats 8000000 in
set_option maxRecDepth 100000 in
theorem regletref02_IsRune.calls (a0 : Int) (r : Bool) (w : World) (h : regletref02_IsRune.f a0 = some r) :
    Calls Try.prog 74 #[.int .i64 a0] w fun e w' => e = .returned (.bool r) ∧ Drawn0 w w' := by
  have H : (if a0 ≥ 0 then (if a0 ≤ 1114111 then (if a0 < 55296 then (some true) else (some (decide (a0 > 57343)))) else (some false)) else (some false)) = some r := h
  clear h
  by_cases c2 : a0 ≥ 0
  rotate_left
  · rw [if_neg c2] at H
    have c2b0 : decide (0 ≤ a0) = false := decide_eq_false c2
    clear c2
    obtain rfl := Option.some.inj H
    go_enter Try.func74, Try.ntmps74
    go_wp2
    go_ret
    exact ⟨z166_, z173_⟩
  rw [if_pos c2] at H
  have c2b0 : decide (0 ≤ a0) = true := decide_eq_true c2
  clear c2
  by_cases c3 : a0 ≤ 1114111
  rotate_left
  · rw [if_neg c3] at H
    have c3b0 : decide (a0 ≤ 1114111) = false := decide_eq_false c3
    clear c3
    obtain rfl := Option.some.inj H
    go_enter Try.func74, Try.ntmps74
    go_wp2
    go_ret
    exact ⟨z166_, z173_⟩
  rw [if_pos c3] at H
  have c3b0 : decide (a0 ≤ 1114111) = true := decide_eq_true c3
  clear c3
  by_cases c4 : a0 < 55296
  rotate_left
  · rw [if_neg c4] at H
    have c4b0 : decide (a0 < 55296) = false := decide_eq_false c4
    clear c4
    obtain rfl := Option.some.inj H
    go_enter Try.func74, Try.ntmps74
    go_wp2
    go_ret
    exact ⟨z166_, z173_⟩
  rw [if_pos c4] at H
  have c4b0 : decide (a0 < 55296) = true := decide_eq_true c4
  clear c4
  obtain rfl := Option.some.inj H
  go_enter Try.func74, Try.ntmps74
  go_wp2
  go_ret
  exact ⟨z166_, z173_⟩
/-! ### regletref02_Bytes: function 65 -/
def regletref02_Bytes.f (a0 : Int) : Option (List Int) := (regletref02_IsRune.f a0).bind fun t248 => (if t248 = true then (if a0 < 128 then (some (([a0] : List Int))) else (if a0 < 2048 then (some (([wrap64 (192 + (wrap64 (Int.tdiv a0 64))), wrap64 (128 + (Int.tmod a0 64))] : List Int))) else (if a0 < 65536 then (some (([wrap64 (224 + (wrap64 (Int.tdiv a0 4096))), wrap64 (128 + (Int.tmod (wrap64 (Int.tdiv a0 64)) 64)), wrap64 (128 + (Int.tmod a0 64))] : List Int))) else (some (([wrap64 (240 + (wrap64 (Int.tdiv a0 262144))), wrap64 (128 + (Int.tmod (wrap64 (Int.tdiv a0 4096)) 64)), wrap64 (128 + (Int.tmod (wrap64 (Int.tdiv a0 64)) 64)), wrap64 (128 + (Int.tmod a0 64))] : List Int)))))) else (some ([] : List Int)))
set_option maxHeartbeats 8000000 in
set_option maxRecDepth 100000 in
theorem regletref02_Bytes.calls (a0 : Int) (r : List Int) (w : World) (h : regletref02_Bytes.f a0 = some r) :
    Calls Try.prog 65 #[.int .i64 a0] w fun e w' => ∃ v0_ : Value, e = .returned (v0_) ∧ Kd.R (Kd.int .i64) 3 w' w.heap.size (fun _ => True) v0_ r ∧ Below w.heap.size w w' := by
  have HB := Aside0.mk (Below.refl w.heap.size w)
  have H : ((regletref02_IsRune.f a0).bind fun t248 => (if t248 = true then (if a0 < 128 then (some (([a0] : List Int))) else (if a0 < 2048 then (some (([wrap64 (192 + (wrap64 (Int.tdiv a0 64))), wrap64 (128 + (Int.tmod a0 64))] : List Int))) else (if a0 < 65536 then (some (([wrap64 (224 + (wrap64 (Int.tdiv a0 4096))), wrap64 (128 + (Int.tmod (wrap64 (Int.tdiv a0 64)) 64)), wrap64 (128 + (Int.tmod a0 64))] : List Int))) else (some (([wrap64 (240 + (wrap64 (Int.tdiv a0 262144))), wrap64 (128 + (Int.tmod (wrap64 (Int.tdiv a0 4096)) 64)), wrap64 (128 + (Int.tmod (wrap64 (Int.tdiv a0 64)) 64)), wrap64 (128 + (Int.tmod a0 64))] : List Int)))))) else (some ([] : List Int)))) = some r := h
  clear h
  replace H := Option.bind_eq_some_iff.mp H
  obtain ⟨t248, A20, H⟩ := H
  replace H : (if t248 = true then (if a0 < 128 then (some (([a0] : List Int))) else (if a0 < 2048 then (some (([wrap64 (192 + (wrap64 (Int.tdiv a0 64))), wrap64 (128 + (Int.tmod a0 64))] : List Int))) else (if a0 < 65536 then (some (([wrap64 (224 + (wrap64 (Int.tdiv a0 4096))), wrap64 (128 + (Int.tmod (wrap64 (Int.tdiv a0 64)) 64)), wrap64 (128 + (Int.tmod a0 64))] : List Int))) else (some (([wrap64 (240 + (wrap64 (Int.tdiv a0 262144))), wrap64 (128 + (Int.tmod (wrap64 (Int.tdiv a0 4096)) 64)), wrap64 (128 + (Int.tmod (wrap64 (Int.tdiv a0 64)) 64)), wrap64 (128 + (Int.tmod a0 64))] : List Int)))))) else (some ([] : List Int))) = some r := H
  have A2 := Aside0.mk A20
  clear A20
  by_cases c3 : t248 = true
  rotate_left
  · replace c3 := Bool.eq_false_iff.mpr c3
    subst c3
    have H1 : (some ([] : List Int)) = some r := by rw [if_neg (show ¬ (false = true) by decide)] at H; exact H
    clear H
    have H := H1
    clear H1
    obtain rfl := Option.some.inj H
    go_enter Try.func65, Try.ntmps65
    go_wp2_with (first | ((with_reducible refine gate_callee (f := 74) rfl ?_); refine goesL_ (some 4) rfl rfl Try.func74 (by kernel_rfl) rfl #[.int .i64 a0] rfl z99_ ?_; (with_reducible refine (regletref02_IsRune.calls a0 false _ A2.out).mono ?_); rintro e w' ⟨rfl, ⟨nd, rfl⟩⟩; refine ⟨_, rfl, ?_⟩))
    go_ret
    exact ⟨_, z155_, z97_, z103_⟩
  subst c3
  have H1 : (if a0 < 128 then (some (([a0] : List Int))) else (if a0 < 2048 then (some (([wrap64 (192 + (wrap64 (Int.tdiv a0 64))), wrap64 (128 + (Int.tmod a0 64))] : List Int))) else (if a0 < 65536 then (some (([wrap64 (224 + (wrap64 (Int.tdiv a0 4096))), wrap64 (128 + (Int.tmod (wrap64 (Int.tdiv a0 64)) 64)), wrap64 (128 + (Int.tmod a0 64))] : List Int))) else (some (([wrap64 (240 + (wrap64 (Int.tdiv a0 262144))), wrap64 (128 + (Int.tmod (wrap64 (Int.tdiv a0 4096)) 64)), wrap64 (128 + (Int.tmod (wrap64 (Int.tdiv a0 64)) 64)), wrap64 (128 + (Int.tmod a0 64))] : List Int)))))) = some r := by rw [if_pos rfl] at H; exact H
  clear H
  have H := H1
  clear H1
  by_cases c4 : a0 < 128
  · rw [if_pos c4] at H
    have c4b0 : decide (a0 < 128) = true := decide_eq_true c4
    clear c4
    obtain ⟨y249, hy249⟩ : ∃ y_ : List Int, y_ = (([a0] : List Int)) := ⟨_, rfl⟩
    replace H : (some y249) = some r := by first | (rw [hy249]; with_reducible exact H) | (have H2_ := (Option.bind_some _ _).symm.trans H; rw [hy249]; with_reducible exact H2_) | (have H2_ := (Option.bind_some _ _).symm.trans H; with_reducible exact H2_) | with_reducible exact H | (rw [hy249]; exact H) | exact H
    have Ny249 := Aside0.mk hy249
    clear hy249
    obtain rfl := Option.some.inj H
    go_enter Try.func65, Try.ntmps65
    go_wp2_with (first | ((with_reducible refine gate_callee (f := 74) rfl ?_); refine goesL_ (some 4) rfl rfl Try.func74 (by kernel_rfl) rfl #[.int .i64 a0] rfl z99_ ?_; (with_reducible refine (regletref02_IsRune.calls a0 true _ A2.out).mono ?_); rintro e w' ⟨rfl, ⟨nd, rfl⟩⟩; refine ⟨_, rfl, ?_⟩) | ((with_reducible refine gate_dst (N := 9) rfl ?_); refine Kd.R_lit (Kd.int .i64) _ 3 ?hg (N := 9) ?hd (xs := ([a0] : List Int)) (inner := [.int .i64 a0]) (ok := fun _ => True) (okp := fun _ => True) ?hr ?hp (fun _ hk => hk) trivial (Below.refl _ _) (Nat.le_refl _) (by simp) ?_; (case hd => rfl); (case hg => rfl); (case hr => exact z181_); (case hp => exact (Reps.one (show Kd.M (Kd.int .i64) _ _ _ a0 [.int .i64 a0] from rfl) (Reps.none _ _))); intro v250 w5 ho6 hb hg_ hnew_; clear hg_ hnew_; (first | rw [← Ny249.out] at ho6 | (simp only [Int.reduceToNat] at ho6; rw [← Ny249.out] at ho6)); have HO251 := Aside0.mk (Kd.R_lower ho6 (below_size z103_)); replace HB := Aside0.mk (below_step z103_ hb); clear hb ho6))
    go_ret
    exact ⟨_, z155_, y161_ HO251.out, z103_⟩
  rw [if_neg c4] at H
  have c4b0 : decide (a0 < 128) = false := decide_eq_false c4
  clear c4
  by_cases c7 : a0 < 2048
  · rw [if_pos c7] at H
    have c7b0 : decide (a0 < 2048) = true := decide_eq_true c7
    clear c7
    obtain ⟨y252, hy252⟩ : ∃ y_ : List Int, y_ = (([wrap64 (192 + (wrap64 (Int.tdiv a0 64))), wrap64 (128 + (Int.tmod a0 64))] : List Int)) := ⟨_, rfl⟩
    replace H : (some y252) = some r := by first | (rw [hy252]; with_reducible exact H) | (have H2_ := (Option.bind_some _ _).symm.trans H; rw [hy252]; with_reducible exact H2_) | (have H2_ := (Option.bind_some _ _).symm.trans H; with_reducible exact H2_) | with_reducible exact H | (rw [hy252]; exact H) | exact H
    have Ny252 := Aside0.mk hy252
    clear hy252
    obtain rfl := Option.some.inj H
    go_enter Try.func65, Try.ntmps65
    go_wp2_with (first | ((with_reducible refine gate_callee (f := 74) rfl ?_); refine goesL_ (some 4) rfl rfl Try.func74 (by kernel_rfl) rfl #[.int .i64 a0] rfl z99_ ?_; (with_reducible refine (regletref02_IsRune.calls a0 true _ A2.out).mono ?_); rintro e w' ⟨rfl, ⟨nd, rfl⟩⟩; refine ⟨_, rfl, ?_⟩) | ((with_reducible refine gate_dst (N := 18) rfl ?_); refine Kd.R_lit (Kd.int .i64) _ 3 ?hg (N := 18) ?hd (xs := ([wrap64 (192 + (wrap64 (Int.tdiv a0 64))), wrap64 (128 + (Int.tmod a0 64))] : List Int)) (inner := [.int .i64 (wrap64 (192 + (wrap64 (Int.tdiv a0 64)))), .int .i64 (wrap64 (128 + (Int.tmod a0 64)))]) (ok := fun _ => True) (okp := fun _ => True) ?hr ?hp (fun _ hk => hk) trivial (Below.refl _ _) (Nat.le_refl _) (by simp) ?_; (case hd => rfl); (case hg => rfl); (case hr => exact z181_); (case hp => exact (Reps.one (show Kd.M (Kd.int .i64) _ _ _ (wrap64 (192 + (wrap64 (Int.tdiv a0 64)))) [.int .i64 (wrap64 (192 + (wrap64 (Int.tdiv a0 64))))] from rfl) (Reps.one (show Kd.M (Kd.int .i64) _ _ _ (wrap64 (128 + (Int.tmod a0 64))) [.int .i64 (wrap64 (128 + (Int.tmod a0 64)))] from rfl) (Reps.none _ _)))); intro v253 w8 ho9 hb hg_ hnew_; clear hg_ hnew_; (first | rw [← Ny252.out] at ho9 | (simp only [Int.reduceToNat] at ho9; rw [← Ny252.out] at ho9)); have HO254 := Aside0.mk (Kd.R_lower ho9 (below_size z103_)); replace HB := Aside0.mk (below_step z103_ hb); clear hb ho9))
    go_ret
    exact ⟨_, z155_, y161_ HO254.out, z103_⟩
  rw [if_neg c7] at H
  have c7b0 : decide (a0 < 2048) = false := decide_eq_false c7
  clear c7
  by_cases c10 : a0 < 65536
  rotate_left
  · rw [if_neg c10] at H
    have c10b0 : decide (a0 < 65536) = false := decide_eq_false c10
    clear c10
    obtain ⟨y258, hy258⟩ : ∃ y_ : List Int, y_ = (([wrap64 (240 + (wrap64 (Int.tdiv a0 262144))), wrap64 (128 + (Int.tmod (wrap64 (Int.tdiv a0 4096)) 64)), wrap64 (128 + (Int.tmod (wrap64 (Int.tdiv a0 64)) 64)), wrap64 (128 + (Int.tmod a0 64))] : List Int)) := ⟨_, rfl⟩
    replace H : (some y258) = some r := by first | (rw [hy258]; with_reducible exact H) | (have H2_ := (Option.bind_some _ _).symm.trans H; rw [hy258]; with_reducible exact H2_) | (have H2_ := (Option.bind_some _ _).symm.trans H; with_reducible exact H2_) | with_reducible exact H | (rw [hy258]; exact H) | exact H
    have Ny258 := Aside0.mk hy258
    clear hy258
    obtain rfl := Option.some.inj H
    go_enter Try.func65, Try.ntmps65
    go_wp2_with (first | ((with_reducible refine gate_callee (f := 74) rfl ?_); refine goesL_ (some 4) rfl rfl Try.func74 (by kernel_rfl) rfl #[.int .i64 a0] rfl z99_ ?_; (with_reducible refine (regletref02_IsRune.calls a0 true _ A2.out).mono ?_); rintro e w' ⟨rfl, ⟨nd, rfl⟩⟩; refine ⟨_, rfl, ?_⟩) | ((with_reducible refine gate_dst (N := 46) rfl ?_); refine Kd.R_lit (Kd.int .i64) _ 3 ?hg (N := 46) ?hd (xs := ([wrap64 (240 + (wrap64 (Int.tdiv a0 262144))), wrap64 (128 + (Int.tmod (wrap64 (Int.tdiv a0 4096)) 64)), wrap64 (128 + (Int.tmod (wrap64 (Int.tdiv a0 64)) 64)), wrap64 (128 + (Int.tmod a0 64))] : List Int)) (inner := [.int .i64 (wrap64 (240 + (wrap64 (Int.tdiv a0 262144)))), .int .i64 (wrap64 (128 + (Int.tmod (wrap64 (Int.tdiv a0 4096)) 64))), .int .i64 (wrap64 (128 + (Int.tmod (wrap64 (Int.tdiv a0 64)) 64))), .int .i64 (wrap64 (128 + (Int.tmod a0 64)))]) (ok := fun _ => True) (okp := fun _ => True) ?hr ?hp (fun _ hk => hk) trivial (Below.refl _ _) (Nat.le_refl _) (by simp) ?_; (case hd => rfl); (case hg => rfl); (case hr => exact z181_); (case hp => exact (Reps.one (show Kd.M (Kd.int .i64) _ _ _ (wrap64 (240 + (wrap64 (Int.tdiv a0 262144)))) [.int .i64 (wrap64 (240 + (wrap64 (Int.tdiv a0 262144))))] from rfl) (Reps.one (show Kd.M (Kd.int .i64) _ _ _ (wrap64 (128 + (Int.tmod (wrap64 (Int.tdiv a0 4096)) 64))) [.int .i64 (wrap64 (128 + (Int.tmod (wrap64 (Int.tdiv a0 4096)) 64)))] from rfl) (Reps.one (show Kd.M (Kd.int .i64) _ _ _ (wrap64 (128 + (Int.tmod (wrap64 (Int.tdiv a0 64)) 64))) [.int .i64 (wrap64 (128 + (Int.tmod (wrap64 (Int.tdiv a0 64)) 64)))] from rfl) (Reps.one (show Kd.M (Kd.int .i64) _ _ _ (wrap64 (128 + (Int.tmod a0 64))) [.int .i64 (wrap64 (128 + (Int.tmod a0 64)))] from rfl) (Reps.none _ _)))))); intro v259 w13 ho14 hb hg_ hnew_; clear hg_ hnew_; (first | rw [← Ny258.out] at ho14 | (simp only [Int.reduceToNat] at ho14; rw [← Ny258.out] at ho14)); have HO260 := Aside0.mk (Kd.R_lower ho14 (below_size z103_)); replace HB := Aside0.mk (below_step z103_ hb); clear hb ho14))
    go_ret
    exact ⟨_, z155_, y161_ HO260.out, z103_⟩
  rw [if_pos c10] at H
  have c10b0 : decide (a0 < 65536) = true := decide_eq_true c10
  clear c10
  obtain ⟨y255, hy255⟩ : ∃ y_ : List Int, y_ = (([wrap64 (224 + (wrap64 (Int.tdiv a0 4096))), wrap64 (128 + (Int.tmod (wrap64 (Int.tdiv a0 64)) 64)), wrap64 (128 + (Int.tmod a0 64))] : List Int)) := ⟨_, rfl⟩
  replace H : (some y255) = some r := by first | (rw [hy255]; with_reducible exact H) | (have H2_ := (Option.bind_some _ _).symm.trans H; rw [hy255]; with_reducible exact H2_) | (have H2_ := (Option.bind_some _ _).symm.trans H; with_reducible exact H2_) | with_reducible exact H | (rw [hy255]; exact H) | exact H
  have Ny255 := Aside0.mk hy255
  clear hy255
  obtain rfl := Option.some.inj H
  go_enter Try.func65, Try.ntmps65
  go_wp2_with (first | ((with_reducible refine gate_callee (f := 74) rfl ?_); refine goesL_ (some 4) rfl rfl Try.func74 (by kernel_rfl) rfl #[.int .i64 a0] rfl z99_ ?_; (with_reducible refine (regletref02_IsRune.calls a0 true _ A2.out).mono ?_); rintro e w' ⟨rfl, ⟨nd, rfl⟩⟩; refine ⟨_, rfl, ?_⟩) | ((with_reducible refine gate_dst (N := 31) rfl ?_); refine Kd.R_lit (Kd.int .i64) _ 3 ?hg (N := 31) ?hd (xs := ([wrap64 (224 + (wrap64 (Int.tdiv a0 4096))), wrap64 (128 + (Int.tmod (wrap64 (Int.tdiv a0 64)) 64)), wrap64 (128 + (Int.tmod a0 64))] : List Int)) (inner := [.int .i64 (wrap64 (224 + (wrap64 (Int.tdiv a0 4096)))), .int .i64 (wrap64 (128 + (Int.tmod (wrap64 (Int.tdiv a0 64)) 64))), .int .i64 (wrap64 (128 + (Int.tmod a0 64)))]) (ok := fun _ => True) (okp := fun _ => True) ?hr ?hp (fun _ hk => hk) trivial (Below.refl _ _) (Nat.le_refl _) (by simp) ?_; (case hd => rfl); (case hg => rfl); (case hr => exact z181_); (case hp => exact (Reps.one (show Kd.M (Kd.int .i64) _ _ _ (wrap64 (224 + (wrap64 (Int.tdiv a0 4096)))) [.int .i64 (wrap64 (224 + (wrap64 (Int.tdiv a0 4096))))] from rfl) (Reps.one (show Kd.M (Kd.int .i64) _ _ _ (wrap64 (128 + (Int.tmod (wrap64 (Int.tdiv a0 64)) 64))) [.int .i64 (wrap64 (128 + (Int.tmod (wrap64 (Int.tdiv a0 64)) 64)))] from rfl) (Reps.one (show Kd.M (Kd.int .i64) _ _ _ (wrap64 (128 + (Int.tmod a0 64))) [.int .i64 (wrap64 (128 + (Int.tmod a0 64)))] from rfl) (Reps.none _ _))))); intro v256 w11 ho12 hb hg_ hnew_; clear hg_ hnew_; (first | rw [← Ny255.out] at ho12 | (simp only [Int.reduceToNat] at ho12; rw [← Ny255.out] at ho12)); have HO257 := Aside0.mk (Kd.R_lower ho12 (below_size z103_)); replace HB := Aside0.mk (below_step z103_ hb); clear hb ho12))
  go_ret
  exact ⟨_, z155_, y161_ HO257.out, z103_⟩
end Go.Proofs.Ytiabffkfabmlpaa.PLocateBack
