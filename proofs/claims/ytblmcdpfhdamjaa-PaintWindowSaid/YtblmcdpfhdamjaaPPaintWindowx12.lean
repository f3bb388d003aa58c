-- WRITTEN BY wip/xprint.py of this repo, over the kit's print; functions the print does not take are by hand
import Derived.Test.YtblmcdpfhdamjaaPPaintWindowx0
import Derived.Test.YtblmcdpfhdamjaaPPaintWindowx7
import Derived.Test.YtblmcdpfhdamjaaPPaintWindowx8
import Derived.Test.YtblmcdpfhdamjaaPPaintWindowx9
import Derived.Test.YtblmcdpfhdamjaaPPaintWindowx10
import Derived.Test.YtblmcdpfhdamjaaPPaintWindowx11
namespace Go.Proofs.Ytblmcdpfhdamjaa.PPaintWindow
open Go.RowKit Go.Proofs.YtblmcdpfhdamjaaW.PrintWords Go.Proofs.YtblmcdpfhdamjaaW.PrintLast Go.Proofs.YtblmcdpfhdamjaaW.PrintMore
attribute [local go_sem] max2_int min2_int max_two min_two max_three min_three max_four min_four   -- for this text's walks alone
set_option linter.unusedVariables false
set_option linter.unusedSimpArgs false
/-! ### locate_space: function 74 -/
def locate_space.f (k : Nat) (l0 : List (S124)) (a1_0 : ByteArray) (l1_1 : List (S89)) (a1_2 : Int) (a1_3 : Int) (a1_4 : Int) (a1_5 : Bool) (a1_6 : Int) (a1_7 : Bool) (a1_8 : Bool) (a2 : Int) : Option (Int) := (metrics_Table_Space.f l0 a2).bind fun bt214 => (if a1_2 > 0 then ((scaled_Scale.f k bt214.2.1 a1_2 a1_3).bind fun t217 => (some (wrap64 (bt214.1 + t217)))) else (if a1_2 < 0 then ((scaled_Scale.f k bt214.2.2 a1_2 a1_3).bind fun t218 => (some (wrap64 (bt214.1 + t218)))) else (some bt214.1)))
theorem locate_space.mono : ∀ a0 a1 a2 a3 a4 a5 a6 a7 a8 a9 a10 k, LeO (locate_space.f k a0 a1 a2 a3 a4 a5 a6 a7 a8 a9 a10) (locate_space.f (k + 1) a0 a1 a2 a3 a4 a5 a6 a7 a8 a9 a10) := by
  intro a0 a1 a2 a3 a4 a5 a6 a7 a8 a9 a10 k
  unfold locate_space.f
  repeat' first | (with_reducible first | exact scaled_Scale.mono _ _ _ _ | exact LeO.refl _ | exact LeO.none _ | refine LeO.ite ?_ ?_ | refine LeO.bind ?_ (fun _ => ?_)) | exact scaled_Scale.mono _ _ _ _ | exact LeO.none _ | refine LeO.ite ?_ ?_ | refine LeO.bind ?_ (fun _ => ?_)
set_option maxHeartbeats 8000000 in
set_option maxRecDepth 100000 in
theorem locate_space.calls (k : Nat) (A0 : Option Addr) (c0 : Nat) (l0 : List (S124)) (a1_0 : ByteArray) (A1_1 : Option Addr) (c1_1 : Nat) (l1_1 : List (S89)) (a1_2 : Int) (a1_3 : Int) (a1_4 : Int) (a1_5 : Bool) (a1_6 : Int) (a1_7 : Bool) (a1_8 : Bool) (a2 : Int) (r : Int) (w : World) (hr0 : Kd.C k124 w A0 l0.length l0) (hc0 : l0.length ≤ c0) (hr1_1 : Kd.C k89 w A1_1 l1_1.length l1_1) (hc1_1 : l1_1.length ≤ c1_1) (h : locate_space.f k l0 a1_0 l1_1 a1_2 a1_3 a1_4 a1_5 a1_6 a1_7 a1_8 a2 = some r) :
    Calls Try.prog 74 #[.pointer A0, .agg #[.string a1_0, .slice A1_1 l1_1.length c1_1, .int .i64 a1_2, .int .i64 a1_3, .int .i64 a1_4, .bool a1_5, .int .i64 a1_6, .bool a1_7, .bool a1_8], .int .i64 a2] w fun e w' => e = .returned (.int .i64 r) ∧ Below w.heap.size w w' := by
  have hu25 := Try.underlying25
  have HR0 := Aside0.mk hr0
  have HC0 := Aside0.mk hc0
  clear hr0 hc0
  have HR1_1 := Aside0.mk hr1_1
  have HC1_1 := Aside0.mk hc1_1
  clear hr1_1 hc1_1
  have HB := Aside0.mk (Below.refl w.heap.size w)
  have H : ((metrics_Table_Space.f l0 a2).bind fun bt214 => (if a1_2 > 0 then ((scaled_Scale.f k bt214.2.1 a1_2 a1_3).bind fun t217 => (some (wrap64 (bt214.1 + t217)))) else (if a1_2 < 0 then ((scaled_Scale.f k bt214.2.2 a1_2 a1_3).bind fun t218 => (some (wrap64 (bt214.1 + t218)))) else (some bt214.1)))) = some r := h
  clear h
  replace H := Option.bind_eq_some_iff.mp H
  obtain ⟨⟨t214, t215, t216⟩, A40, H⟩ := H
  replace H : (if a1_2 > 0 then ((scaled_Scale.f k t215 a1_2 a1_3).bind fun t217 => (some (wrap64 (t214 + t217)))) else (if a1_2 < 0 then ((scaled_Scale.f k t216 a1_2 a1_3).bind fun t218 => (some (wrap64 (t214 + t218)))) else (some t214))) = some r := H
  have A4 := Aside0.mk A40
  clear A40
  by_cases c5 : a1_2 > 0
  · rw [if_pos c5] at H
    have c5b0 : decide (0 < a1_2) = true := decide_eq_true c5
    clear c5
    replace H := Option.bind_eq_some_iff.mp H
    obtain ⟨t217, A60, H⟩ := H
    replace H : (some (wrap64 (t214 + t217))) = some r := H
    have A6 := Aside0.mk A60
    clear A60
    obtain rfl := Option.some.inj H
    go_enter Try.func74, Try.ntmps74
    go_wp2_with (first | ((with_reducible refine gate_dst (N := 4) rfl ?_); refine box_event ?hg (N := 4) ?hd (cs := #[.string a1_0, .slice A1_1 l1_1.length c1_1, .int .i64 a1_2, .int .i64 a1_3, .int .i64 a1_4, .bool a1_5, .int .i64 a1_6, .bool a1_7, .bool a1_8]) (t := 25) ?hr ?_; (case hd => rfl); (case hg => rfl); (case hr => exact z209_); intro gb213 hg w7 hbox hb; have BK213 := Aside0.mk (hbox); have GW213 := Aside0.mk ((z85_ : w.heap.size ≤ gb213)); have GE213 := Aside0.mk ((z85_ : w.heap.size ≤ gb213)); replace HB := Aside0.mk (below_step z117_ hb); clear hb hbox hg) | ((with_reducible refine gate_callee (f := 91) rfl ?_); refine goesL_ (some 13) rfl rfl Try.func91 (by kernel_rfl) rfl #[.pointer A0, .int .i64 a2] rfl z113_ ?_; (with_reducible refine (metrics_Table_Space.calls _ c0 l0 a2 t214 t215 t216 _ ?side1 ?side2 A4.out).mono ?_); (case side1 => exact z79_); (case side2 => exact HC0.out); rintro e w8 ⟨rfl, hb⟩; refine ⟨_, rfl, ?_⟩; replace BK213 := Aside0.mk (blk_below (g := gb213) (o := .cells #[.string a1_0, .slice A1_1 l1_1.length c1_1, .int .i64 a1_2, .int .i64 a1_3, .int .i64 a1_4, .bool a1_5, .int .i64 a1_6, .bool a1_7, .bool a1_8] 25 (0, 0)) z139_ hb); replace HB := Aside0.mk (below_step z95_ hb); (try clear hb); (try clear hb2); (try clear hk); (try clear hi); have hcz9_0 : w8.cell? ⟨gb213, 0, none⟩ = some (.string a1_0) := (blk_cell BK213.out 0).trans rfl; have hcz9_1 : w8.cell? ⟨gb213, 1, none⟩ = some (.slice A1_1 l1_1.length c1_1) := (blk_cell BK213.out 1).trans rfl; have hcz9_2 : w8.cell? ⟨gb213, 2, none⟩ = some (.int .i64 a1_2) := (blk_cell BK213.out 2).trans rfl; have hcz9_3 : w8.cell? ⟨gb213, 3, none⟩ = some (.int .i64 a1_3) := (blk_cell BK213.out 3).trans rfl; have hcz9_4 : w8.cell? ⟨gb213, 4, none⟩ = some (.int .i64 a1_4) := (blk_cell BK213.out 4).trans rfl; have hcz9_5 : w8.cell? ⟨gb213, 5, none⟩ = some (.bool a1_5) := (blk_cell BK213.out 5).trans rfl; have hcz9_6 : w8.cell? ⟨gb213, 6, none⟩ = some (.int .i64 a1_6) := (blk_cell BK213.out 6).trans rfl; have hcz9_7 : w8.cell? ⟨gb213, 7, none⟩ = some (.bool a1_7) := (blk_cell BK213.out 7).trans rfl; have hcz9_8 : w8.cell? ⟨gb213, 8, none⟩ = some (.bool a1_8) := (blk_cell BK213.out 8).trans rfl; have hfz9_0 := blk_frozen BK213.out 0; have hfz9_1 := blk_frozen BK213.out 1; have hfz9_2 := blk_frozen BK213.out 2; have hfz9_3 := blk_frozen BK213.out 3; have hfz9_4 := blk_frozen BK213.out 4; have hfz9_5 := blk_frozen BK213.out 5; have hfz9_6 := blk_frozen BK213.out 6; have hfz9_7 := blk_frozen BK213.out 7; have hfz9_8 := blk_frozen BK213.out 8) | ((with_reducible refine gate_callee (f := 92) rfl ?_); refine goesL_ (some 27) rfl rfl Try.func92 (by kernel_rfl) rfl #[.int .i64 t215, .int .i64 a1_2, .int .i64 a1_3] rfl z113_ ?_; (with_reducible refine (scaled_Scale.calls k t215 a1_2 a1_3 t217 _ A6.out).mono ?_); rintro e w10 ⟨rfl, hb⟩; refine ⟨_, rfl, ?_⟩; replace BK213 := Aside0.mk (blk_below (g := gb213) (o := .cells #[.string a1_0, .slice A1_1 l1_1.length c1_1, .int .i64 a1_2, .int .i64 a1_3, .int .i64 a1_4, .bool a1_5, .int .i64 a1_6, .bool a1_7, .bool a1_8] 25 (0, 0)) z139_ hb); replace HB := Aside0.mk (below_step z95_ hb); (try clear hb); (try clear hb2); (try clear hk); (try clear hi)))
    go_ret
    exact ⟨z178_, z95_⟩
  rw [if_neg c5] at H
  have c5b0 : decide (0 < a1_2) = false := decide_eq_false c5
  clear c5
  by_cases c11 : a1_2 < 0
  rotate_left
  · rw [if_neg c11] at H
    have c11b0 : decide (a1_2 < 0) = false := decide_eq_false c11
    clear c11
    obtain rfl := Option.some.inj H
    go_enter Try.func74, Try.ntmps74
    go_wp2_with (first | ((with_reducible refine gate_dst (N := 4) rfl ?_); refine box_event ?hg (N := 4) ?hd (cs := #[.string a1_0, .slice A1_1 l1_1.length c1_1, .int .i64 a1_2, .int .i64 a1_3, .int .i64 a1_4, .bool a1_5, .int .i64 a1_6, .bool a1_7, .bool a1_8]) (t := 25) ?hr ?_; (case hd => rfl); (case hg => rfl); (case hr => exact z209_); intro gb213 hg w17 hbox hb; have BK213 := Aside0.mk (hbox); have GW213 := Aside0.mk ((z85_ : w.heap.size ≤ gb213)); have GE213 := Aside0.mk ((z85_ : w.heap.size ≤ gb213)); replace HB := Aside0.mk (below_step z117_ hb); clear hb hbox hg) | ((with_reducible refine gate_callee (f := 91) rfl ?_); refine goesL_ (some 13) rfl rfl Try.func91 (by kernel_rfl) rfl #[.pointer A0, .int .i64 a2] rfl z113_ ?_; (with_reducible refine (metrics_Table_Space.calls _ c0 l0 a2 t214 t215 t216 _ ?side1 ?side2 A4.out).mono ?_); (case side1 => exact z79_); (case side2 => exact HC0.out); rintro e w18 ⟨rfl, hb⟩; refine ⟨_, rfl, ?_⟩; replace BK213 := Aside0.mk (blk_below (g := gb213) (o := .cells #[.string a1_0, .slice A1_1 l1_1.length c1_1, .int .i64 a1_2, .int .i64 a1_3, .int .i64 a1_4, .bool a1_5, .int .i64 a1_6, .bool a1_7, .bool a1_8] 25 (0, 0)) z139_ hb); replace HB := Aside0.mk (below_step z95_ hb); (try clear hb); (try clear hb2); (try clear hk); (try clear hi); have hcz19_0 : w18.cell? ⟨gb213, 0, none⟩ = some (.string a1_0) := (blk_cell BK213.out 0).trans rfl; have hcz19_1 : w18.cell? ⟨gb213, 1, none⟩ = some (.slice A1_1 l1_1.length c1_1) := (blk_cell BK213.out 1).trans rfl; have hcz19_2 : w18.cell? ⟨gb213, 2, none⟩ = some (.int .i64 a1_2) := (blk_cell BK213.out 2).trans rfl; have hcz19_3 : w18.cell? ⟨gb213, 3, none⟩ = some (.int .i64 a1_3) := (blk_cell BK213.out 3).trans rfl; have hcz19_4 : w18.cell? ⟨gb213, 4, none⟩ = some (.int .i64 a1_4) := (blk_cell BK213.out 4).trans rfl; have hcz19_5 : w18.cell? ⟨gb213, 5, none⟩ = some (.bool a1_5) := (blk_cell BK213.out 5).trans rfl; have hcz19_6 : w18.cell? ⟨gb213, 6, none⟩ = some (.int .i64 a1_6) := (blk_cell BK213.out 6).trans rfl; have hcz19_7 : w18.cell? ⟨gb213, 7, none⟩ = some (.bool a1_7) := (blk_cell BK213.out 7).trans rfl; have hcz19_8 : w18.cell? ⟨gb213, 8, none⟩ = some (.bool a1_8) := (blk_cell BK213.out 8).trans rfl; have hfz19_0 := blk_frozen BK213.out 0; have hfz19_1 := blk_frozen BK213.out 1; have hfz19_2 := blk_frozen BK213.out 2; have hfz19_3 := blk_frozen BK213.out 3; have hfz19_4 := blk_frozen BK213.out 4; have hfz19_5 := blk_frozen BK213.out 5; have hfz19_6 := blk_frozen BK213.out 6; have hfz19_7 := blk_frozen BK213.out 7; have hfz19_8 := blk_frozen BK213.out 8))
    go_ret
    exact ⟨z178_, z95_⟩
  rw [if_pos c11] at H
  have c11b0 : decide (a1_2 < 0) = true := decide_eq_true c11
  clear c11
  replace H := Option.bind_eq_some_iff.mp H
  obtain ⟨t218, A120, H⟩ := H
  replace H : (some (wrap64 (t214 + t218))) = some r := H
  have A12 := Aside0.mk A120
  clear A120
  obtain rfl := Option.some.inj H
  go_enter Try.func74, Try.ntmps74
  go_wp2_with (first | ((with_reducible refine gate_dst (N := 4) rfl ?_); refine box_event ?hg (N := 4) ?hd (cs := #[.string a1_0, .slice A1_1 l1_1.length c1_1, .int .i64 a1_2, .int .i64 a1_3, .int .i64 a1_4, .bool a1_5, .int .i64 a1_6, .bool a1_7, .bool a1_8]) (t := 25) ?hr ?_; (case hd => rfl); (case hg => rfl); (case hr => exact z209_); intro gb213 hg w13 hbox hb; have BK213 := Aside0.mk (hbox); have GW213 := Aside0.mk ((z85_ : w.heap.size ≤ gb213)); have GE213 := Aside0.mk ((z85_ : w.heap.size ≤ gb213)); replace HB := Aside0.mk (below_step z117_ hb); clear hb hbox hg) | ((with_reducible refine gate_callee (f := 91) rfl ?_); refine goesL_ (some 13) rfl rfl Try.func91 (by kernel_rfl) rfl #[.pointer A0, .int .i64 a2] rfl z113_ ?_; (with_reducible refine (metrics_Table_Space.calls _ c0 l0 a2 t214 t215 t216 _ ?side1 ?side2 A4.out).mono ?_); (case side1 => exact z79_); (case side2 => exact HC0.out); rintro e w14 ⟨rfl, hb⟩; refine ⟨_, rfl, ?_⟩; replace BK213 := Aside0.mk (blk_below (g := gb213) (o := .cells #[.string a1_0, .slice A1_1 l1_1.length c1_1, .int .i64 a1_2, .int .i64 a1_3, .int .i64 a1_4, .bool a1_5, .int .i64 a1_6, .bool a1_7, .bool a1_8] 25 (0, 0)) z139_ hb); replace HB := Aside0.mk (below_step z95_ hb); (try clear hb); (try clear hb2); (try clear hk); (try clear hi); have hcz15_0 : w14.cell? ⟨gb213, 0, none⟩ = some (.string a1_0) := (blk_cell BK213.out 0).trans rfl; have hcz15_1 : w14.cell? ⟨gb213, 1, none⟩ = some (.slice A1_1 l1_1.length c1_1) := (blk_cell BK213.out 1).trans rfl; have hcz15_2 : w14.cell? ⟨gb213, 2, none⟩ = some (.int .i64 a1_2) := (blk_cell BK213.out 2).trans rfl; have hcz15_3 : w14.cell? ⟨gb213, 3, none⟩ = some (.int .i64 a1_3) := (blk_cell BK213.out 3).trans rfl; have hcz15_4 : w14.cell? ⟨gb213, 4, none⟩ = some (.int .i64 a1_4) := (blk_cell BK213.out 4).trans rfl; have hcz15_5 : w14.cell? ⟨gb213, 5, none⟩ = some (.bool a1_5) := (blk_cell BK213.out 5).trans rfl; have hcz15_6 : w14.cell? ⟨gb213, 6, none⟩ = some (.int .i64 a1_6) := (blk_cell BK213.out 6).trans rfl; have hcz15_7 : w14.cell? ⟨gb213, 7, none⟩ = some (.bool a1_7) := (blk_cell BK213.out 7).trans rfl; have hcz15_8 : w14.cell? ⟨gb213, 8, none⟩ = some (.bool a1_8) := (blk_cell BK213.out 8).trans rfl; have hfz15_0 := blk_frozen BK213.out 0; have hfz15_1 := blk_frozen BK213.out 1; have hfz15_2 := blk_frozen BK213.out 2; have hfz15_3 := blk_frozen BK213.out 3; have hfz15_4 := blk_frozen BK213.out 4; have hfz15_5 := blk_frozen BK213.out 5; have hfz15_6 := blk_frozen BK213.out 6; have hfz15_7 := blk_frozen BK213.out 7; have hfz15_8 := blk_frozen BK213.out 8) | ((with_reducible refine gate_callee (f := 92) rfl ?_); refine goesL_ (some 39) rfl rfl Try.func92 (by kernel_rfl) rfl #[.int .i64 t216, .int .i64 a1_2, .int .i64 a1_3] rfl z113_ ?_; (with_reducible refine (scaled_Scale.calls k t216 a1_2 a1_3 t218 _ A12.out).mono ?_); rintro e w16 ⟨rfl, hb⟩; refine ⟨_, rfl, ?_⟩; replace BK213 := Aside0.mk (blk_below (g := gb213) (o := .cells #[.string a1_0, .slice A1_1 l1_1.length c1_1, .int .i64 a1_2, .int .i64 a1_3, .int .i64 a1_4, .bool a1_5, .int .i64 a1_6, .bool a1_7, .bool a1_8] 25 (0, 0)) z139_ hb); replace HB := Aside0.mk (below_step z95_ hb); (try clear hb); (try clear hb2); (try clear hk); (try clear hi)))
  go_ret
  exact ⟨z178_, z95_⟩
/-! ### locate_Stops: function 41 -/
def locate_Stops.l0 : Nat → List (S124) → List (S99) → Int → Int → ByteArray → List (S89) → Int → Int → Int → Bool → Int → Bool → Bool → ByteArray → Int → Option ((List (S99)))
  | 0, _, _, _, _, _, _, _, _, _, _, _, _, _, _, _ => none
  | k + 1, x0, x5, x6, x7, x220000, x220001, x220002, x220003, x220004, x220005, x220006, x220007, x220008, x222000, x222001 => if (x222001 : Int).toNat < x222000.size then (if x5.length < 8796093022208 then ((some (x5 ++ [(⟨itP_ x222001, x6⟩ : S99)] : List (S99))).bind fun y222 => ((locate_styleAt.f k x220001 (itP_ x222001)).bind fun t225 => ((runes_Kind.f k (itR_ x222000 x222001)).bind fun t226 => (if t226 = 1 then (if (itP_ x222001) < x7 then ((locate_space.f k x0 x220000 x220001 x220002 x220003 x220004 x220005 x220006 x220007 x220008 t225).bind fun t227 => ((scaled_Add.f x6 t227).bind fun t228 => (locate_Stops.l0 k x0 y222 t228 x7 x220000 x220001 x220002 x220003 x220004 x220005 x220006 x220007 x220008 x222000 (itN_ x222000 x222001)))) else (locate_Stops.l0 k x0 y222 x6 x7 x220000 x220001 x220002 x220003 x220004 x220005 x220006 x220007 x220008 x222000 (itN_ x222000 x222001))) else ((metrics_Table_Width.f k x0 t225 (itR_ x222000 x222001)).bind fun t229 => ((scaled_Add.f x6 t229).bind fun t230 => (locate_Stops.l0 k x0 y222 t230 x7 x220000 x220001 x220002 x220003 x220004 x220005 x220006 x220007 x220008 x222000 (itN_ x222000 x222001)))))))) else (none)) else (if x5.length < 8796093022208 then (some (x5 ++ [(⟨(x220000.size : Int), x6⟩ : S99)])) else (none))
def locate_Stops.f (k : Nat) (l0 : List (S124)) (a1_0 : ByteArray) (l1_1 : List (S89)) (a1_2 : Int) (a1_3 : Int) (a1_4 : Int) (a1_5 : Bool) (a1_6 : Int) (a1_7 : Bool) (a1_8 : Bool) : Option ((List (S99))) := (locate_shown.f k a1_0).bind fun t220 => (locate_Stops.l0 k l0 ([] : List (S99)) 0 t220 a1_0 l1_1 a1_2 a1_3 a1_4 a1_5 a1_6 a1_7 a1_8 a1_0 0)
theorem locate_Stops.mono_l : ∀ k, (∀ y0 y1 y2 y3 y4 y5 y6 y7 y8 y9 y10 y11 y12 y13 y14, LeO (locate_Stops.l0 k y0 y1 y2 y3 y4 y5 y6 y7 y8 y9 y10 y11 y12 y13 y14) (locate_Stops.l0 (k + 1) y0 y1 y2 y3 y4 y5 y6 y7 y8 y9 y10 y11 y12 y13 y14))
  | 0 => fun _ _ _ _ _ _ _ _ _ _ _ _ _ _ _ r h => by simp [locate_Stops.l0] at h
  | k + 1 => by
    have ih0 := locate_Stops.mono_l k
    · intro y0 y1 y2 y3 y4 y5 y6 y7 y8 y9 y10 y11 y12 y13 y14
      unfold locate_Stops.l0
      repeat' first | (with_reducible first | exact ih0 _ _ _ _ _ _ _ _ _ _ _ _ _ _ _ | exact locate_shown.mono _ _ | exact locate_space.mono _ _ _ _ _ _ _ _ _ _ _ _ | exact locate_styleAt.mono _ _ _ | exact metrics_Table_Width.mono _ _ _ _ | exact runes_Kind.mono _ _ | exact LeO.refl _ | exact LeO.none _ | refine LeO.ite ?_ ?_ | refine LeO.bind ?_ (fun _ => ?_)) | exact ih0 _ _ _ _ _ _ _ _ _ _ _ _ _ _ _ | exact locate_shown.mono _ _ | exact locate_space.mono _ _ _ _ _ _ _ _ _ _ _ _ | exact locate_styleAt.mono _ _ _ | exact metrics_Table_Width.mono _ _ _ _ | exact runes_Kind.mono _ _ | exact LeO.none _ | refine LeO.ite ?_ ?_ | refine LeO.bind ?_ (fun _ => ?_)
theorem locate_Stops.mono : ∀ a0 a1 a2 a3 a4 a5 a6 a7 a8 a9 k, LeO (locate_Stops.f k a0 a1 a2 a3 a4 a5 a6 a7 a8 a9) (locate_Stops.f (k + 1) a0 a1 a2 a3 a4 a5 a6 a7 a8 a9) := by
  intro a0 a1 a2 a3 a4 a5 a6 a7 a8 a9 k
  have ih0 := locate_Stops.mono_l k
  unfold locate_Stops.f
  repeat' first | (with_reducible first | exact ih0 _ _ _ _ _ _ _ _ _ _ _ _ _ _ _ | exact locate_shown.mono _ _ | exact locate_space.mono _ _ _ _ _ _ _ _ _ _ _ _ | exact locate_styleAt.mono _ _ _ | exact metrics_Table_Width.mono _ _ _ _ | exact runes_Kind.mono _ _ | exact LeO.refl _ | exact LeO.none _ | refine LeO.ite ?_ ?_ | refine LeO.bind ?_ (fun _ => ?_)) | exact ih0 _ _ _ _ _ _ _ _ _ _ _ _ _ _ _ | exact locate_shown.mono _ _ | exact locate_space.mono _ _ _ _ _ _ _ _ _ _ _ _ | exact locate_styleAt.mono _ _ _ | exact metrics_Table_Width.mono _ _ _ _ | exact runes_Kind.mono _ _ | exact LeO.none _ | refine LeO.ite ?_ ?_ | refine LeO.bind ?_ (fun _ => ?_)
set_option maxHeartbeats 8000000 in
set_option maxRecDepth 100000 in
theorem locate_Stops.calls (k : Nat) (A0 : Option Addr) (c0 : Nat) (l0 : List (S124)) (a1_0 : ByteArray) (A1_1 : Option Addr) (c1_1 : Nat) (l1_1 : List (S89)) (a1_2 : Int) (a1_3 : Int) (a1_4 : Int) (a1_5 : Bool) (a1_6 : Int) (a1_7 : Bool) (a1_8 : Bool) (r : List (S99)) (w : World) (hr0 : Kd.C k124 w A0 l0.length l0) (hc0 : l0.length ≤ c0) (hr1_1 : Kd.C k89 w A1_1 l1_1.length l1_1) (hc1_1 : l1_1.length ≤ c1_1) (h : locate_Stops.f k l0 a1_0 l1_1 a1_2 a1_3 a1_4 a1_5 a1_6 a1_7 a1_8 = some r) :
    Calls Try.prog 41 #[.pointer A0, .agg #[.string a1_0, .slice A1_1 l1_1.length c1_1, .int .i64 a1_2, .int .i64 a1_3, .int .i64 a1_4, .bool a1_5, .int .i64 a1_6, .bool a1_7, .bool a1_8]] w fun e w' => ∃ v0_ : Value, e = .returned (v0_) ∧ Kd.R k99 99 w' w.heap.size (fun _ => True) v0_ r ∧ Below w.heap.size w w' := by
  have hu25 := Try.underlying25
  have hu99 := Try.underlying99
  have HR0 := Aside0.mk hr0
  have HC0 := Aside0.mk hc0
  clear hr0 hc0
  have HR1_1 := Aside0.mk hr1_1
  have HC1_1 := Aside0.mk hc1_1
  clear hr1_1 hc1_1
  have HB := Aside0.mk (Below.refl w.heap.size w)
  have H : ((locate_shown.f k a1_0).bind fun t220 => (locate_Stops.l0 k l0 ([] : List (S99)) 0 t220 a1_0 l1_1 a1_2 a1_3 a1_4 a1_5 a1_6 a1_7 a1_8 a1_0 0)) = some r := h
  clear h
  replace H := Option.bind_eq_some_iff.mp H
  obtain ⟨t220, A30, H⟩ := H
  replace H : (locate_Stops.l0 k l0 ([] : List (S99)) 0 t220 a1_0 l1_1 a1_2 a1_3 a1_4 a1_5 a1_6 a1_7 a1_8 a1_0 0) = some r := H
  have A3 := Aside0.mk A30
  clear A30
  have H' := Aside0.mk H
  clear H
  go_enter Try.func41, Try.ntmps41
  go_wp2_with (first | ((with_reducible refine gate_dst (N := 3) rfl ?_); refine box_event ?hg (N := 3) ?hd (cs := #[.string a1_0, .slice A1_1 l1_1.length c1_1, .int .i64 a1_2, .int .i64 a1_3, .int .i64 a1_4, .bool a1_5, .int .i64 a1_6, .bool a1_7, .bool a1_8]) (t := 25) ?hr ?_; (case hd => rfl); (case hg => rfl); (case hr => exact z209_); intro gb219 hg w4 hbox hb; have BK219 := Aside0.mk (hbox); have GW219 := Aside0.mk ((z85_ : w.heap.size ≤ gb219)); have GE219 := Aside0.mk ((z85_ : w.heap.size ≤ gb219)); replace HB := Aside0.mk (below_step z117_ hb); clear hb hbox hg; have hcz5_0 : w4.cell? ⟨gb219, 0, none⟩ = some (.string a1_0) := (blk_cell BK219.out 0).trans rfl; have hcz5_1 : w4.cell? ⟨gb219, 1, none⟩ = some (.slice A1_1 l1_1.length c1_1) := (blk_cell BK219.out 1).trans rfl; have hcz5_2 : w4.cell? ⟨gb219, 2, none⟩ = some (.int .i64 a1_2) := (blk_cell BK219.out 2).trans rfl; have hcz5_3 : w4.cell? ⟨gb219, 3, none⟩ = some (.int .i64 a1_3) := (blk_cell BK219.out 3).trans rfl; have hcz5_4 : w4.cell? ⟨gb219, 4, none⟩ = some (.int .i64 a1_4) := (blk_cell BK219.out 4).trans rfl; have hcz5_5 : w4.cell? ⟨gb219, 5, none⟩ = some (.bool a1_5) := (blk_cell BK219.out 5).trans rfl; have hcz5_6 : w4.cell? ⟨gb219, 6, none⟩ = some (.int .i64 a1_6) := (blk_cell BK219.out 6).trans rfl; have hcz5_7 : w4.cell? ⟨gb219, 7, none⟩ = some (.bool a1_7) := (blk_cell BK219.out 7).trans rfl; have hcz5_8 : w4.cell? ⟨gb219, 8, none⟩ = some (.bool a1_8) := (blk_cell BK219.out 8).trans rfl; have hfz5_0 := blk_frozen BK219.out 0; have hfz5_1 := blk_frozen BK219.out 1; have hfz5_2 := blk_frozen BK219.out 2; have hfz5_3 := blk_frozen BK219.out 3; have hfz5_4 := blk_frozen BK219.out 4; have hfz5_5 := blk_frozen BK219.out 5; have hfz5_6 := blk_frozen BK219.out 6; have hfz5_7 := blk_frozen BK219.out 7; have hfz5_8 := blk_frozen BK219.out 8) | ((with_reducible refine gate_callee (f := 71) rfl ?_); refine goesL_ (some 13) rfl rfl Try.func71 (by kernel_rfl) rfl #[.string a1_0] rfl z113_ ?_; (with_reducible refine (locate_shown.calls k a1_0 t220 _ A3.out).mono ?_); rintro e w6 ⟨rfl, hb⟩; refine ⟨_, rfl, ?_⟩; replace BK219 := Aside0.mk (blk_below (g := gb219) (o := .cells #[.string a1_0, .slice A1_1 l1_1.length c1_1, .int .i64 a1_2, .int .i64 a1_3, .int .i64 a1_4, .bool a1_5, .int .i64 a1_6, .bool a1_7, .bool a1_8] 25 (0, 0)) z140_ hb); replace HB := Aside0.mk (below_step z96_ hb); (try clear hb); (try clear hb2); (try clear hk); (try clear hi); have hcz7_0 : w6.cell? ⟨gb219, 0, none⟩ = some (.string a1_0) := (blk_cell BK219.out 0).trans rfl; have hcz7_1 : w6.cell? ⟨gb219, 1, none⟩ = some (.slice A1_1 l1_1.length c1_1) := (blk_cell BK219.out 1).trans rfl; have hcz7_2 : w6.cell? ⟨gb219, 2, none⟩ = some (.int .i64 a1_2) := (blk_cell BK219.out 2).trans rfl; have hcz7_3 : w6.cell? ⟨gb219, 3, none⟩ = some (.int .i64 a1_3) := (blk_cell BK219.out 3).trans rfl; have hcz7_4 : w6.cell? ⟨gb219, 4, none⟩ = some (.int .i64 a1_4) := (blk_cell BK219.out 4).trans rfl; have hcz7_5 : w6.cell? ⟨gb219, 5, none⟩ = some (.bool a1_5) := (blk_cell BK219.out 5).trans rfl; have hcz7_6 : w6.cell? ⟨gb219, 6, none⟩ = some (.int .i64 a1_6) := (blk_cell BK219.out 6).trans rfl; have hcz7_7 : w6.cell? ⟨gb219, 7, none⟩ = some (.bool a1_7) := (blk_cell BK219.out 7).trans rfl; have hcz7_8 : w6.cell? ⟨gb219, 8, none⟩ = some (.bool a1_8) := (blk_cell BK219.out 8).trans rfl; have hfz7_0 := blk_frozen BK219.out 0; have hfz7_1 := blk_frozen BK219.out 1; have hfz7_2 := blk_frozen BK219.out 2; have hfz7_3 := blk_frozen BK219.out 3; have hfz7_4 := blk_frozen BK219.out 4; have hfz7_5 := blk_frozen BK219.out 5; have hfz7_6 := blk_frozen BK219.out 6; have hfz7_7 := blk_frozen BK219.out 7; have hfz7_8 := blk_frozen BK219.out 8) | ((with_reducible refine gate_dst (N := 16) rfl ?_); refine iter_event ?hg (N := 16) ?hd (s := a1_0) ?hr ?_; (case hd => rfl); (case hg => rfl); (case hr => exact z209_); intro gb221 hg w8 hbox hb; have BK221 := Aside0.mk (hbox); have GW221 := Aside0.mk ((z60_ : w.heap.size ≤ gb221)); have GE221 := Aside0.mk ((z60_ : w.heap.size ≤ gb221)); replace HB := Aside0.mk (below_step z96_ hb); have NB219_221 := Aside0.mk ((by rw [hg]; exact Nat.ne_of_lt (blk_lt (g := gb219) (o := .cells #[.string a1_0, .slice A1_1 l1_1.length c1_1, .int .i64 a1_2, .int .i64 a1_3, .int .i64 a1_4, .bool a1_5, .int .i64 a1_6, .bool a1_7, .bool a1_8] 25 (0, 0)) z140_) : gb219 ≠ gb221)); have NB221_219 := Aside0.mk ((by rw [hg]; exact Nat.ne_of_gt (blk_lt (g := gb219) (o := .cells #[.string a1_0, .slice A1_1 l1_1.length c1_1, .int .i64 a1_2, .int .i64 a1_3, .int .i64 a1_4, .bool a1_5, .int .i64 a1_6, .bool a1_7, .bool a1_8] 25 (0, 0)) z140_) : gb221 ≠ gb219)); replace BK219 := Aside0.mk (blk_below (g := gb219) (o := .cells #[.string a1_0, .slice A1_1 l1_1.length c1_1, .int .i64 a1_2, .int .i64 a1_3, .int .i64 a1_4, .bool a1_5, .int .i64 a1_6, .bool a1_7, .bool a1_8] 25 (0, 0)) z140_ hb); clear hb hbox hg))
  (try simp only [Act.put, List.setIfInBounds_toArray, List.set_cons_zero, List.set_cons_succ])
  go_loopg [5, 6] k (fun kq v5 v6 w' => ∃ (x5_1 : List (S99)) (x6_1 : Int) (x222001_1 : Int), v6 = .int .i64 x6_1 ∧ Aside0 (locate_Stops.l0 kq l0 x5_1 x6_1 t220 a1_0 l1_1 a1_2 a1_3 a1_4 a1_5 a1_6 a1_7 a1_8 a1_0 x222001_1 = some r) ∧ Aside0 (kq ≤ k) ∧ Aside0 (Kd.R k99 99 w' w.heap.size (fun _ => True) v5 x5_1) ∧ Aside0 (w'.heap[gb219]? = some (.cells #[.string a1_0, (.slice A1_1 l1_1.length c1_1), .int .i64 a1_2, .int .i64 a1_3, .int .i64 a1_4, .bool a1_5, .int .i64 a1_6, .bool a1_7, .bool a1_8] 25 (0, 0))) ∧ Aside0 (w'.heap[gb221]? = some (.stringIter a1_0 (x222001_1 : Int).toNat)) ∧ Aside0 (Below w.heap.size w w'))
  case atStart => exact ⟨(([] : List (S99))), (0), (0), z208_, H', ⟨Nat.le_refl _⟩, ⟨z111_⟩, ⟨z140_⟩, ⟨z141_⟩, ⟨z67_⟩⟩
  case round =>
    clear H'
    try clear c1
    try clear p2
    try clear c4
    try clear c7
    try clear hcz5_0
    try clear hcz5_1
    try clear hcz5_2
    try clear hcz5_3
    try clear hcz5_4
    try clear hcz5_5
    try clear hcz5_6
    try clear hcz5_7
    try clear hcz5_8
    try clear hcz7_0
    try clear hcz7_1
    try clear hcz7_2
    try clear hcz7_3
    try clear hcz7_4
    try clear hcz7_5
    try clear hcz7_6
    try clear hcz7_7
    try clear hcz7_8
    try clear hfz5_0
    try clear hfz5_1
    try clear hfz5_2
    try clear hfz5_3
    try clear hfz5_4
    try clear hfz5_5
    try clear hfz5_6
    try clear hfz5_7
    try clear hfz5_8
    try clear hfz7_0
    try clear hfz7_1
    try clear hfz7_2
    try clear hfz7_3
    try clear hfz7_4
    try clear hfz7_5
    try clear hfz7_6
    try clear hfz7_7
    try clear hfz7_8
    obtain ⟨x5_1, x6_1, x222001_1, rfl, HA, HK1, HO_5, BK219, BK221, HB⟩ := hrel
    cases gk with
    | zero => exact absurd HA.out (by simp [locate_Stops.l0])
    | succ k1 =>
      have H := HA.out
      clear HA
      simp only [locate_Stops.l0] at H
      by_cases c9 : (x222001_1 : Int).toNat < a1_0.size
      rotate_left
      · rw [if_neg c9] at H
        have c9b0 : decide ((x222001_1 : Int).toNat < a1_0.size) = false := decide_eq_false c9
        clear c9
        by_cases c39 : x5_1.length < 8796093022208
        rotate_left
        · rw [if_neg c39] at H
          exact absurd H (by simp)
        rw [if_pos c39] at H
        have LMc39 := Aside0.mk c39
        clear c39
        obtain ⟨y231, hy231⟩ : ∃ y_ : List (S99), y_ = (x5_1 ++ [(⟨(a1_0.size : Int), x6_1⟩ : S99)]) := ⟨_, rfl⟩
        replace H : (some y231) = some r := by first | (rw [hy231]; with_reducible exact H) | (have H2_ := (Option.bind_some _ _).symm.trans H; rw [hy231]; with_reducible exact H2_) | (have H2_ := (Option.bind_some _ _).symm.trans H; with_reducible exact H2_) | with_reducible exact H | (rw [hy231]; exact H) | exact H
        have Ny231 := Aside0.mk hy231
        clear hy231
        obtain rfl := Option.some.inj H
        go_wp2_with (first | ((with_reducible refine gate_dst (N := 17) rfl ?_); refine next_no (w0 := w) (base := w.heap.size) ?hg (N := 17) ?hd (g := gb221) (s := a1_0) (p := x222001_1) ?hx rfl ?hi ?hp ?hB ?he ?_; (case hd => rfl); (case hg => rfl); (case hx => exact z207_); (case hi => exact z121_); (case hp => exact z204_); (case hB => exact z52_); (case he => exact GW221.out); intro w40 hbox hg hb; replace HO_5 := Aside0.mk (Kd.R_mono (Kd.R_grown (iter_R z170_ z141_) hg (fun k_ hk_ e_ => hk_.2 (Option.some.inj e_))) (fun _ h_ => h_.1)); replace BK219 := Aside0.mk (blk_grown (g := gb219) (o := .cells #[.string a1_0, .slice A1_1 l1_1.length c1_1, .int .i64 a1_2, .int .i64 a1_3, .int .i64 a1_4, .bool a1_5, .int .i64 a1_6, .bool a1_7, .bool a1_8] 25 (0, 0)) z140_ hg (fun e_ => NB219_221.out (Option.some.inj e_))); replace BK221 := Aside0.mk (hbox); replace HB := Aside0.mk (hb); clear hbox hb hg; have hnb41 := NB219_221.out; have hnc41 := NB221_219.out; have hcz42_0 : w40.cell? ⟨gb219, 0, none⟩ = some (.string a1_0) := (blk_cell BK219.out 0).trans rfl; have hcz42_1 : w40.cell? ⟨gb219, 1, none⟩ = some (.slice A1_1 l1_1.length c1_1) := (blk_cell BK219.out 1).trans rfl; have hcz42_2 : w40.cell? ⟨gb219, 2, none⟩ = some (.int .i64 a1_2) := (blk_cell BK219.out 2).trans rfl; have hcz42_3 : w40.cell? ⟨gb219, 3, none⟩ = some (.int .i64 a1_3) := (blk_cell BK219.out 3).trans rfl; have hcz42_4 : w40.cell? ⟨gb219, 4, none⟩ = some (.int .i64 a1_4) := (blk_cell BK219.out 4).trans rfl; have hcz42_5 : w40.cell? ⟨gb219, 5, none⟩ = some (.bool a1_5) := (blk_cell BK219.out 5).trans rfl; have hcz42_6 : w40.cell? ⟨gb219, 6, none⟩ = some (.int .i64 a1_6) := (blk_cell BK219.out 6).trans rfl; have hcz42_7 : w40.cell? ⟨gb219, 7, none⟩ = some (.bool a1_7) := (blk_cell BK219.out 7).trans rfl; have hcz42_8 : w40.cell? ⟨gb219, 8, none⟩ = some (.bool a1_8) := (blk_cell BK219.out 8).trans rfl; have hfz42_0 := blk_frozen BK219.out 0; have hfz42_1 := blk_frozen BK219.out 1; have hfz42_2 := blk_frozen BK219.out 2; have hfz42_3 := blk_frozen BK219.out 3; have hfz42_4 := blk_frozen BK219.out 4; have hfz42_5 := blk_frozen BK219.out 5; have hfz42_6 := blk_frozen BK219.out 6; have hfz42_7 := blk_frozen BK219.out 7; have hfz42_8 := blk_frozen BK219.out 8) | ((with_reducible refine gate_builtin (b := .append) (xs := #[.tmp 51, .tmp 57]) rfl ?_); at_builtin; refine Kd.R_append k99 (w0 := w) w.heap.size rfl (.tmp 51) (.tmp 57) 97 99 (.agg #[(.int .i64 0), (.int .i64 0)]) 16 rfl Try.underlying97 info99 rfl (by decide) (by omega) u5 x5_1 (⟨(a1_0.size : Int), x6_1⟩ : S99) [.int .i64 (a1_0.size : Int), .int .i64 x6_1] (fun _ => True) (fun _ => False) rfl rfl ?aP (fun _ hk => hk.elim) ?aF ?aO ?aB ?aS ?aL ?_; (case aP => exact k99_mkM _ _ _ (⟨(a1_0.size : Int), x6_1⟩ : S99)); (case aB => exact z52_); (case aF => exact z215_); (case aO => exact z152_); (case aS => exact z47_); (case aL => have := LMc39.out; omega); intro v232 w43 ho hb hg hat; rw [← Ny231.out] at ho; have n0_ := Aside0.mk (blk_grown (g := gb219) (o := .cells #[.string a1_0, .slice A1_1 l1_1.length c1_1, .int .i64 a1_2, .int .i64 a1_3, .int .i64 a1_4, .bool a1_5, .int .i64 a1_6, .bool a1_7, .bool a1_8] 25 (0, 0)) z140_ hg (Kd.R_ne HO_5.out BK219.out (by decide))); have n1_ := Aside0.mk (blk_grown (g := gb221) (o := .stringIter a1_0 (x222001_1 : Int).toNat) z141_ hg (iter_ne (Kd.R_typed HO_5.out) BK221.out)); have n2_ := Aside0.mk (hb); have n3_ := Aside0.mk (ho); clear BK219; clear BK221; clear HB; clear HO_5; have BK219 := n0_; have BK221 := n1_; have HB := n2_; have HO233 := n3_; clear n0_ n1_ n2_ n3_; clear ho hb hg hat))
        go_ret
        exact ⟨_, z178_, y185_ HO233.out, z67_⟩
      rw [if_pos c9] at H
      have c9b0 : decide ((x222001_1 : Int).toNat < a1_0.size) = true := decide_eq_true c9
      clear c9
      by_cases c10 : x5_1.length < 8796093022208
      rotate_left
      · rw [if_neg c10] at H
        exact absurd H (by simp)
      rw [if_pos c10] at H
      have LMc10 := Aside0.mk c10
      clear c10
      obtain ⟨y222, hy222⟩ : ∃ y_ : List (S99), y_ = (x5_1 ++ [(⟨itP_ x222001_1, x6_1⟩ : S99)]) := ⟨_, rfl⟩
      replace H : ((locate_styleAt.f k1 l1_1 (itP_ x222001_1)).bind fun t225 => ((runes_Kind.f k1 (itR_ a1_0 x222001_1)).bind fun t226 => (if t226 = 1 then (if (itP_ x222001_1) < t220 then ((locate_space.f k1 l0 a1_0 l1_1 a1_2 a1_3 a1_4 a1_5 a1_6 a1_7 a1_8 t225).bind fun t227 => ((scaled_Add.f x6_1 t227).bind fun t228 => (locate_Stops.l0 k1 l0 y222 t228 t220 a1_0 l1_1 a1_2 a1_3 a1_4 a1_5 a1_6 a1_7 a1_8 a1_0 (itN_ a1_0 x222001_1)))) else (locate_Stops.l0 k1 l0 y222 x6_1 t220 a1_0 l1_1 a1_2 a1_3 a1_4 a1_5 a1_6 a1_7 a1_8 a1_0 (itN_ a1_0 x222001_1))) else ((metrics_Table_Width.f k1 l0 t225 (itR_ a1_0 x222001_1)).bind fun t229 => ((scaled_Add.f x6_1 t229).bind fun t230 => (locate_Stops.l0 k1 l0 y222 t230 t220 a1_0 l1_1 a1_2 a1_3 a1_4 a1_5 a1_6 a1_7 a1_8 a1_0 (itN_ a1_0 x222001_1))))))) = some r := by first | (rw [hy222]; with_reducible exact H) | (have H2_ := (Option.bind_some _ _).symm.trans H; rw [hy222]; with_reducible exact H2_) | (have H2_ := (Option.bind_some _ _).symm.trans H; with_reducible exact H2_) | with_reducible exact H | (rw [hy222]; exact H) | exact H
      have Ny222 := Aside0.mk hy222
      clear hy222
      replace H := Option.bind_eq_some_iff.mp H
      obtain ⟨t225, A110, H⟩ := H
      replace H : ((runes_Kind.f k1 (itR_ a1_0 x222001_1)).bind fun t226 => (if t226 = 1 then (if (itP_ x222001_1) < t220 then ((locate_space.f k1 l0 a1_0 l1_1 a1_2 a1_3 a1_4 a1_5 a1_6 a1_7 a1_8 t225).bind fun t227 => ((scaled_Add.f x6_1 t227).bind fun t228 => (locate_Stops.l0 k1 l0 y222 t228 t220 a1_0 l1_1 a1_2 a1_3 a1_4 a1_5 a1_6 a1_7 a1_8 a1_0 (itN_ a1_0 x222001_1)))) else (locate_Stops.l0 k1 l0 y222 x6_1 t220 a1_0 l1_1 a1_2 a1_3 a1_4 a1_5 a1_6 a1_7 a1_8 a1_0 (itN_ a1_0 x222001_1))) else ((metrics_Table_Width.f k1 l0 t225 (itR_ a1_0 x222001_1)).bind fun t229 => ((scaled_Add.f x6_1 t229).bind fun t230 => (locate_Stops.l0 k1 l0 y222 t230 t220 a1_0 l1_1 a1_2 a1_3 a1_4 a1_5 a1_6 a1_7 a1_8 a1_0 (itN_ a1_0 x222001_1)))))) = some r := H
      have A11 := Aside0.mk A110
      clear A110
      replace H := Option.bind_eq_some_iff.mp H
      obtain ⟨t226, A120, H⟩ := H
      replace H : (if t226 = 1 then (if (itP_ x222001_1) < t220 then ((locate_space.f k1 l0 a1_0 l1_1 a1_2 a1_3 a1_4 a1_5 a1_6 a1_7 a1_8 t225).bind fun t227 => ((scaled_Add.f x6_1 t227).bind fun t228 => (locate_Stops.l0 k1 l0 y222 t228 t220 a1_0 l1_1 a1_2 a1_3 a1_4 a1_5 a1_6 a1_7 a1_8 a1_0 (itN_ a1_0 x222001_1)))) else (locate_Stops.l0 k1 l0 y222 x6_1 t220 a1_0 l1_1 a1_2 a1_3 a1_4 a1_5 a1_6 a1_7 a1_8 a1_0 (itN_ a1_0 x222001_1))) else ((metrics_Table_Width.f k1 l0 t225 (itR_ a1_0 x222001_1)).bind fun t229 => ((scaled_Add.f x6_1 t229).bind fun t230 => (locate_Stops.l0 k1 l0 y222 t230 t220 a1_0 l1_1 a1_2 a1_3 a1_4 a1_5 a1_6 a1_7 a1_8 a1_0 (itN_ a1_0 x222001_1))))) = some r := H
      have A12 := Aside0.mk A120
      clear A120
      by_cases c13 : t226 = 1
      rotate_left
      · rw [if_neg c13] at H
        have c13b0 : (t226 == 1) = false := beq_eq_false_iff_ne.mpr c13
        have c13b1 : (t226 != 1) = true := bne_iff_ne.mpr c13
        replace H := Option.bind_eq_some_iff.mp H
        obtain ⟨t229, A300, H⟩ := H
        replace H : ((scaled_Add.f x6_1 t229).bind fun t230 => (locate_Stops.l0 k1 l0 y222 t230 t220 a1_0 l1_1 a1_2 a1_3 a1_4 a1_5 a1_6 a1_7 a1_8 a1_0 (itN_ a1_0 x222001_1))) = some r := H
        have A30 := Aside0.mk A300
        clear A300
        replace H := Option.bind_eq_some_iff.mp H
        obtain ⟨t230, A310, H⟩ := H
        replace H : (locate_Stops.l0 k1 l0 y222 t230 t220 a1_0 l1_1 a1_2 a1_3 a1_4 a1_5 a1_6 a1_7 a1_8 a1_0 (itN_ a1_0 x222001_1)) = some r := H
        have A31 := Aside0.mk A310
        clear A310
        have H' := Aside0.mk H
        clear H
        go_wp2_with (first | ((with_reducible refine gate_dst (N := 17) rfl ?_); refine next_yes (w0 := w) (base := w.heap.size) ?hg (N := 17) ?hd (g := gb221) (s := a1_0) (p := x222001_1) ?hx rfl ?hi ?hp ?hB ?he ?_; (case hd => rfl); (case hg => rfl); (case hx => exact z207_); (case hi => exact z121_); (case hp => exact z204_); (case hB => exact z52_); (case he => exact GW221.out); intro w32 hbox hg hb; replace HO_5 := Aside0.mk (Kd.R_mono (Kd.R_grown (iter_R z170_ z141_) hg (fun k_ hk_ e_ => hk_.2 (Option.some.inj e_))) (fun _ h_ => h_.1)); replace BK219 := Aside0.mk (blk_grown (g := gb219) (o := .cells #[.string a1_0, .slice A1_1 l1_1.length c1_1, .int .i64 a1_2, .int .i64 a1_3, .int .i64 a1_4, .bool a1_5, .int .i64 a1_6, .bool a1_7, .bool a1_8] 25 (0, 0)) z140_ hg (fun e_ => NB219_221.out (Option.some.inj e_))); replace BK221 := Aside0.mk (hbox); replace HB := Aside0.mk (hb); clear hbox hb hg) | ((with_reducible refine gate_builtin (b := .append) (xs := #[.tmp 21, .tmp 25]) rfl ?_); at_builtin; refine Kd.R_append k99 (w0 := w) w.heap.size rfl (.tmp 21) (.tmp 25) 97 99 (.agg #[(.int .i64 0), (.int .i64 0)]) 16 rfl Try.underlying97 info99 rfl (by decide) (by omega) u5 x5_1 (⟨itP_ x222001_1, x6_1⟩ : S99) [.int .i64 (itP_ x222001_1), .int .i64 x6_1] (fun _ => True) (fun _ => False) rfl rfl ?aP (fun _ hk => hk.elim) ?aF ?aO ?aB ?aS ?aL ?_; (case aP => exact z203_); (case aB => exact z52_); (case aF => exact z215_); (case aO => exact z152_); (case aS => exact z47_); (case aL => exact z217_); intro v223 w33 ho hb hg hat; rw [← Ny222.out] at ho; have n0_ := Aside0.mk (blk_grown (g := gb219) (o := .cells #[.string a1_0, .slice A1_1 l1_1.length c1_1, .int .i64 a1_2, .int .i64 a1_3, .int .i64 a1_4, .bool a1_5, .int .i64 a1_6, .bool a1_7, .bool a1_8] 25 (0, 0)) z140_ hg (Kd.R_ne HO_5.out BK219.out (by decide))); have n1_ := Aside0.mk (blk_grown (g := gb221) (o := .stringIter a1_0 (itN_ a1_0 x222001_1 : Int).toNat) z141_ hg (iter_ne (Kd.R_typed HO_5.out) BK221.out)); have n2_ := Aside0.mk (hb); have n3_ := Aside0.mk (ho); clear BK219; clear BK221; clear HB; clear HO_5; have BK219 := n0_; have BK221 := n1_; have HB := n2_; have HO224 := n3_; clear n0_ n1_ n2_ n3_; clear ho hb hg hat; have hnb34 := NB219_221.out; have hnc34 := NB221_219.out; have hcz35_0 : w33.cell? ⟨gb219, 0, none⟩ = some (.string a1_0) := (blk_cell BK219.out 0).trans rfl; have hcz35_1 : w33.cell? ⟨gb219, 1, none⟩ = some (.slice A1_1 l1_1.length c1_1) := (blk_cell BK219.out 1).trans rfl; have hcz35_2 : w33.cell? ⟨gb219, 2, none⟩ = some (.int .i64 a1_2) := (blk_cell BK219.out 2).trans rfl; have hcz35_3 : w33.cell? ⟨gb219, 3, none⟩ = some (.int .i64 a1_3) := (blk_cell BK219.out 3).trans rfl; have hcz35_4 : w33.cell? ⟨gb219, 4, none⟩ = some (.int .i64 a1_4) := (blk_cell BK219.out 4).trans rfl; have hcz35_5 : w33.cell? ⟨gb219, 5, none⟩ = some (.bool a1_5) := (blk_cell BK219.out 5).trans rfl; have hcz35_6 : w33.cell? ⟨gb219, 6, none⟩ = some (.int .i64 a1_6) := (blk_cell BK219.out 6).trans rfl; have hcz35_7 : w33.cell? ⟨gb219, 7, none⟩ = some (.bool a1_7) := (blk_cell BK219.out 7).trans rfl; have hcz35_8 : w33.cell? ⟨gb219, 8, none⟩ = some (.bool a1_8) := (blk_cell BK219.out 8).trans rfl; have hfz35_0 := blk_frozen BK219.out 0; have hfz35_1 := blk_frozen BK219.out 1; have hfz35_2 := blk_frozen BK219.out 2; have hfz35_3 := blk_frozen BK219.out 3; have hfz35_4 := blk_frozen BK219.out 4; have hfz35_5 := blk_frozen BK219.out 5; have hfz35_6 := blk_frozen BK219.out 6; have hfz35_7 := blk_frozen BK219.out 7; have hfz35_8 := blk_frozen BK219.out 8) | ((with_reducible refine gate_callee (f := 72) rfl ?_); refine goesL_ (some 30) rfl rfl Try.func72 (by kernel_rfl) rfl #[.slice A1_1 l1_1.length c1_1, .int .i64 (itP_ x222001_1)] rfl z113_ ?_; (with_reducible refine (locate_styleAt.calls k1 _ _ l1_1 (itP_ x222001_1) t225 _ ?side1 ?side2 A11.out).mono ?_); (case side1 => exact z78_); (case side2 => exact HC1_1.out); rintro e w36 ⟨rfl, hb⟩; refine ⟨_, rfl, ?_⟩; replace HO224 := Aside0.mk (Kd.R_below z158_ hb); replace BK219 := Aside0.mk (blk_below (g := gb219) (o := .cells #[.string a1_0, .slice A1_1 l1_1.length c1_1, .int .i64 a1_2, .int .i64 a1_3, .int .i64 a1_4, .bool a1_5, .int .i64 a1_6, .bool a1_7, .bool a1_8] 25 (0, 0)) z140_ hb); replace BK221 := Aside0.mk (blk_below (g := gb221) (o := .stringIter a1_0 (itN_ a1_0 x222001_1 : Int).toNat) z141_ hb); replace HB := Aside0.mk (below_step z67_ hb); (try clear hb); (try clear hb2); (try clear hk); (try clear hi)) | ((with_reducible refine gate_callee (f := 43) rfl ?_); refine goesL_ (some 33) rfl rfl Try.func43 (by kernel_rfl) rfl #[.int .i32 (itR_ a1_0 x222001_1)] rfl z113_ ?_; (with_reducible refine (runes_Kind.calls k1 (itR_ a1_0 x222001_1) t226 _ A12.out).mono ?_); rintro e w' ⟨rfl, ⟨nd, rfl⟩⟩; refine ⟨_, rfl, ?_⟩) | ((with_reducible refine gate_callee (f := 73) rfl ?_); refine goesL_ (some 39) rfl rfl Try.func73 (by kernel_rfl) rfl #[.pointer A0, .int .i64 t225, .int .i32 (itR_ a1_0 x222001_1)] rfl z113_ ?_; (with_reducible refine (metrics_Table_Width.calls k1 _ c0 l0 t225 (itR_ a1_0 x222001_1) t229 _ ?side1 ?side2 A30.out).mono ?_); (case side1 => exact z20_); (case side2 => exact HC0.out); rintro e w37 ⟨rfl, hb⟩; refine ⟨_, rfl, ?_⟩; replace HO224 := Aside0.mk (Kd.R_below z158_ hb); replace BK219 := Aside0.mk (blk_below (g := gb219) (o := .cells #[.string a1_0, .slice A1_1 l1_1.length c1_1, .int .i64 a1_2, .int .i64 a1_3, .int .i64 a1_4, .bool a1_5, .int .i64 a1_6, .bool a1_7, .bool a1_8] 25 (0, 0)) z140_ hb); replace BK221 := Aside0.mk (blk_below (g := gb221) (o := .stringIter a1_0 (itN_ a1_0 x222001_1 : Int).toNat) z141_ hb); replace HB := Aside0.mk (below_step z67_ hb); (try clear hb); (try clear hb2); (try clear hk); (try clear hi)) | ((with_reducible refine gate_callee (f := 57) rfl ?_); refine goesL_ (some 40) rfl rfl Try.func57 (by kernel_rfl) rfl #[.int .i64 x6_1, .int .i64 t229] rfl z113_ ?_; (with_reducible refine (scaled_Add.calls x6_1 t229 t230 _ A31.out).mono ?_); rintro e w38 ⟨rfl, hb⟩; refine ⟨_, rfl, ?_⟩; replace HO224 := Aside0.mk (Kd.R_below z158_ hb); replace BK219 := Aside0.mk (blk_below (g := gb219) (o := .cells #[.string a1_0, .slice A1_1 l1_1.length c1_1, .int .i64 a1_2, .int .i64 a1_3, .int .i64 a1_4, .bool a1_5, .int .i64 a1_6, .bool a1_7, .bool a1_8] 25 (0, 0)) z140_ hb); replace BK221 := Aside0.mk (blk_below (g := gb221) (o := .stringIter a1_0 (itN_ a1_0 x222001_1 : Int).toNat) z141_ hb); replace HB := Aside0.mk (below_step z67_ hb); (try clear hb); (try clear hb2); (try clear hk); (try clear hi)))
        go_roundg k1
        case measure => have := HK1.out; omega
        case rel => exact ⟨(y222), (t230), (itN_ a1_0 x222001_1), z208_, H', ⟨z218_⟩, ⟨z158_⟩, ⟨z140_⟩, ⟨z141_⟩, ⟨z67_⟩⟩
      rw [if_pos c13] at H
      have c13b0 : (t226 == 1) = true := beq_iff_eq.mpr c13
      have c13b1 : (t226 != 1) = false := bne_eq_false_iff_eq.mpr c13
      clear c13
      by_cases c14 : (itP_ x222001_1) < t220
      rotate_left
      · rw [if_neg c14] at H
        have c14b0 : decide ((itP_ x222001_1) < t220) = false := decide_eq_false c14
        clear c14
        have H' := Aside0.mk H
        clear H
        go_wp2_with (first | ((with_reducible refine gate_dst (N := 17) rfl ?_); refine next_yes (w0 := w) (base := w.heap.size) ?hg (N := 17) ?hd (g := gb221) (s := a1_0) (p := x222001_1) ?hx rfl ?hi ?hp ?hB ?he ?_; (case hd => rfl); (case hg => rfl); (case hx => exact z207_); (case hi => exact z121_); (case hp => exact z204_); (case hB => exact z52_); (case he => exact GW221.out); intro w25 hbox hg hb; replace HO_5 := Aside0.mk (Kd.R_mono (Kd.R_grown (iter_R z170_ z141_) hg (fun k_ hk_ e_ => hk_.2 (Option.some.inj e_))) (fun _ h_ => h_.1)); replace BK219 := Aside0.mk (blk_grown (g := gb219) (o := .cells #[.string a1_0, .slice A1_1 l1_1.length c1_1, .int .i64 a1_2, .int .i64 a1_3, .int .i64 a1_4, .bool a1_5, .int .i64 a1_6, .bool a1_7, .bool a1_8] 25 (0, 0)) z140_ hg (fun e_ => NB219_221.out (Option.some.inj e_))); replace BK221 := Aside0.mk (hbox); replace HB := Aside0.mk (hb); clear hbox hb hg) | ((with_reducible refine gate_builtin (b := .append) (xs := #[.tmp 21, .tmp 25]) rfl ?_); at_builtin; refine Kd.R_append k99 (w0 := w) w.heap.size rfl (.tmp 21) (.tmp 25) 97 99 (.agg #[(.int .i64 0), (.int .i64 0)]) 16 rfl Try.underlying97 info99 rfl (by decide) (by omega) u5 x5_1 (⟨itP_ x222001_1, x6_1⟩ : S99) [.int .i64 (itP_ x222001_1), .int .i64 x6_1] (fun _ => True) (fun _ => False) rfl rfl ?aP (fun _ hk => hk.elim) ?aF ?aO ?aB ?aS ?aL ?_; (case aP => exact z203_); (case aB => exact z52_); (case aF => exact z215_); (case aO => exact z152_); (case aS => exact z47_); (case aL => exact z217_); intro v223 w26 ho hb hg hat; rw [← Ny222.out] at ho; have n0_ := Aside0.mk (blk_grown (g := gb219) (o := .cells #[.string a1_0, .slice A1_1 l1_1.length c1_1, .int .i64 a1_2, .int .i64 a1_3, .int .i64 a1_4, .bool a1_5, .int .i64 a1_6, .bool a1_7, .bool a1_8] 25 (0, 0)) z140_ hg (Kd.R_ne HO_5.out BK219.out (by decide))); have n1_ := Aside0.mk (blk_grown (g := gb221) (o := .stringIter a1_0 (itN_ a1_0 x222001_1 : Int).toNat) z141_ hg (iter_ne (Kd.R_typed HO_5.out) BK221.out)); have n2_ := Aside0.mk (hb); have n3_ := Aside0.mk (ho); clear BK219; clear BK221; clear HB; clear HO_5; have BK219 := n0_; have BK221 := n1_; have HB := n2_; have HO224 := n3_; clear n0_ n1_ n2_ n3_; clear ho hb hg hat; have hnb27 := NB219_221.out; have hnc27 := NB221_219.out; have hcz28_0 : w26.cell? ⟨gb219, 0, none⟩ = some (.string a1_0) := (blk_cell BK219.out 0).trans rfl; have hcz28_1 : w26.cell? ⟨gb219, 1, none⟩ = some (.slice A1_1 l1_1.length c1_1) := (blk_cell BK219.out 1).trans rfl; have hcz28_2 : w26.cell? ⟨gb219, 2, none⟩ = some (.int .i64 a1_2) := (blk_cell BK219.out 2).trans rfl; have hcz28_3 : w26.cell? ⟨gb219, 3, none⟩ = some (.int .i64 a1_3) := (blk_cell BK219.out 3).trans rfl; have hcz28_4 : w26.cell? ⟨gb219, 4, none⟩ = some (.int .i64 a1_4) := (blk_cell BK219.out 4).trans rfl; have hcz28_5 : w26.cell? ⟨gb219, 5, none⟩ = some (.bool a1_5) := (blk_cell BK219.out 5).trans rfl; have hcz28_6 : w26.cell? ⟨gb219, 6, none⟩ = some (.int .i64 a1_6) := (blk_cell BK219.out 6).trans rfl; have hcz28_7 : w26.cell? ⟨gb219, 7, none⟩ = some (.bool a1_7) := (blk_cell BK219.out 7).trans rfl; have hcz28_8 : w26.cell? ⟨gb219, 8, none⟩ = some (.bool a1_8) := (blk_cell BK219.out 8).trans rfl; have hfz28_0 := blk_frozen BK219.out 0; have hfz28_1 := blk_frozen BK219.out 1; have hfz28_2 := blk_frozen BK219.out 2; have hfz28_3 := blk_frozen BK219.out 3; have hfz28_4 := blk_frozen BK219.out 4; have hfz28_5 := blk_frozen BK219.out 5; have hfz28_6 := blk_frozen BK219.out 6; have hfz28_7 := blk_frozen BK219.out 7; have hfz28_8 := blk_frozen BK219.out 8) | ((with_reducible refine gate_callee (f := 72) rfl ?_); refine goesL_ (some 30) rfl rfl Try.func72 (by kernel_rfl) rfl #[.slice A1_1 l1_1.length c1_1, .int .i64 (itP_ x222001_1)] rfl z113_ ?_; (with_reducible refine (locate_styleAt.calls k1 _ _ l1_1 (itP_ x222001_1) t225 _ ?side1 ?side2 A11.out).mono ?_); (case side1 => exact z78_); (case side2 => exact HC1_1.out); rintro e w29 ⟨rfl, hb⟩; refine ⟨_, rfl, ?_⟩; replace HO224 := Aside0.mk (Kd.R_below z158_ hb); replace BK219 := Aside0.mk (blk_below (g := gb219) (o := .cells #[.string a1_0, .slice A1_1 l1_1.length c1_1, .int .i64 a1_2, .int .i64 a1_3, .int .i64 a1_4, .bool a1_5, .int .i64 a1_6, .bool a1_7, .bool a1_8] 25 (0, 0)) z140_ hb); replace BK221 := Aside0.mk (blk_below (g := gb221) (o := .stringIter a1_0 (itN_ a1_0 x222001_1 : Int).toNat) z141_ hb); replace HB := Aside0.mk (below_step z67_ hb); (try clear hb); (try clear hb2); (try clear hk); (try clear hi)) | ((with_reducible refine gate_callee (f := 43) rfl ?_); refine goesL_ (some 33) rfl rfl Try.func43 (by kernel_rfl) rfl #[.int .i32 (itR_ a1_0 x222001_1)] rfl z113_ ?_; (with_reducible refine (runes_Kind.calls k1 (itR_ a1_0 x222001_1) t226 _ A12.out).mono ?_); rintro e w' ⟨rfl, ⟨nd, rfl⟩⟩; refine ⟨_, rfl, ?_⟩))
        go_roundg k1
        case measure => have := HK1.out; omega
        case rel => exact ⟨(y222), (x6_1), (itN_ a1_0 x222001_1), z208_, H', ⟨z218_⟩, ⟨z158_⟩, ⟨z140_⟩, ⟨z141_⟩, ⟨z67_⟩⟩
      rw [if_pos c14] at H
      have c14b0 : decide ((itP_ x222001_1) < t220) = true := decide_eq_true c14
      clear c14
      replace H := Option.bind_eq_some_iff.mp H
      obtain ⟨t227, A150, H⟩ := H
      replace H : ((scaled_Add.f x6_1 t227).bind fun t228 => (locate_Stops.l0 k1 l0 y222 t228 t220 a1_0 l1_1 a1_2 a1_3 a1_4 a1_5 a1_6 a1_7 a1_8 a1_0 (itN_ a1_0 x222001_1))) = some r := H
      have A15 := Aside0.mk A150
      clear A150
      replace H := Option.bind_eq_some_iff.mp H
      obtain ⟨t228, A160, H⟩ := H
      replace H : (locate_Stops.l0 k1 l0 y222 t228 t220 a1_0 l1_1 a1_2 a1_3 a1_4 a1_5 a1_6 a1_7 a1_8 a1_0 (itN_ a1_0 x222001_1)) = some r := H
      have A16 := Aside0.mk A160
      clear A160
      have H' := Aside0.mk H
      clear H
      go_wp2_with (first | ((with_reducible refine gate_dst (N := 17) rfl ?_); refine next_yes (w0 := w) (base := w.heap.size) ?hg (N := 17) ?hd (g := gb221) (s := a1_0) (p := x222001_1) ?hx rfl ?hi ?hp ?hB ?he ?_; (case hd => rfl); (case hg => rfl); (case hx => exact z207_); (case hi => exact z121_); (case hp => exact z204_); (case hB => exact z52_); (case he => exact GW221.out); intro w17 hbox hg hb; replace HO_5 := Aside0.mk (Kd.R_mono (Kd.R_grown (iter_R z170_ z141_) hg (fun k_ hk_ e_ => hk_.2 (Option.some.inj e_))) (fun _ h_ => h_.1)); replace BK219 := Aside0.mk (blk_grown (g := gb219) (o := .cells #[.string a1_0, .slice A1_1 l1_1.length c1_1, .int .i64 a1_2, .int .i64 a1_3, .int .i64 a1_4, .bool a1_5, .int .i64 a1_6, .bool a1_7, .bool a1_8] 25 (0, 0)) z140_ hg (fun e_ => NB219_221.out (Option.some.inj e_))); replace BK221 := Aside0.mk (hbox); replace HB := Aside0.mk (hb); clear hbox hb hg) | ((with_reducible refine gate_builtin (b := .append) (xs := #[.tmp 21, .tmp 25]) rfl ?_); at_builtin; refine Kd.R_append k99 (w0 := w) w.heap.size rfl (.tmp 21) (.tmp 25) 97 99 (.agg #[(.int .i64 0), (.int .i64 0)]) 16 rfl Try.underlying97 info99 rfl (by decide) (by omega) u5 x5_1 (⟨itP_ x222001_1, x6_1⟩ : S99) [.int .i64 (itP_ x222001_1), .int .i64 x6_1] (fun _ => True) (fun _ => False) rfl rfl ?aP (fun _ hk => hk.elim) ?aF ?aO ?aB ?aS ?aL ?_; (case aP => exact z203_); (case aB => exact z52_); (case aF => exact z215_); (case aO => exact z152_); (case aS => exact z47_); (case aL => exact z217_); intro v223 w18 ho hb hg hat; rw [← Ny222.out] at ho; have n0_ := Aside0.mk (blk_grown (g := gb219) (o := .cells #[.string a1_0, .slice A1_1 l1_1.length c1_1, .int .i64 a1_2, .int .i64 a1_3, .int .i64 a1_4, .bool a1_5, .int .i64 a1_6, .bool a1_7, .bool a1_8] 25 (0, 0)) z140_ hg (Kd.R_ne HO_5.out BK219.out (by decide))); have n1_ := Aside0.mk (blk_grown (g := gb221) (o := .stringIter a1_0 (itN_ a1_0 x222001_1 : Int).toNat) z141_ hg (iter_ne (Kd.R_typed HO_5.out) BK221.out)); have n2_ := Aside0.mk (hb); have n3_ := Aside0.mk (ho); clear BK219; clear BK221; clear HB; clear HO_5; have BK219 := n0_; have BK221 := n1_; have HB := n2_; have HO224 := n3_; clear n0_ n1_ n2_ n3_; clear ho hb hg hat; have hnb19 := NB219_221.out; have hnc19 := NB221_219.out; have hcz20_0 : w18.cell? ⟨gb219, 0, none⟩ = some (.string a1_0) := (blk_cell BK219.out 0).trans rfl; have hcz20_1 : w18.cell? ⟨gb219, 1, none⟩ = some (.slice A1_1 l1_1.length c1_1) := (blk_cell BK219.out 1).trans rfl; have hcz20_2 : w18.cell? ⟨gb219, 2, none⟩ = some (.int .i64 a1_2) := (blk_cell BK219.out 2).trans rfl; have hcz20_3 : w18.cell? ⟨gb219, 3, none⟩ = some (.int .i64 a1_3) := (blk_cell BK219.out 3).trans rfl; have hcz20_4 : w18.cell? ⟨gb219, 4, none⟩ = some (.int .i64 a1_4) := (blk_cell BK219.out 4).trans rfl; have hcz20_5 : w18.cell? ⟨gb219, 5, none⟩ = some (.bool a1_5) := (blk_cell BK219.out 5).trans rfl; have hcz20_6 : w18.cell? ⟨gb219, 6, none⟩ = some (.int .i64 a1_6) := (blk_cell BK219.out 6).trans rfl; have hcz20_7 : w18.cell? ⟨gb219, 7, none⟩ = some (.bool a1_7) := (blk_cell BK219.out 7).trans rfl; have hcz20_8 : w18.cell? ⟨gb219, 8, none⟩ = some (.bool a1_8) := (blk_cell BK219.out 8).trans rfl; have hfz20_0 := blk_frozen BK219.out 0; have hfz20_1 := blk_frozen BK219.out 1; have hfz20_2 := blk_frozen BK219.out 2; have hfz20_3 := blk_frozen BK219.out 3; have hfz20_4 := blk_frozen BK219.out 4; have hfz20_5 := blk_frozen BK219.out 5; have hfz20_6 := blk_frozen BK219.out 6; have hfz20_7 := blk_frozen BK219.out 7; have hfz20_8 := blk_frozen BK219.out 8) | ((with_reducible refine gate_callee (f := 72) rfl ?_); refine goesL_ (some 30) rfl rfl Try.func72 (by kernel_rfl) rfl #[.slice A1_1 l1_1.length c1_1, .int .i64 (itP_ x222001_1)] rfl z113_ ?_; (with_reducible refine (locate_styleAt.calls k1 _ _ l1_1 (itP_ x222001_1) t225 _ ?side1 ?side2 A11.out).mono ?_); (case side1 => exact z78_); (case side2 => exact HC1_1.out); rintro e w21 ⟨rfl, hb⟩; refine ⟨_, rfl, ?_⟩; replace HO224 := Aside0.mk (Kd.R_below z158_ hb); replace BK219 := Aside0.mk (blk_below (g := gb219) (o := .cells #[.string a1_0, .slice A1_1 l1_1.length c1_1, .int .i64 a1_2, .int .i64 a1_3, .int .i64 a1_4, .bool a1_5, .int .i64 a1_6, .bool a1_7, .bool a1_8] 25 (0, 0)) z140_ hb); replace BK221 := Aside0.mk (blk_below (g := gb221) (o := .stringIter a1_0 (itN_ a1_0 x222001_1 : Int).toNat) z141_ hb); replace HB := Aside0.mk (below_step z67_ hb); (try clear hb); (try clear hb2); (try clear hk); (try clear hi)) | ((with_reducible refine gate_callee (f := 43) rfl ?_); refine goesL_ (some 33) rfl rfl Try.func43 (by kernel_rfl) rfl #[.int .i32 (itR_ a1_0 x222001_1)] rfl z113_ ?_; (with_reducible refine (runes_Kind.calls k1 (itR_ a1_0 x222001_1) t226 _ A12.out).mono ?_); rintro e w' ⟨rfl, ⟨nd, rfl⟩⟩; refine ⟨_, rfl, ?_⟩; have hcz22_0 : w21.cell? ⟨gb219, 0, none⟩ = some (.string a1_0) := (blk_cell BK219.out 0).trans rfl; have hcz22_1 : w21.cell? ⟨gb219, 1, none⟩ = some (.slice A1_1 l1_1.length c1_1) := (blk_cell BK219.out 1).trans rfl; have hcz22_2 : w21.cell? ⟨gb219, 2, none⟩ = some (.int .i64 a1_2) := (blk_cell BK219.out 2).trans rfl; have hcz22_3 : w21.cell? ⟨gb219, 3, none⟩ = some (.int .i64 a1_3) := (blk_cell BK219.out 3).trans rfl; have hcz22_4 : w21.cell? ⟨gb219, 4, none⟩ = some (.int .i64 a1_4) := (blk_cell BK219.out 4).trans rfl; have hcz22_5 : w21.cell? ⟨gb219, 5, none⟩ = some (.bool a1_5) := (blk_cell BK219.out 5).trans rfl; have hcz22_6 : w21.cell? ⟨gb219, 6, none⟩ = some (.int .i64 a1_6) := (blk_cell BK219.out 6).trans rfl; have hcz22_7 : w21.cell? ⟨gb219, 7, none⟩ = some (.bool a1_7) := (blk_cell BK219.out 7).trans rfl; have hcz22_8 : w21.cell? ⟨gb219, 8, none⟩ = some (.bool a1_8) := (blk_cell BK219.out 8).trans rfl; have hfz22_0 := blk_frozen BK219.out 0; have hfz22_1 := blk_frozen BK219.out 1; have hfz22_2 := blk_frozen BK219.out 2; have hfz22_3 := blk_frozen BK219.out 3; have hfz22_4 := blk_frozen BK219.out 4; have hfz22_5 := blk_frozen BK219.out 5; have hfz22_6 := blk_frozen BK219.out 6; have hfz22_7 := blk_frozen BK219.out 7; have hfz22_8 := blk_frozen BK219.out 8) | ((with_reducible refine gate_callee (f := 74) rfl ?_); refine goesL_ (some 49) rfl rfl Try.func74 (by kernel_rfl) rfl #[.pointer A0, .agg #[.string a1_0, .slice A1_1 l1_1.length c1_1, .int .i64 a1_2, .int .i64 a1_3, .int .i64 a1_4, .bool a1_5, .int .i64 a1_6, .bool a1_7, .bool a1_8], .int .i64 t225] rfl z113_ ?_; (with_reducible refine (locate_space.calls k1 _ c0 l0 a1_0 _ _ l1_1 a1_2 a1_3 a1_4 a1_5 a1_6 a1_7 a1_8 t225 t227 _ ?side1 ?side2 ?side3 ?side4 A15.out).mono ?_); (case side1 => exact z20_); (case side2 => exact HC0.out); (case side3 => repeat (first | exact (Kd.C_below HR1_1.out z67_) | (with_reducible refine Kd.C_alloc ?_ _) | (with_reducible refine Kd.C_drewN ?_ _) | (with_reducible refine Kd.C_drew ?_))); (case side4 => exact HC1_1.out); rintro e w23 ⟨rfl, hb⟩; refine ⟨_, rfl, ?_⟩; replace HO224 := Aside0.mk (Kd.R_below z158_ hb); replace BK219 := Aside0.mk (blk_below (g := gb219) (o := .cells #[.string a1_0, .slice A1_1 l1_1.length c1_1, .int .i64 a1_2, .int .i64 a1_3, .int .i64 a1_4, .bool a1_5, .int .i64 a1_6, .bool a1_7, .bool a1_8] 25 (0, 0)) z140_ hb); replace BK221 := Aside0.mk (blk_below (g := gb221) (o := .stringIter a1_0 (itN_ a1_0 x222001_1 : Int).toNat) z141_ hb); replace HB := Aside0.mk (below_step z67_ hb); (try clear hb); (try clear hb2); (try clear hk); (try clear hi)) | ((with_reducible refine gate_callee (f := 57) rfl ?_); refine goesL_ (some 50) rfl rfl Try.func57 (by kernel_rfl) rfl #[.int .i64 x6_1, .int .i64 t227] rfl z113_ ?_; (with_reducible refine (scaled_Add.calls x6_1 t227 t228 _ A16.out).mono ?_); rintro e w24 ⟨rfl, hb⟩; refine ⟨_, rfl, ?_⟩; replace HO224 := Aside0.mk (Kd.R_below z158_ hb); replace BK219 := Aside0.mk (blk_below (g := gb219) (o := .cells #[.string a1_0, .slice A1_1 l1_1.length c1_1, .int .i64 a1_2, .int .i64 a1_3, .int .i64 a1_4, .bool a1_5, .int .i64 a1_6, .bool a1_7, .bool a1_8] 25 (0, 0)) z140_ hb); replace BK221 := Aside0.mk (blk_below (g := gb221) (o := .stringIter a1_0 (itN_ a1_0 x222001_1 : Int).toNat) z141_ hb); replace HB := Aside0.mk (below_step z67_ hb); (try clear hb); (try clear hb2); (try clear hk); (try clear hi)))
      go_roundg k1
      case measure => have := HK1.out; omega
      case rel => exact ⟨(y222), (t228), (itN_ a1_0 x222001_1), z208_, H', ⟨z218_⟩, ⟨z158_⟩, ⟨z140_⟩, ⟨z141_⟩, ⟨z67_⟩⟩
/-! ### paint_drawn: function 42 -/
def paint_drawn.f (k : Nat) (a0 : Int) : Option (Bool) := (runes_Kind.f k a0).bind fun t234 => (if t234 = 0 then (some true) else (some (t234 == 6)))
theorem paint_drawn.mono : ∀ a0 k, LeO (paint_drawn.f k a0) (paint_drawn.f (k + 1) a0) := by
  intro a0 k
  unfold paint_drawn.f
  repeat' first | (with_reducible first | exact runes_Kind.mono _ _ | exact LeO.refl _ | exact LeO.none _ | refine LeO.ite ?_ ?_ | refine LeO.bind ?_ (fun _ => ?_)) | exact runes_Kind.mono _ _ | exact LeO.none _ | refine LeO.ite ?_ ?_ | refine LeO.bind ?_ (fun _ => ?_)
set_option maxHeartbeats 8000000 in
set_option maxRecDepth 100000 in
theorem paint_drawn.calls (k : Nat) (a0 : Int) (r : Bool) (w : World) (h : paint_drawn.f k a0 = some r) :
    Calls Try.prog 42 #[.int .i32 a0] w fun e w' => e = .returned (.bool r) ∧ Drawn0 w w' := by
  have H : ((runes_Kind.f k a0).bind fun t234 => (if t234 = 0 then (some true) else (some (t234 == 6)))) = some r := h
  clear h
  replace H := Option.bind_eq_some_iff.mp H
  obtain ⟨t234, A20, H⟩ := H
  replace H : (if t234 = 0 then (some true) else (some (t234 == 6))) = some r := H
  have A2 := Aside0.mk A20
  clear A20
  by_cases c3 : t234 = 0
  rotate_left
  · rw [if_neg c3] at H
    have c3b0 : (t234 == 0) = false := beq_eq_false_iff_ne.mpr c3
    have c3b1 : (t234 != 0) = true := bne_iff_ne.mpr c3
    obtain rfl := Option.some.inj H
    go_enter Try.func42, Try.ntmps42
    go_wp2_with (first | ((with_reducible refine gate_callee (f := 43) rfl ?_); refine goesL_ (some 5) rfl rfl Try.func43 (by kernel_rfl) rfl #[.int .i32 a0] rfl z113_ ?_; (with_reducible refine (runes_Kind.calls k a0 t234 _ A2.out).mono ?_); rintro e w' ⟨rfl, ⟨nd, rfl⟩⟩; refine ⟨_, rfl, ?_⟩))
    go_ret
    exact ⟨z190_, z199_⟩
  rw [if_pos c3] at H
  have c3b0 : (t234 == 0) = true := beq_iff_eq.mpr c3
  have c3b1 : (t234 != 0) = false := bne_eq_false_iff_eq.mpr c3
  clear c3
  obtain rfl := Option.some.inj H
  go_enter Try.func42, Try.ntmps42
  go_wp2_with (first | ((with_reducible refine gate_callee (f := 43) rfl ?_); refine goesL_ (some 5) rfl rfl Try.func43 (by kernel_rfl) rfl #[.int .i32 a0] rfl z113_ ?_; (with_reducible refine (runes_Kind.calls k a0 t234 _ A2.out).mono ?_); rintro e w' ⟨rfl, ⟨nd, rfl⟩⟩; refine ⟨_, rfl, ?_⟩))
  go_ret
  exact ⟨z190_, z199_⟩
/-! ### paint_styleAt: function 44 -/
def paint_styleAt.l0 : Nat → Int → List (S89) → Int → Int → Option (Int)
  | 0, _, _, _, _ => none
  | k + 1, x1, x7, x8, x9 => if x9 < x8 then (if 0 ≤ x9 then (if x9 < (x7.length : Int) then (if ((rd_T89 x7 x9).f0) ≤ 0 then (paint_styleAt.l0 k x1 x7 x8 (wrap64 (x9 + 1))) else (if x1 < ((rd_T89 x7 x9).f0) then (some ((rd_T89 x7 x9).f1)) else (paint_styleAt.l0 k (wrap64 (x1 - ((rd_T89 x7 x9).f0))) x7 x8 (wrap64 (x9 + 1))))) else (none)) else (none)) else (some 0)
def paint_styleAt.f (k : Nat) (l0 : List (S89)) (a1 : Int) : Option (Int) := paint_styleAt.l0 k a1 l0 (l0.length : Int) 0
theorem paint_styleAt.mono_l : ∀ k, (∀ y0 y1 y2 y3, LeO (paint_styleAt.l0 k y0 y1 y2 y3) (paint_styleAt.l0 (k + 1) y0 y1 y2 y3))
  | 0 => fun _ _ _ _ r h => by simp [paint_styleAt.l0] at h
  | k + 1 => by
    have ih0 := paint_styleAt.mono_l k
    · intro y0 y1 y2 y3
      unfold paint_styleAt.l0
      repeat' first | (with_reducible first | exact ih0 _ _ _ _ | exact LeO.refl _ | exact LeO.none _ | refine LeO.ite ?_ ?_ | refine LeO.bind ?_ (fun _ => ?_)) | exact ih0 _ _ _ _ | exact LeO.none _ | refine LeO.ite ?_ ?_ | refine LeO.bind ?_ (fun _ => ?_)
theorem paint_styleAt.mono : ∀ a0 a1 k, LeO (paint_styleAt.f k a0 a1) (paint_styleAt.f (k + 1) a0 a1) := by
  intro a0 a1 k
  have ih0 := paint_styleAt.mono_l k
  unfold paint_styleAt.f
  repeat' first | (with_reducible first | exact ih0 _ _ _ _ | exact LeO.refl _ | exact LeO.none _ | refine LeO.ite ?_ ?_ | refine LeO.bind ?_ (fun _ => ?_)) | exact ih0 _ _ _ _ | exact LeO.none _ | refine LeO.ite ?_ ?_ | refine LeO.bind ?_ (fun _ => ?_)
set_option maxHeartbeats 8000000 in
set_option maxRecDepth 100000 in
theorem paint_styleAt.calls (k : Nat) (A0 : Option Addr) (c0 : Nat) (l0 : List (S89)) (a1 : Int) (r : Int) (w : World) (hr0 : Kd.C k89 w A0 l0.length l0) (hc0 : l0.length ≤ c0) (h : paint_styleAt.f k l0 a1 = some r) :
    Calls Try.prog 44 #[.slice A0 l0.length c0, .int .i64 a1] w fun e w' => e = .returned (.int .i64 r) ∧ Below w.heap.size w w' := by
  have hu89 := Try.underlying89
  have HR0 := Aside0.mk hr0
  have HC0 := Aside0.mk hc0
  clear hr0 hc0
  have HB := Aside0.mk (Below.refl w.heap.size w)
  have H : (paint_styleAt.l0 k a1 l0 (l0.length : Int) 0) = some r := h
  clear h
  have H' := Aside0.mk H
  clear H
  go_enter Try.func44, Try.ntmps44
  go_wp2
  go_loopg [1, 9] k (fun kq v1 v9 w' => ∃ (x1_1 : Int) (x9_1 : Int), v1 = .int .i64 x1_1 ∧ v9 = .int .i64 x9_1 ∧ Aside0 (paint_styleAt.l0 kq x1_1 l0 (l0.length : Int) x9_1 = some r) ∧ Aside0 (kq ≤ k) ∧ Aside0 (Below w.heap.size w w'))
  case atStart => exact ⟨(a1), (0), z208_, z208_, H', ⟨Nat.le_refl _⟩, ⟨z117_⟩⟩
  case round =>
    clear H'
    try clear p2
    obtain ⟨x1_1, x9_1, rfl, rfl, HA, HK1, HB⟩ := hrel
    cases gk with
    | zero => exact absurd HA.out (by simp [paint_styleAt.l0])
    | succ k1 =>
      have H := HA.out
      clear HA
      simp only [paint_styleAt.l0] at H
      by_cases c3 : x9_1 < (l0.length : Int)
      rotate_left
      · rw [if_neg c3] at H
        have c3b0 : decide (x9_1 < (l0.length : Int)) = false := decide_eq_false c3
        clear c3
        obtain rfl := Option.some.inj H
        go_wp2
        go_ret
        exact ⟨z178_, z117_⟩
      rw [if_pos c3] at H
      have c3b0 : decide (x9_1 < (l0.length : Int)) = true := decide_eq_true c3
      clear c3
      by_cases c4 : 0 ≤ x9_1
      rotate_left
      · rw [if_neg c4] at H
        exact absurd H (by simp)
      rw [if_pos c4] at H
      have c4b0 : decide (0 ≤ x9_1) = true := decide_eq_true c4
      clear c4
      by_cases c5 : x9_1 < (l0.length : Int)
      rotate_left
      · rw [if_neg c5] at H
        exact absurd H (by simp)
      rw [if_pos c5] at H
      have c5b0 : decide (x9_1 < (l0.length : Int)) = true := decide_eq_true c5
      clear c5
      by_cases c6 : ((rd_T89 l0 x9_1).f0) ≤ 0
      · rw [if_pos c6] at H
        have c6b0 : decide (((rd_T89 l0 x9_1).f0) ≤ 0) = true := decide_eq_true c6
        clear c6
        have H' := Aside0.mk H
        clear H
        have p235 : 0 ≤ (x9_1 : Int) := of_decide_eq_true z204_
        have q235 : x9_1 < (l0.length : Int) := of_decide_eq_true z204_
        obtain ⟨ad235, e235, hx235_0, hx235_1⟩ := at_T89 HR0.out x9_1 p235 q235
        cases e235
        replace hx235_0 := (HB.out.cell (World.block_lt_of_cell? w _ hx235_0)).trans hx235_0
        replace hx235_1 := (HB.out.cell (World.block_lt_of_cell? w _ hx235_1)).trans hx235_1
        replace p235 := eq_true p235
        replace q235 := eq_true q235
        go_wp2_with (first | ((with_reducible refine gate_dst (N := 6) rfl ?_); refine box_event ?hg (N := 6) ?hd (cs := #[.int .i64 0, .int .i64 0]) (t := 89) ?hr ?_; (case hd => rfl); (case hg => rfl); (case hr => exact z209_); intro gb236 hg w7 hbox hb; have BK236 := Aside0.mk (hbox); have GW236 := Aside0.mk ((z85_ : w.heap.size ≤ gb236)); have GE236 := Aside0.mk ((z85_ : w.heap.size ≤ gb236)); replace HB := Aside0.mk (below_step z117_ hb); clear hb hbox hg; have hcz8_0 : w7.cell? ⟨gb236, 0, none⟩ = some (.int .i64 0) := (blk_cell BK236.out 0).trans rfl; have hcz8_1 : w7.cell? ⟨gb236, 1, none⟩ = some (.int .i64 0) := (blk_cell BK236.out 1).trans rfl; have hfz8_0 := blk_frozen BK236.out 0; have hfz8_1 := blk_frozen BK236.out 1))
        go_roundg k1
        case measure => have := HK1.out; omega
        case rel => exact ⟨(x1_1), (wrap64 (x9_1 + 1)), z208_, z208_, H', ⟨z218_⟩, ⟨z97_⟩⟩
      rw [if_neg c6] at H
      have c6b0 : decide (((rd_T89 l0 x9_1).f0) ≤ 0) = false := decide_eq_false c6
      clear c6
      by_cases c9 : x1_1 < ((rd_T89 l0 x9_1).f0)
      · rw [if_pos c9] at H
        have c9b0 : decide (x1_1 < ((rd_T89 l0 x9_1).f0)) = true := decide_eq_true c9
        clear c9
        obtain rfl := Option.some.inj H
        have p235 : 0 ≤ (x9_1 : Int) := of_decide_eq_true z204_
        have q235 : x9_1 < (l0.length : Int) := of_decide_eq_true z204_
        obtain ⟨ad235, e235, hx235_0, hx235_1⟩ := at_T89 HR0.out x9_1 p235 q235
        cases e235
        replace hx235_0 := (HB.out.cell (World.block_lt_of_cell? w _ hx235_0)).trans hx235_0
        replace hx235_1 := (HB.out.cell (World.block_lt_of_cell? w _ hx235_1)).trans hx235_1
        replace p235 := eq_true p235
        replace q235 := eq_true q235
        go_wp2_with (first | ((with_reducible refine gate_dst (N := 6) rfl ?_); refine box_event ?hg (N := 6) ?hd (cs := #[.int .i64 0, .int .i64 0]) (t := 89) ?hr ?_; (case hd => rfl); (case hg => rfl); (case hr => exact z209_); intro gb236 hg w10 hbox hb; have BK236 := Aside0.mk (hbox); have GW236 := Aside0.mk ((z85_ : w.heap.size ≤ gb236)); have GE236 := Aside0.mk ((z85_ : w.heap.size ≤ gb236)); replace HB := Aside0.mk (below_step z117_ hb); clear hb hbox hg; have hcz11_0 : w10.cell? ⟨gb236, 0, none⟩ = some (.int .i64 0) := (blk_cell BK236.out 0).trans rfl; have hcz11_1 : w10.cell? ⟨gb236, 1, none⟩ = some (.int .i64 0) := (blk_cell BK236.out 1).trans rfl; have hfz11_0 := blk_frozen BK236.out 0; have hfz11_1 := blk_frozen BK236.out 1))
        go_ret
        exact ⟨z178_, z97_⟩
      rw [if_neg c9] at H
      have c9b0 : decide (x1_1 < ((rd_T89 l0 x9_1).f0)) = false := decide_eq_false c9
      clear c9
      have H' := Aside0.mk H
      clear H
      have p235 : 0 ≤ (x9_1 : Int) := of_decide_eq_true z204_
      have q235 : x9_1 < (l0.length : Int) := of_decide_eq_true z204_
      obtain ⟨ad235, e235, hx235_0, hx235_1⟩ := at_T89 HR0.out x9_1 p235 q235
      cases e235
      replace hx235_0 := (HB.out.cell (World.block_lt_of_cell? w _ hx235_0)).trans hx235_0
      replace hx235_1 := (HB.out.cell (World.block_lt_of_cell? w _ hx235_1)).trans hx235_1
      replace p235 := eq_true p235
      replace q235 := eq_true q235
      go_wp2_with (first | ((with_reducible refine gate_dst (N := 6) rfl ?_); refine box_event ?hg (N := 6) ?hd (cs := #[.int .i64 0, .int .i64 0]) (t := 89) ?hr ?_; (case hd => rfl); (case hg => rfl); (case hr => exact z209_); intro gb236 hg w12 hbox hb; have BK236 := Aside0.mk (hbox); have GW236 := Aside0.mk ((z85_ : w.heap.size ≤ gb236)); have GE236 := Aside0.mk ((z85_ : w.heap.size ≤ gb236)); replace HB := Aside0.mk (below_step z117_ hb); clear hb hbox hg; have hcz13_0 : w12.cell? ⟨gb236, 0, none⟩ = some (.int .i64 0) := (blk_cell BK236.out 0).trans rfl; have hcz13_1 : w12.cell? ⟨gb236, 1, none⟩ = some (.int .i64 0) := (blk_cell BK236.out 1).trans rfl; have hfz13_0 := blk_frozen BK236.out 0; have hfz13_1 := blk_frozen BK236.out 1))
      go_roundg k1
      case measure => have := HK1.out; omega
      case rel => exact ⟨(wrap64 (x1_1 - ((rd_T89 l0 x9_1).f0))), (wrap64 (x9_1 + 1)), z208_, z208_, H', ⟨z218_⟩, ⟨z97_⟩⟩
/-! ### scaled_Neg: function 75 -/
def scaled_Neg.f (a0 : Int) : Option (Int) := (scaled_Clamp.f a0).bind fun t237 => (some (wrap64 (-t237)))
set_option maxHeartbeats 8000000 in
set_option maxRecDepth 100000 in
theorem scaled_Neg.calls (a0 : Int) (r : Int) (w : World) (h : scaled_Neg.f a0 = some r) :
    Calls Try.prog 75 #[.int .i64 a0] w fun e w' => e = .returned (.int .i64 r) ∧ Below w.heap.size w w' := by
  have HB := Aside0.mk (Below.refl w.heap.size w)
  have H : ((scaled_Clamp.f a0).bind fun t237 => (some (wrap64 (-t237)))) = some r := h
  clear h
  replace H := Option.bind_eq_some_iff.mp H
  obtain ⟨t237, A20, H⟩ := H
  replace H : (some (wrap64 (-t237))) = some r := H
  have A2 := Aside0.mk A20
  clear A20
  obtain rfl := Option.some.inj H
  go_enter Try.func75, Try.ntmps75
  go_wp2_with (first | ((with_reducible refine gate_callee (f := 82) rfl ?_); refine goesL_ (some 4) rfl rfl Try.func82 (by kernel_rfl) rfl #[.int .i64 a0] rfl z113_ ?_; (with_reducible refine (scaled_Clamp.calls a0 t237 _ A2.out).mono ?_); rintro e w3 ⟨rfl, hb⟩; refine ⟨_, rfl, ?_⟩; replace HB := Aside0.mk (below_step z117_ hb); (try clear hb); (try clear hb2); (try clear hk); (try clear hi)))
  go_ret
  exact ⟨z178_, z117_⟩
/-! ### scaled_Sub: function 45 -/
def scaled_Sub.f (a0 : Int) (a1 : Int) : Option (Int) := (scaled_Neg.f a1).bind fun t238 => ((scaled_Add.f a0 t238).bind fun t239 => (some t239))
set_option maxHeartbeats 8000000 in
set_option maxRecDepth 100000 in
theorem scaled_Sub.calls (a0 : Int) (a1 : Int) (r : Int) (w : World) (h : scaled_Sub.f a0 a1 = some r) :
    Calls Try.prog 45 #[.int .i64 a0, .int .i64 a1] w fun e w' => e = .returned (.int .i64 r) ∧ Below w.heap.size w w' := by
  have HB := Aside0.mk (Below.refl w.heap.size w)
  have H : ((scaled_Neg.f a1).bind fun t238 => ((scaled_Add.f a0 t238).bind fun t239 => (some t239))) = some r := h
  clear h
  replace H := Option.bind_eq_some_iff.mp H
  obtain ⟨t238, A30, H⟩ := H
  replace H : ((scaled_Add.f a0 t238).bind fun t239 => (some t239)) = some r := H
  have A3 := Aside0.mk A30
  clear A30
  replace H := Option.bind_eq_some_iff.mp H
  obtain ⟨t239, A40, H⟩ := H
  replace H : (some t239) = some r := H
  have A4 := Aside0.mk A40
  clear A40
  obtain rfl := Option.some.inj H
  go_enter Try.func45, Try.ntmps45
  go_wp2_with (first | ((with_reducible refine gate_callee (f := 75) rfl ?_); refine goesL_ (some 7) rfl rfl Try.func75 (by kernel_rfl) rfl #[.int .i64 a1] rfl z113_ ?_; (with_reducible refine (scaled_Neg.calls a1 t238 _ A3.out).mono ?_); rintro e w5 ⟨rfl, hb⟩; refine ⟨_, rfl, ?_⟩; replace HB := Aside0.mk (below_step z117_ hb); (try clear hb); (try clear hb2); (try clear hk); (try clear hi)) | ((with_reducible refine gate_callee (f := 57) rfl ?_); refine goesL_ (some 8) rfl rfl Try.func57 (by kernel_rfl) rfl #[.int .i64 a0, .int .i64 t238] rfl z113_ ?_; (with_reducible refine (scaled_Add.calls a0 t238 t239 _ A4.out).mono ?_); rintro e w6 ⟨rfl, hb⟩; refine ⟨_, rfl, ?_⟩; replace HB := Aside0.mk (below_step z117_ hb); (try clear hb); (try clear hb2); (try clear hk); (try clear hi)))
  go_ret
  exact ⟨z178_, z117_⟩
/-! ### paint_lastStyle: function 46 -/
def paint_lastStyle.l0 : Nat → Int → List (S89) → Int → Int → Option (Int)
  | 0, _, _, _, _ => none
  | k + 1, x3, x7, x8, x9 => if x9 < x8 then (if 0 ≤ x9 then (if x9 < (x7.length : Int) then (if ((rd_T89 x7 x9).f0) > 0 then (paint_lastStyle.l0 k ((rd_T89 x7 x9).f1) x7 x8 (wrap64 (x9 + 1))) else (paint_lastStyle.l0 k x3 x7 x8 (wrap64 (x9 + 1)))) else (none)) else (none)) else (some x3)
def paint_lastStyle.f (k : Nat) (a0_0 : ByteArray) (l0_1 : List (S89)) (a0_2 : Int) (a0_3 : Int) (a0_4 : Int) (a0_5 : Bool) (a0_6 : Int) (a0_7 : Bool) (a0_8 : Bool) : Option (Int) := paint_lastStyle.l0 k 0 l0_1 (l0_1.length : Int) 0
theorem paint_lastStyle.mono_l : ∀ k, (∀ y0 y1 y2 y3, LeO (paint_lastStyle.l0 k y0 y1 y2 y3) (paint_lastStyle.l0 (k + 1) y0 y1 y2 y3))
  | 0 => fun _ _ _ _ r h => by simp [paint_lastStyle.l0] at h
  | k + 1 => by
    have ih0 := paint_lastStyle.mono_l k
    · intro y0 y1 y2 y3
      unfold paint_lastStyle.l0
      repeat' first | (with_reducible first | exact ih0 _ _ _ _ | exact LeO.refl _ | exact LeO.none _ | refine LeO.ite ?_ ?_ | refine LeO.bind ?_ (fun _ => ?_)) | exact ih0 _ _ _ _ | exact LeO.none _ | refine LeO.ite ?_ ?_ | refine LeO.bind ?_ (fun _ => ?_)
theorem paint_lastStyle.mono : ∀ a0 a1 a2 a3 a4 a5 a6 a7 a8 k, LeO (paint_lastStyle.f k a0 a1 a2 a3 a4 a5 a6 a7 a8) (paint_lastStyle.f (k + 1) a0 a1 a2 a3 a4 a5 a6 a7 a8) := by
  intro a0 a1 a2 a3 a4 a5 a6 a7 a8 k
  have ih0 := paint_lastStyle.mono_l k
  unfold paint_lastStyle.f
  repeat' first | (with_reducible first | exact ih0 _ _ _ _ | exact LeO.refl _ | exact LeO.none _ | refine LeO.ite ?_ ?_ | refine LeO.bind ?_ (fun _ => ?_)) | exact ih0 _ _ _ _ | exact LeO.none _ | refine LeO.ite ?_ ?_ | refine LeO.bind ?_ (fun _ => ?_)
set_option maxHeartbeats 8000000 in
set_option maxRecDepth 100000 in
theorem paint_lastStyle.calls (k : Nat) (a0_0 : ByteArray) (A0_1 : Option Addr) (c0_1 : Nat) (l0_1 : List (S89)) (a0_2 : Int) (a0_3 : Int) (a0_4 : Int) (a0_5 : Bool) (a0_6 : Int) (a0_7 : Bool) (a0_8 : Bool) (r : Int) (w : World) (hr0_1 : Kd.C k89 w A0_1 l0_1.length l0_1) (hc0_1 : l0_1.length ≤ c0_1) (h : paint_lastStyle.f k a0_0 l0_1 a0_2 a0_3 a0_4 a0_5 a0_6 a0_7 a0_8 = some r) :
    Calls Try.prog 46 #[.agg #[.string a0_0, .slice A0_1 l0_1.length c0_1, .int .i64 a0_2, .int .i64 a0_3, .int .i64 a0_4, .bool a0_5, .int .i64 a0_6, .bool a0_7, .bool a0_8]] w fun e w' => e = .returned (.int .i64 r) ∧ Below w.heap.size w w' := by
  have hu25 := Try.underlying25
  have hu89 := Try.underlying89
  have HR0_1 := Aside0.mk hr0_1
  have HC0_1 := Aside0.mk hc0_1
  clear hr0_1 hc0_1
  have HB := Aside0.mk (Below.refl w.heap.size w)
  have H : (paint_lastStyle.l0 k 0 l0_1 (l0_1.length : Int) 0) = some r := h
  clear h
  have H' := Aside0.mk H
  clear H
  go_enter Try.func46, Try.ntmps46
  go_wp2_with (first | ((with_reducible refine gate_dst (N := 1) rfl ?_); refine box_event ?hg (N := 1) ?hd (cs := #[.string a0_0, .slice A0_1 l0_1.length c0_1, .int .i64 a0_2, .int .i64 a0_3, .int .i64 a0_4, .bool a0_5, .int .i64 a0_6, .bool a0_7, .bool a0_8]) (t := 25) ?hr ?_; (case hd => rfl); (case hg => rfl); (case hr => exact z209_); intro gb240 hg w2 hbox hb; have BK240 := Aside0.mk (hbox); have GW240 := Aside0.mk ((z85_ : w.heap.size ≤ gb240)); have GE240 := Aside0.mk ((z85_ : w.heap.size ≤ gb240)); replace HB := Aside0.mk (below_step z117_ hb); clear hb hbox hg; have hcz3_0 : w2.cell? ⟨gb240, 0, none⟩ = some (.string a0_0) := (blk_cell BK240.out 0).trans rfl; have hcz3_1 : w2.cell? ⟨gb240, 1, none⟩ = some (.slice A0_1 l0_1.length c0_1) := (blk_cell BK240.out 1).trans rfl; have hcz3_2 : w2.cell? ⟨gb240, 2, none⟩ = some (.int .i64 a0_2) := (blk_cell BK240.out 2).trans rfl; have hcz3_3 : w2.cell? ⟨gb240, 3, none⟩ = some (.int .i64 a0_3) := (blk_cell BK240.out 3).trans rfl; have hcz3_4 : w2.cell? ⟨gb240, 4, none⟩ = some (.int .i64 a0_4) := (blk_cell BK240.out 4).trans rfl; have hcz3_5 : w2.cell? ⟨gb240, 5, none⟩ = some (.bool a0_5) := (blk_cell BK240.out 5).trans rfl; have hcz3_6 : w2.cell? ⟨gb240, 6, none⟩ = some (.int .i64 a0_6) := (blk_cell BK240.out 6).trans rfl; have hcz3_7 : w2.cell? ⟨gb240, 7, none⟩ = some (.bool a0_7) := (blk_cell BK240.out 7).trans rfl; have hcz3_8 : w2.cell? ⟨gb240, 8, none⟩ = some (.bool a0_8) := (blk_cell BK240.out 8).trans rfl; have hfz3_0 := blk_frozen BK240.out 0; have hfz3_1 := blk_frozen BK240.out 1; have hfz3_2 := blk_frozen BK240.out 2; have hfz3_3 := blk_frozen BK240.out 3; have hfz3_4 := blk_frozen BK240.out 4; have hfz3_5 := blk_frozen BK240.out 5; have hfz3_6 := blk_frozen BK240.out 6; have hfz3_7 := blk_frozen BK240.out 7; have hfz3_8 := blk_frozen BK240.out 8))
  go_loopg [3, 9] k (fun kq v3 v9 w' => ∃ (x3_1 : Int) (x9_1 : Int), v3 = .int .i64 x3_1 ∧ v9 = .int .i64 x9_1 ∧ Aside0 (paint_lastStyle.l0 kq x3_1 l0_1 (l0_1.length : Int) x9_1 = some r) ∧ Aside0 (kq ≤ k) ∧ Aside0 (w'.heap[gb240]? = some (.cells #[.string a0_0, (.slice A0_1 l0_1.length c0_1), .int .i64 a0_2, .int .i64 a0_3, .int .i64 a0_4, .bool a0_5, .int .i64 a0_6, .bool a0_7, .bool a0_8] 25 (0, 0))) ∧ Aside0 (Below w.heap.size w w'))
  case atStart => exact ⟨(0), (0), z208_, z208_, H', ⟨Nat.le_refl _⟩, ⟨z142_⟩, ⟨z98_⟩⟩
  case round =>
    clear H'
    try clear p2
    try clear hcz3_0
    try clear hcz3_1
    try clear hcz3_2
    try clear hcz3_3
    try clear hcz3_4
    try clear hcz3_5
    try clear hcz3_6
    try clear hcz3_7
    try clear hcz3_8
    try clear hfz3_0
    try clear hfz3_1
    try clear hfz3_2
    try clear hfz3_3
    try clear hfz3_4
    try clear hfz3_5
    try clear hfz3_6
    try clear hfz3_7
    try clear hfz3_8
    obtain ⟨x3_1, x9_1, rfl, rfl, HA, HK1, BK240, HB⟩ := hrel
    cases gk with
    | zero => exact absurd HA.out (by simp [paint_lastStyle.l0])
    | succ k1 =>
      have H := HA.out
      clear HA
      simp only [paint_lastStyle.l0] at H
      by_cases c4 : x9_1 < (l0_1.length : Int)
      rotate_left
      · rw [if_neg c4] at H
        have c4b0 : decide (x9_1 < (l0_1.length : Int)) = false := decide_eq_false c4
        clear c4
        obtain rfl := Option.some.inj H
        go_wp2
        go_ret
        exact ⟨z178_, z98_⟩
      rw [if_pos c4] at H
      have c4b0 : decide (x9_1 < (l0_1.length : Int)) = true := decide_eq_true c4
      clear c4
      by_cases c5 : 0 ≤ x9_1
      rotate_left
      · rw [if_neg c5] at H
        exact absurd H (by simp)
      rw [if_pos c5] at H
      have c5b0 : decide (0 ≤ x9_1) = true := decide_eq_true c5
      clear c5
      by_cases c6 : x9_1 < (l0_1.length : Int)
      rotate_left
      · rw [if_neg c6] at H
        exact absurd H (by simp)
      rw [if_pos c6] at H
      have c6b0 : decide (x9_1 < (l0_1.length : Int)) = true := decide_eq_true c6
      clear c6
      by_cases c7 : ((rd_T89 l0_1 x9_1).f0) > 0
      rotate_left
      · rw [if_neg c7] at H
        have c7b0 : decide (0 < ((rd_T89 l0_1 x9_1).f0)) = false := decide_eq_false c7
        clear c7
        have H' := Aside0.mk H
        clear H
        have p241 : 0 ≤ (x9_1 : Int) := of_decide_eq_true z204_
        have q241 : x9_1 < (l0_1.length : Int) := of_decide_eq_true z204_
        obtain ⟨ad241, e241, hx241_0, hx241_1⟩ := at_T89 HR0_1.out x9_1 p241 q241
        cases e241
        replace hx241_0 := (HB.out.cell (World.block_lt_of_cell? w _ hx241_0)).trans hx241_0
        replace hx241_1 := (HB.out.cell (World.block_lt_of_cell? w _ hx241_1)).trans hx241_1
        replace p241 := eq_true p241
        replace q241 := eq_true q241
        go_wp2_with (first | ((with_reducible refine gate_dst (N := 5) rfl ?_); refine box_event ?hg (N := 5) ?hd (cs := #[.int .i64 0, .int .i64 0]) (t := 89) ?hr ?_; (case hd => rfl); (case hg => rfl); (case hr => exact z209_); intro gb242 hg w11 hbox hb; have BK242 := Aside0.mk (hbox); have GW242 := Aside0.mk ((z61_ : w.heap.size ≤ gb242)); have GE242 := Aside0.mk ((z61_ : w.heap.size ≤ gb242)); replace HB := Aside0.mk (below_step z98_ hb); have NB240_242 := Aside0.mk ((z22_ : gb240 ≠ gb242)); have NB242_240 := Aside0.mk ((z21_ : gb242 ≠ gb240)); replace BK240 := Aside0.mk (blk_below (g := gb240) (o := .cells #[.string a0_0, .slice (some ad241) l0_1.length c0_1, .int .i64 a0_2, .int .i64 a0_3, .int .i64 a0_4, .bool a0_5, .int .i64 a0_6, .bool a0_7, .bool a0_8] 25 (0, 0)) z142_ hb); clear hb hbox hg; have hnb12 := NB242_240.out; have hnc12 := NB240_242.out; have hcz13_0 : w11.cell? ⟨gb242, 0, none⟩ = some (.int .i64 0) := (blk_cell BK242.out 0).trans rfl; have hcz13_1 : w11.cell? ⟨gb242, 1, none⟩ = some (.int .i64 0) := (blk_cell BK242.out 1).trans rfl; have hfz13_0 := blk_frozen BK242.out 0; have hfz13_1 := blk_frozen BK242.out 1))
        go_roundg k1
        case measure => have := HK1.out; omega
        case rel => exact ⟨(x3_1), (wrap64 (x9_1 + 1)), z208_, z208_, H', ⟨z218_⟩, ⟨z15_⟩, ⟨z68_⟩⟩
      rw [if_pos c7] at H
      have c7b0 : decide (0 < ((rd_T89 l0_1 x9_1).f0)) = true := decide_eq_true c7
      clear c7
      have H' := Aside0.mk H
      clear H
      have p241 : 0 ≤ (x9_1 : Int) := of_decide_eq_true z204_
      have q241 : x9_1 < (l0_1.length : Int) := of_decide_eq_true z204_
      obtain ⟨ad241, e241, hx241_0, hx241_1⟩ := at_T89 HR0_1.out x9_1 p241 q241
      cases e241
      replace hx241_0 := (HB.out.cell (World.block_lt_of_cell? w _ hx241_0)).trans hx241_0
      replace hx241_1 := (HB.out.cell (World.block_lt_of_cell? w _ hx241_1)).trans hx241_1
      replace p241 := eq_true p241
      replace q241 := eq_true q241
      go_wp2_with (first | ((with_reducible refine gate_dst (N := 5) rfl ?_); refine box_event ?hg (N := 5) ?hd (cs := #[.int .i64 0, .int .i64 0]) (t := 89) ?hr ?_; (case hd => rfl); (case hg => rfl); (case hr => exact z209_); intro gb242 hg w8 hbox hb; have BK242 := Aside0.mk (hbox); have GW242 := Aside0.mk ((z61_ : w.heap.size ≤ gb242)); have GE242 := Aside0.mk ((z61_ : w.heap.size ≤ gb242)); replace HB := Aside0.mk (below_step z98_ hb); have NB240_242 := Aside0.mk ((z22_ : gb240 ≠ gb242)); have NB242_240 := Aside0.mk ((z21_ : gb242 ≠ gb240)); replace BK240 := Aside0.mk (blk_below (g := gb240) (o := .cells #[.string a0_0, .slice (some ad241) l0_1.length c0_1, .int .i64 a0_2, .int .i64 a0_3, .int .i64 a0_4, .bool a0_5, .int .i64 a0_6, .bool a0_7, .bool a0_8] 25 (0, 0)) z142_ hb); clear hb hbox hg; have hnb9 := NB242_240.out; have hnc9 := NB240_242.out; have hcz10_0 : w8.cell? ⟨gb242, 0, none⟩ = some (.int .i64 0) := (blk_cell BK242.out 0).trans rfl; have hcz10_1 : w8.cell? ⟨gb242, 1, none⟩ = some (.int .i64 0) := (blk_cell BK242.out 1).trans rfl; have hfz10_0 := blk_frozen BK242.out 0; have hfz10_1 := blk_frozen BK242.out 1))
      go_roundg k1
      case measure => have := HK1.out; omega
      case rel => exact ⟨((rd_T89 l0_1 x9_1).f1), (wrap64 (x9_1 + 1)), z208_, z208_, H', ⟨z218_⟩, ⟨z15_⟩, ⟨z68_⟩⟩
/-! ### metrics_Table_Hyphen: function 47 -/
def metrics_Table_Hyphen.f (l0 : List (S124)) (a1 : Int) : Option (Int) := (metrics_Table_of.f l0 a1).bind fun bt243 => (some bt243.2.2.2.2.1)
set_option maxHeartbeats 8000000 in
set_option maxRecDepth 100000 in
theorem metrics_Table_Hyphen.calls (A0 : Option Addr) (c0 : Nat) (l0 : List (S124)) (a1 : Int) (r : Int) (w : World) (hr0 : Kd.C k124 w A0 l0.length l0) (hc0 : l0.length ≤ c0) (h : metrics_Table_Hyphen.f l0 a1 = some r) :
    Calls Try.prog 47 #[.pointer A0, .int .i64 a1] w fun e w' => e = .returned (.int .i64 r) ∧ Below w.heap.size w w' := by
  have HR0 := Aside0.mk hr0
  have HC0 := Aside0.mk hc0
  clear hr0 hc0
  have HB := Aside0.mk (Below.refl w.heap.size w)
  have H : ((metrics_Table_of.f l0 a1).bind fun bt243 => (some bt243.2.2.2.2.1)) = some r := h
  clear h
  replace H := Option.bind_eq_some_iff.mp H
  obtain ⟨⟨t243, t244, t245, t246, t247, t248, t249, t252⟩, A30, H⟩ := H
  replace H : (some t247) = some r := H
  have A3 := Aside0.mk A30
  clear A30
  obtain rfl := Option.some.inj H
  go_enter Try.func47, Try.ntmps47
  go_wp2_with (first | ((with_reducible refine gate_callee (f := 76) rfl ?_); refine goesL_ (some 7) rfl rfl Try.func76 (by kernel_rfl) rfl #[.pointer A0, .int .i64 a1] rfl z113_ ?_; (with_reducible refine (metrics_Table_of.calls (fun k_ => k_ < w.heap.size) _ c0 l0 a1 t243 t244 t245 t246 t247 t248 t249 t252 _ ?side1 A3.out).mono ?_); (case side1 => exact z55_); rintro e w4 ⟨v250, rfl, ho0, hb⟩; refine ⟨_, rfl, ?_⟩; have hfd : ∀ w_ : World, (Instr.field 87 (.agg #[.int .i64 t243, .int .i64 t244, .int .i64 t245, .int .i64 t246, .int .i64 t247, .int .i64 t248, v250, .bool t252]) 4).run Try.prog w_ = .ok (.int .i64 t247) w_ := (fun _ => by kernel_rfl); have HO251 := Aside0.mk (Kd.V_lower (Kd.V_mono (ok' := fun k_ => True) ho0 (fun k_ hk_ => trivial)) (below_size z117_)); replace HB := Aside0.mk (below_step z117_ hb); (try clear hb); (try clear hb2); (try clear hk); (try clear hi); (try clear ho0)))
  go_ret
  exact ⟨z178_, z117_⟩
end Go.Proofs.Ytblmcdpfhdamjaa.PPaintWindow
