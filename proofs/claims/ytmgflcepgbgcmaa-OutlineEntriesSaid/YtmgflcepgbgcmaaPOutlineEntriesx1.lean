-- WRITTEN BY wip/xprint.py of this repo, over the kit's print; functions the print does not take are by hand
import Derived.Test.YtmgflcepgbgcmaaPOutlineEntriesx0
namespace Go.Proofs.Ytmgflcepgbgcmaa.POutlineEntries
open Go.RowKit Go.Proofs.YtmgflcepgbgcmaaW.PrintWords Go.Proofs.YtmgflcepgbgcmaaW.PrintLast Go.Proofs.YtmgflcepgbgcmaaW.PrintMore
attribute [local go_sem] max2_int min2_int max_two min_two max_three min_three max_four min_four   -- for this text's walks alone
set_option linter.unusedVariables false
set_option linter.unusedSimpArgs false

/-! ### sizes of runes: by hand -/
def more_ (s : ByteArray) (i : Int) : Nat → Int → Int → Int → Int
  | 0, n, _, _ => n - i
  | k + 1, n, lo, hi => if (s.size : Int) ≤ n then 0 else if bt s n < lo then 0 else if hi < bt s n then 0 else more_ s i k (n + 1) 128 191
def lead_ (s : ByteArray) (i c : Int) : Int :=
  if c < 128 then 1 else if c < 194 then 0 else if 244 < c then 0 else
  if c < 224 then more_ s i 1 (i + 1) 128 191 else
  if c < 240 then (if c = 224 then more_ s i 2 (i + 1) 160 191 else if c = 237 then more_ s i 2 (i + 1) 128 159 else more_ s i 2 (i + 1) 128 191) else
  if c = 240 then more_ s i 3 (i + 1) 144 191 else if c = 244 then more_ s i 3 (i + 1) 128 143 else more_ s i 3 (i + 1) 128 191
def rsize_ (s : ByteArray) (i : Int) : Int := if i < 0 then 0 else if (s.size : Int) ≤ i then 0 else lead_ s i (bt s i)
def intOfS : Value → Int | .int _ q => q | _ => 0


/-! ### strings.Builder by hand -/
theorem builder_infoByte : (Try.prog.info? 5).map (fun i => (i.zero, i.size, i.bytes)) = some (some (.int .u8 0), 1, 1) := by kernel_rfl
theorem builder_size : (Try.prog.info? 58).map (fun i => i.size) = some 2 := by kernel_rfl
set_option maxHeartbeats 1000000 in
set_option maxRecDepth 100000 in
theorem builder_cc_used (b : Nat) (w : World) (h0 : w.cell? ⟨b, 0, none⟩ = some (.pointer (some ⟨b, 0, none⟩))) :
    Calls Try.prog 49 #[.pointer (some ⟨b, 0, none⟩)] w fun e w' => e = .returned (.tuple #[]) ∧ w' = w := by
  obtain ⟨j, hj, _⟩ := Option.map_eq_some_iff.1 builder_size
  go_enter Try.func49, Try.ntmps49
  go_wp2
  rw [Lib.run_neq_ptr_same w _ Try.underlying55 hj]
  go_wp2
  go_end0
  exact ⟨rfl, rfl⟩
set_option maxHeartbeats 1000000 in
set_option maxRecDepth 100000 in
theorem builder_cc_fresh (b : Nat) (w : World) (h0 : w.cell? ⟨b, 0, none⟩ = some (.pointer none)) (hsh : w.shape? b = some (58, 2)) (hfz : w.frozen? ⟨b, 0, none⟩ = false) :
    Calls Try.prog 49 #[.pointer (some ⟨b, 0, none⟩)] w fun e w' => e = .returned (.tuple #[]) ∧ w' = w.setCell ⟨b, 0, none⟩ (.pointer (some ⟨b, 0, none⟩)) := by
  obtain ⟨j, hj, hjs⟩ := Option.map_eq_some_iff.1 builder_size
  go_enter Try.func49, Try.ntmps49
  go_wp2
  rw [Lib.run_to_unsafe w ⟨b, 0, none⟩ Try.underlying55 Try.underlying114 hj (by rw [hjs]; decide) hsh (Nat.zero_lt_succ 1)]
  simp only [Result.andThen]
  rw [Oper.upon_value]
  go_wp2
  rw [run_callFunc_extern Try.func66 (by kernel_rfl) (by kernel_rfl) (by kernel_rfl) (e := Extern.AbiNoEscape.same) (by kernel_rfl)]
  rw [Lib.run_noEscape]
  simp only [Result.andThen]
  rw [Oper.upon_value]
  go_wp2
  rw [Lib.run_from_unsafe w ⟨b, 0, none⟩ Try.underlying114 Try.underlying55 hj hsh (by kernel_rfl)]
  simp only [Result.andThen]
  rw [Oper.upon_value]
  go_wp2
  go_end0
  exact ⟨rfl, rfl⟩
theorem builder_cc (B b : Nat) (bs : List Value) (w : World) (h : Lib.IsBuilder 58 5 B b bs w) :
    Calls Try.prog 49 #[.pointer (some ⟨b, 0, none⟩)] w fun e w' => e = .returned (.tuple #[]) ∧ (Lib.BuilderAt 58 5 B b (.pointer (some ⟨b, 0, none⟩)) bs w' ∧ Below B w w' ∧ Lib.OthersKept 5 (some b) w w') := by
  rcases h with h | h
  · refine (builder_cc_fresh b w h.cell0 h.shape h.frozen0).mono ?_
    rintro e w' ⟨rfl, rfl⟩
    exact ⟨rfl, h.used _, (Below.refl B w).setCell (p := ⟨b, 0, none⟩) h.1 _, (Lib.OthersKept.refl 5 (some b) w).setCell ⟨b, 0, none⟩ rfl _⟩
  · refine (builder_cc_used b w h.cell0).mono ?_
    rintro e w' ⟨rfl, rfl⟩
    exact ⟨rfl, h, Below.refl B _, Lib.OthersKept.refl _ _ _⟩
set_option maxHeartbeats 2000000 in
set_option maxRecDepth 100000 in
theorem builder_ws (B b : Nat) (bs : List Value) (s : ByteArray) (w : World) (h : Lib.IsBuilder 58 5 B b bs w) (hlen : bs.length + s.size ≤ 140737488355328) (hBw : B ≤ w.heap.size) :
    Calls Try.prog 29 #[.pointer (some ⟨b, 0, none⟩), .string s] w fun e w' => e = .returned (.tuple #[.int .i64 s.size, .nilIface]) ∧ (Lib.BuilderAt 58 5 B b (.pointer (some ⟨b, 0, none⟩)) (bs ++ Lib.strCells s) w' ∧ Below B w w' ∧ Lib.OthersKept 5 (some b) w w') := by
  obtain ⟨i0, hi, hz0, hz1, hz2⟩ := info_parts builder_infoByte
  go_enter Try.func29, Try.ntmps29
  go_wp2_with (go_at_call 49; refine (builder_cc B b bs _ h).mono ?_)
  rintro e w1 ⟨rfl, h1, hb1, ho1⟩
  obtain ⟨hB, v, hbk, hown, hne⟩ := h1
  have c0 : w1.cell? ⟨b, 0, none⟩ = some (.pointer (some ⟨b, 0, none⟩)) := by rw [Lib.cell_of_heap hbk]; rfl
  have c1 : w1.cell? ⟨b, 1, none⟩ = some v := by rw [Lib.cell_of_heap hbk]; rfl
  go_wp2_with (at_builtin; refine Lib.wpList_append_own_string _ rfl _ _ 56 9 rfl B 5 i0 Try.underlying56 Try.underlying9 hi hz0 hz1 hz2 _ _ _ rfl hown s rfl ?c3 ?c4 ?c5 ?_)
  case c3 => unfold maxLen; omega
  case c4 => omega
  case c5 => have := hb1.size; omega
  intro v' w2 hown' hgrow _
  have hlt : b < w1.heap.size := by
    rcases Nat.lt_or_ge b w1.heap.size with h' | h'
    · exact h'
    · simp [Array.getElem?_eq_none h'] at hbk
  have hb2 : w2.heap[b]? = some (.cells #[.pointer (some ⟨b, 0, none⟩), v] 58 (0, 0)) := by
    rw [hgrow.block b hlt (fun e => hne e.symm)]
    exact hbk
  have d0 : w2.cell? ⟨b, 0, none⟩ = some (.pointer (some ⟨b, 0, none⟩)) := by rw [Lib.cell_of_heap hb2]; rfl
  have d1 : w2.cell? ⟨b, 1, none⟩ = some v := by rw [Lib.cell_of_heap hb2]; rfl
  have f1 : w2.frozen? ⟨b, 1, none⟩ = false := Lib.frozen_of_heap hb2 1
  obtain ⟨ao, n', cap, rfl⟩ : ∃ ao n' cap, v' = .slice ao n' cap := by
    rcases hown'.2 with ⟨hv, _⟩ | ⟨g, cap, cur, hv, _⟩
    · exact ⟨_, _, _, hv⟩
    · exact ⟨_, _, _, hv⟩
  go_wp2
  go_ret2
  refine ⟨rfl, ?_, ?_, ?_⟩
  · exact Lib.BuilderAt.put (T := 58) (e := 5) hB hb2 (bs' := bs ++ Lib.strCells s) (by simpa [Lib.strCells_length] using hown') (by decide)
  · exact (hb1.grown hgrow (by have := hb1.size; omega) (fun k hk => (hown.lt k hk).1)).setCell (p := ⟨b, 1, none⟩) hB _
  · exact (ho1.grown hgrow (fun g hg => by
      rcases hown.2 with ⟨rfl, _⟩ | ⟨g', cap, cur, rfl, _, hgg, _⟩
      · simp [Value.ownBlock] at hg
      · simp [Value.ownBlock] at hg
        subst hg
        exact ⟨cur, _, hgg⟩)).setCell ⟨b, 1, none⟩ rfl _


/-! ### outline_Roman: by hand -/
def romT_ : List (Nat × List UInt8) := [(1000, [109]), (900, [99, 109]), (500, [100]), (400, [99, 100]), (100, [99]), (90, [120, 99]), (50, [108]), (40, [120, 108]), (10, [120]), (9, [105, 120]), (5, [118]), (4, [105, 118]), (1, [105])]
def romL_ : List (Nat × List UInt8) → Nat → List UInt8
  | [], _ => []
  | (v, s) :: t, n => (List.replicate (n / v) s).flatten ++ romL_ t (n % v)
def romV_ (k : Nat) : Nat := (romT_.getD k (1, [])).1
def romS_ (k : Nat) : List UInt8 := (romT_.getD k (1, [])).2
theorem rom_drop : ∀ k, k < 13 → romT_.drop k = (romV_ k, romS_ k) :: romT_.drop (k + 1) := by decide
theorem rom_pos : ∀ k, k < 13 → 1 ≤ romV_ k ∧ romV_ k ≤ 1000 ∧ (romS_ k).length ≤ 2 := by decide
theorem romL_more {v m : Nat} {s : List UInt8} {t : List (Nat × List UInt8)} (hv : 1 ≤ v) (h : v ≤ m) : romL_ ((v, s) :: t) m = s ++ romL_ ((v, s) :: t) (m - v) := by
  simp only [romL_]
  have e1 : m / v = (m - v) / v + 1 := by
    have := Nat.div_eq_sub_div (by omega : 0 < v) h
    omega
  have e2 : m % v = (m - v) % v := by rw [Nat.mod_eq_sub_mod h]
  rw [e1, e2, List.replicate_succ, List.flatten_cons, List.append_assoc]
theorem romL_less {v m : Nat} {s : List UInt8} {t : List (Nat × List UInt8)} (h : m < v) : romL_ ((v, s) :: t) m = romL_ t m := by
  simp only [romL_]
  rw [Nat.div_eq_of_lt h, Nat.mod_eq_of_lt h]; rfl
def romCells_ : Array Value := #[.int .i64 1000, .string ⟨#[109]⟩, .int .i64 900, .string ⟨#[99, 109]⟩, .int .i64 500, .string ⟨#[100]⟩, .int .i64 400, .string ⟨#[99, 100]⟩, .int .i64 100, .string ⟨#[99]⟩, .int .i64 90, .string ⟨#[120, 99]⟩, .int .i64 50, .string ⟨#[108]⟩, .int .i64 40, .string ⟨#[120, 108]⟩, .int .i64 10, .string ⟨#[120]⟩, .int .i64 9, .string ⟨#[105, 120]⟩, .int .i64 5, .string ⟨#[118]⟩, .int .i64 4, .string ⟨#[105, 118]⟩, .int .i64 1, .string ⟨#[105]⟩]
theorem rom_cells : ∀ k, k < 13 → romCells_[k * 2]? = some (.int .i64 (romV_ k : Int)) ∧ romCells_[k * 2 + 1]? = some (.string ⟨(romS_ k).toArray⟩)
  | 0, _ | 1, _ | 2, _ | 3, _ | 4, _ | 5, _ | 6, _ | 7, _ | 8, _ | 9, _ | 10, _ | 11, _ | 12, _ => ⟨rfl, rfl⟩
  | n + 13, h => absurd h (by omega)
theorem heap_new_ (w : World) (o : Obj) : (w.alloc o).heap[w.heap.size]? = some o := (MapKept.heap_alloc w o).1
theorem rom_heap1 (w : World) (o p : Obj) : ((w.alloc o).alloc p).heap[w.heap.size + 1]? = some p := by
  have := heap_new_ (w.alloc o) p
  rw [show (w.alloc o).heap.size = w.heap.size + 1 by simp] at this
  exact this
theorem rom_size_ {w : World} {k : Nat} {o : Obj} (h : w.heap[k]? = some o) : k + 1 ≤ w.heap.size := (Array.getElem?_eq_some_iff.1 h).1
theorem Lib.IsBuilder.allocs_ {T e : TypeId} {B b : Nat} {bs : List Value} {w : World} {o : Obj} (h : Go.Lib.IsBuilder T e B b bs w) : Go.Lib.IsBuilder T e B b bs (w.alloc o) := by
  rcases h with ⟨h1, v, hb, ho, hn⟩ | ⟨h1, v, hb, ho, hn⟩
  · exact .inl ⟨h1, v, (Go.Lib.alloc_old w o b (Array.getElem?_eq_some_iff.1 hb).1).trans hb, ho.alloc o, hn⟩
  · exact .inr ⟨h1, v, (Go.Lib.alloc_old w o b (Array.getElem?_eq_some_iff.1 hb).1).trans hb, ho.alloc o, hn⟩
theorem byteCells_app_ (a s : List UInt8) : Lib.byteCells a ++ Lib.strCells ⟨s.toArray⟩ = Lib.byteCells (a ++ s) := by simp [Lib.byteCells, Lib.strCells]
def outline_Roman.f (a0 : Int) : Option ByteArray := if a0 < 1 then some ⟨#[]⟩ else if a0 > 3999 then some ⟨#[]⟩ else some ⟨(romL_ romT_ a0.toNat).toArray⟩
set_option maxHeartbeats 8000000 in
set_option maxRecDepth 100000 in
theorem outline_Roman.calls (a0 : Int) (r : ByteArray) (w : World) (h : outline_Roman.f a0 = some r) :
    Calls Try.prog 11 #[.int .i64 a0] w fun e w' => e = .returned (.string r) ∧ Below w.heap.size w w' := by
  unfold outline_Roman.f at h
  by_cases c1 : a0 < 1
  · rw [if_pos c1] at h
    obtain rfl := Option.some.inj h
    have c1b : decide (a0 < 1) = true := decide_eq_true c1
    clear h c1
    go_enter Try.func11, Try.ntmps11
    go_wp2
    go_ret
    exact ⟨rfl, Below.refl _ _⟩
  rw [if_neg c1] at h
  have c1b : decide (a0 < 1) = false := decide_eq_false c1
  by_cases c2 : a0 > 3999
  · rw [if_pos c2] at h
    obtain rfl := Option.some.inj h
    have c2b : decide (a0 > 3999) = true := decide_eq_true c2
    clear h c1 c2
    go_enter Try.func11, Try.ntmps11
    go_wp2
    go_ret
    exact ⟨rfl, Below.refl _ _⟩
  rw [if_neg c2] at h
  have c2b : decide (a0 > 3999) = false := decide_eq_false c2
  have hr := Option.some.inj h
  clear h
  obtain ⟨n, rfl⟩ : ∃ n : Nat, a0 = n := ⟨a0.toNat, by omega⟩
  rw [Int.toNat_natCast] at hr
  obtain ⟨L, hL⟩ : ∃ L, L = romL_ romT_ n := ⟨_, rfl⟩
  rw [← hL] at hr
  have hn : n ≤ 3999 := by omega
  have HL := Aside0.mk hL
  subst hr
  clear hL c1 c2
  go_enter Try.func11, Try.ntmps11
  go_wp2
  go_loopw [0, 27] (fun v0 v27 wr => ∃ (m k : Nat) (acc : List UInt8), v0 = .int .i64 m ∧ v27 = .int .i64 k ∧ Aside0 (k ≤ 13 ∧ m ≤ 3999 ∧ acc.length ≤ 8000 * k ∧ acc ++ romL_ (romT_.drop k) m = L) ∧ Aside0 (Lib.IsBuilder 58 5 w.heap.size w.heap.size (Lib.byteCells acc) wr) ∧ Aside0 (wr.heap[w.heap.size + 1]? = some (.cells romCells_ 59 (0, 0))) ∧ Aside0 (Below w.heap.size w wr ∧ w.heap.size + 2 ≤ wr.heap.size)) (fun _ v27 _ => 13 - (intOfS v27).toNat)
  case atStart =>
    refine ⟨n, 0, [], rfl, rfl, ⟨by omega, hn, by simp, by rw [HL.out]; rfl⟩, ⟨?_⟩, ⟨?_⟩, ⟨?_, ?_⟩⟩
    · exact Lib.IsBuilder.allocs_ (Lib.fresh_isBuilder 58 5 w)
    · exact rom_heap1 w _ _
    · exact ((Below.refl _ _).alloc (Nat.le_refl _) _).alloc (by simp) _
    · simp
  case round =>
    obtain ⟨m, k, acc, rfl, rfl, HA, HI, HT, HBz⟩ := hrel
    obtain ⟨hB, hz⟩ := HBz.out
    obtain ⟨g0, g1, g2, g3⟩ := HA.out
    clear HA HBz HL
    obtain ⟨wo, rfl⟩ : ∃ wo : World, wo = wr := ⟨_, rfl⟩
    by_cases hk : k < 13
    · have hc := rom_cells k hk
      have q1 : wo.cell? ⟨w.heap.size + 1, k * 2, none⟩ = some (.int .i64 (romV_ k : Int)) := (blk_cell HT.out (k * 2)).trans hc.1
      have q2 : wo.cell? ⟨w.heap.size + 1, k * 2 + 1, none⟩ = some (.string ⟨(romS_ k).toArray⟩) := (blk_cell HT.out (k * 2 + 1)).trans hc.2
      have G3 := Aside0.mk g3
      clear hc g3
      have hkb : decide ((k : Int) < 13) = true := decide_eq_true (by omega)
      obtain ⟨v1, v2, v3⟩ := rom_pos k hk
      obtain ⟨v, hv⟩ : ∃ v, v = romV_ k := ⟨_, rfl⟩
      obtain ⟨s, hs⟩ : ∃ s, s = romS_ k := ⟨_, rfl⟩
      rw [← hv] at q1 v1 v2
      rw [← hs] at q2 v3
      have hdr := rom_drop k hk
      rw [← hv, ← hs] at hdr
      have HD := Aside0.mk hdr
      clear hv hs hdr
      go_wp2
      have hx0 : (wo.alloc (.cells #[.int .i64 (v : Int), .string ⟨s.toArray⟩] 59)).heap[wo.heap.size]? = some (.cells #[.int .i64 (v : Int), .string ⟨s.toArray⟩] 59 (0, 0)) := heap_new_ wo _
      have hI1 : Lib.IsBuilder 58 5 w.heap.size w.heap.size (Lib.byteCells acc) (wo.alloc (.cells #[.int .i64 (v : Int), .string ⟨s.toArray⟩] 59)) := Lib.IsBuilder.allocs_ HI.out
      have hT1 : (wo.alloc (.cells #[.int .i64 (v : Int), .string ⟨s.toArray⟩] 59)).heap[w.heap.size + 1]? = some (.cells romCells_ 59 (0, 0)) := (Lib.alloc_old wo _ (w.heap.size + 1) (by omega)).trans HT.out
      have hB1 : Below w.heap.size w (wo.alloc (.cells #[.int .i64 (v : Int), .string ⟨s.toArray⟩] 59)) := hB.alloc (by omega) _
      have hz1 : wo.heap.size + 1 ≤ (wo.alloc (.cells #[.int .i64 (v : Int), .string ⟨s.toArray⟩] 59)).heap.size := by simp
      have HX0 := Aside0.mk hx0
      have HI1 := Aside0.mk hI1
      have HT1 := Aside0.mk hT1
      have HBZ := Aside0.mk (And.intro hB1 hz1)
      obtain ⟨W1, hW1⟩ : ∃ W1 : World, W1 = wo.alloc (.cells #[.int .i64 (v : Int), .string ⟨s.toArray⟩] 59) := ⟨_, rfl⟩
      clear hx0 hI1 hT1 hB1 hz1 q1 q2 hB
      go_loopw [0] (fun v0 w2 => ∃ (m2 : Nat) (acc2 : List UInt8), v0 = .int .i64 m2 ∧ Aside0 (m2 ≤ 3999 ∧ acc2.length + 2 * m2 ≤ 8000 * k + 2 * 3999 ∧ acc2 ++ romL_ ((v, s) :: romT_.drop (k + 1)) m2 = L) ∧ Aside0 (Lib.IsBuilder 58 5 w.heap.size w.heap.size (Lib.byteCells acc2) w2) ∧ Aside0 (w2.heap[w.heap.size + 1]? = some (.cells romCells_ 59 (0, 0))) ∧ Aside0 (w2.heap[wo.heap.size]? = some (.cells #[.int .i64 (v : Int), .string ⟨s.toArray⟩] 59 (0, 0))) ∧ Aside0 (Below w.heap.size w w2 ∧ wo.heap.size + 1 ≤ w2.heap.size)) (fun v0 _ => (intOfS v0).toNat)
      case atStart => exact ⟨m, acc, rfl, ⟨g1, by omega, by rw [← HD.out]; exact G3.out⟩, HI1, HT1, HX0, HBZ⟩
      case round =>
        obtain ⟨m2, acc2, rfl, HA2, HI2, HT2, HX2, HBZ2⟩ := hrel
        obtain ⟨hB2, hz2⟩ := HBZ2.out
        obtain ⟨e1, e2, e3⟩ := HA2.out
        clear HA2 HBZ2 HI1 HT1 HX0 HBZ HI HT hW1 W1
        have x0 := (blk_cell HX2.out 0).trans (show _ = some (Value.int .i64 (v : Int)) from rfl)
        have x1 := (blk_cell HX2.out 1).trans (show _ = some (Value.string ⟨s.toArray⟩) from rfl)
        by_cases hm : v ≤ m2
        · have hmb : decide ((m2 : Int) ≥ (v : Int)) = true := decide_eq_true (by omega)
          rw [romL_more v1 hm] at e3
          have E3 := Aside0.mk e3
          have hsz : (⟨s.toArray⟩ : ByteArray).size = s.length := by simp [ByteArray.size]
          have hlen : (Lib.byteCells acc2).length + (⟨s.toArray⟩ : ByteArray).size ≤ 140737488355328 := by rw [hsz, Lib.byteCells_length]; omega
          have HLEN := Aside0.mk hlen
          clear e3 hsz hlen
          go_wp2_with (go_at_call 29; refine (builder_ws w.heap.size w.heap.size (Lib.byteCells acc2) ⟨s.toArray⟩ _ HI2.out HLEN.out (by omega)).mono ?_)
          rintro e w3 ⟨rfl, hI3, hB3, hO3⟩
          have hx3 := hO3 _ _ HX2.out (by simp; omega) (by intro c fz hc; injection hc with _ hc2; exact absurd hc2 (by decide))
          have ht3 := hO3 _ _ HT2.out (by simp) (by intro c fz hc; injection hc with _ hc2; exact absurd hc2 (by decide))
          have y0 : w3.cell? ⟨wo.heap.size, 0, none⟩ = some (.int .i64 (v : Int)) := (blk_cell hx3 0).trans rfl
          have HX3 := Aside0.mk hx3
          have HT3 := Aside0.mk ht3
          have HI3 := Aside0.mk hI3
          have hb3 := hB2.trans hB3
          have hz3 : wo.heap.size + 1 ≤ w3.heap.size := rom_size_ hx3
          have HB3 := Aside0.mk (And.intro hb3 hz3)
          clear hx3 ht3 hI3 hB3 hO3 hb3 hz3 hB2 x0 x1 HX2 HT2 HI2
          go_wp2
          go_roundw
          case rel => exact ⟨m2 - v, acc2 ++ s, congrArg (Value.int .i64) (by omega), ⟨by omega, by rw [List.length_append]; omega, by rw [List.append_assoc]; exact E3.out⟩, ⟨.inr (by have := HI3.out; rw [byteCells_app_] at this; exact this)⟩, HT3, HX3, HB3⟩
          case measure => simp [intOfS]; omega
        · have hmb : decide ((m2 : Int) ≥ (v : Int)) = false := decide_eq_false (by omega)
          rw [romL_less (by omega)] at e3
          have E3 := Aside0.mk e3
          have HB3 := Aside0.mk (And.intro hB2 (show w.heap.size + 2 ≤ _ from Nat.le_trans (by omega) hz2))
          clear e3 hB2
          go_wp2
          go_roundw
          case rel => exact ⟨m2, k + 1, acc2, rfl, by go_num, ⟨by omega, e1, by omega, E3.out⟩, HI2, HT2, HB3⟩
          case measure => simp [intOfS]; omega
    · obtain rfl : k = 13 := by omega
      have hkb : decide (((13 : Nat) : Int) < 13) = false := by decide
      have hd : romT_.drop 13 = [] := by decide
      rw [hd] at g3
      simp only [romL_, List.append_nil] at g3
      subst g3
      clear hd
      go_wp2_with (go_at_call 30; refine (Try.Builder_String_any w.heap.size w.heap.size acc _ HI.out (by omega)).mono ?_)
      rintro e w3 ⟨rfl, hB3⟩
      go_wp2
      go_ret
      exact ⟨rfl, hB.trans hB3⟩


/-! ### outline_digits: function 32 -/
def outline_digits.f : Nat → Int → Option (ByteArray)
  | 0, _ => none
  | k + 1, a0 => if a0 < 10 then (if 0 ≤ a0 then (some (Utf8.encode (bt (⟨#[48, 49, 50, 51, 52, 53, 54, 55, 56, 57]⟩ : ByteArray) a0))) else (none)) else ((outline_digits.f k (IntKind.u64.wrap (Int.tdiv a0 10))).bind fun t101 => (if 0 ≤ (Int.tmod a0 10) then (if (Int.tmod a0 10) < 10 then (if t101.size + (Utf8.encode (bt (⟨#[48, 49, 50, 51, 52, 53, 54, 55, 56, 57]⟩ : ByteArray) (Int.tmod a0 10))).size ≤ 9223372036854775807 then (some (t101 ++ (Utf8.encode (bt (⟨#[48, 49, 50, 51, 52, 53, 54, 55, 56, 57]⟩ : ByteArray) (Int.tmod a0 10))))) else (none)) else (none)) else (none)))
theorem outline_digits.mono_l : ∀ k, (∀ y0, LeO (outline_digits.f k y0) (outline_digits.f (k + 1) y0))
  | 0 => fun _ r h => by simp [outline_digits.f] at h
  | k + 1 => by
    have ih0 := outline_digits.mono_l k
    · intro y0
      unfold outline_digits.f
      repeat' first
      | (with_reducible exact ih0 _)
      | (with_reducible exact LeO.refl _)
      | (with_reducible exact LeO.none _)
      | (with_reducible refine LeO.ite ?_ ?_)
      | (with_reducible refine LeO.bind ?_ (fun _ => ?_))
      | exact ih0 _
      | exact LeO.none _
      | refine LeO.ite ?_ ?_
      | refine LeO.bind ?_ (fun _ => ?_)
theorem outline_digits.mono : ∀ a0 k, LeO (outline_digits.f k a0) (outline_digits.f (k + 1) a0) := by
  intro a0 k
  have ih0 := outline_digits.mono_l k
  exact ih0 a0
def outline_digits.T3 : Bool × List (List Nat × List Nat) := (true, [([], []), ([0], [0]), ([1], [1]), ([], []), ([3], [3]), ([4], [4]), ([5], [5]), ([2, 6], [2, 6]), ([7, 2, 0, 1, 2, 3, 4, 5, 6, 7], [7])])
def outline_digits.B3 : List Nat := [0, 1, 3, 0, 8, 24, 56, 127, 255]
theorem outline_digits.tab3 : rtab .any (opsOf Try.f32 3) = outline_digits.T3 := by kernel_rfl
theorem outline_digits.bits3 : waitsOk outline_digits.T3.2 outline_digits.B3 = true := by kernel_rfl
set_option maxHeartbeats 8000000 in
set_option maxRecDepth 100000 in
theorem outline_digits.calls (k : Nat) : ∀ (a0 : Int) (r : ByteArray) (w : World) (h : outline_digits.f k a0 = some r),
    Calls Try.prog 32 #[.int .u64 a0] w fun e w' => e = .returned (.string r) ∧ Below w.heap.size w w' := by
  induction k using Nat.strongRecOn with
  | _ k ih =>
  intro a0 r w h
  cases k with
  | zero => exact absurd h (by simp [outline_digits.f])
  | succ k =>
  simp only [outline_digits.f] at h
  have HB := Aside0.mk (Below.refl w.heap.size w)
  have H : (if a0 < 10 then (if 0 ≤ a0 then (some (Utf8.encode (bt (⟨#[48, 49, 50, 51, 52, 53, 54, 55, 56, 57]⟩ : ByteArray) a0))) else (none)) else ((outline_digits.f k (IntKind.u64.wrap (Int.tdiv a0 10))).bind fun t101 => (if 0 ≤ (Int.tmod a0 10) then (if (Int.tmod a0 10) < 10 then (if t101.size + (Utf8.encode (bt (⟨#[48, 49, 50, 51, 52, 53, 54, 55, 56, 57]⟩ : ByteArray) (Int.tmod a0 10))).size ≤ 9223372036854775807 then (some (t101 ++ (Utf8.encode (bt (⟨#[48, 49, 50, 51, 52, 53, 54, 55, 56, 57]⟩ : ByteArray) (Int.tmod a0 10))))) else (none)) else (none)) else (none)))) = some r := h
  clear h
  by_cases c2 : a0 < 10
  · rw [if_pos c2] at H
    have c2b0 : decide (a0 < 10) = true := decide_eq_true c2
    clear c2
    by_cases c3 : 0 ≤ a0
    · rw [if_pos c3] at H
      have c3b0 : decide (0 ≤ a0) = true := decide_eq_true c3
      clear c3
      obtain rfl := Option.some.inj H
      have p4 : 0 ≤ (a0 : Int) := of_decide_eq_true (by first | (with_reducible assumption) | assumption)
      have q4 : a0 < (10 : Int) := of_decide_eq_true (by first | (with_reducible assumption) | assumption)
      have hx4 := bt_at (⟨#[48, 49, 50, 51, 52, 53, 54, 55, 56, 57]⟩ : ByteArray) a0
      replace p4 := eq_true p4
      replace q4 := eq_true q4
      go_enter Try.func32, Try.ntmps32
      go_wp2
      go_ret
      exact ⟨by first | rfl | (simp [errW_none, errW_some] <;> rfl) | (simp [*, errW_none, errW_some] <;> rfl), by repeat (first | (with_reducible first | exact HB.out | apply below_alloc | apply pw_below_drewN | apply below_drew1) | exact HB.out)⟩
    · rw [if_neg c3] at H
      exact absurd H (by simp)
  · rw [if_neg c2] at H
    have c2b0 : decide (a0 < 10) = false := decide_eq_false c2
    clear c2
    replace H := Option.bind_eq_some_iff.mp H
    obtain ⟨t101, A50, H⟩ := H
    replace H : (if 0 ≤ (Int.tmod a0 10) then (if (Int.tmod a0 10) < 10 then (if t101.size + (Utf8.encode (bt (⟨#[48, 49, 50, 51, 52, 53, 54, 55, 56, 57]⟩ : ByteArray) (Int.tmod a0 10))).size ≤ 9223372036854775807 then (some (t101 ++ (Utf8.encode (bt (⟨#[48, 49, 50, 51, 52, 53, 54, 55, 56, 57]⟩ : ByteArray) (Int.tmod a0 10))))) else (none)) else (none)) else (none)) = some r := H
    have A5 := Aside0.mk A50
    clear A50
    obtain ⟨ji6, hji6⟩ : ∃ j_ : Int, (Int.tmod a0 10) = j_ := ⟨_, rfl⟩
    replace H : (if 0 ≤ (ji6) then (if (ji6) < 10 then (if t101.size + (Utf8.encode (bt (⟨#[48, 49, 50, 51, 52, 53, 54, 55, 56, 57]⟩ : ByteArray) (ji6))).size ≤ 9223372036854775807 then (some (t101 ++ (Utf8.encode (bt (⟨#[48, 49, 50, 51, 52, 53, 54, 55, 56, 57]⟩ : ByteArray) (ji6))))) else (none)) else (none)) else (none)) = some r := by first | (rw [hji6] at H; exact H) | (simp only [hji6] at H ⊢; exact H)
    (try rw [hji6] at A5)
    by_cases c7 : 0 ≤ (ji6)
    · rw [if_pos c7] at H
      have c7b0 : decide (0 ≤ (ji6)) = true := decide_eq_true c7
      clear c7
      by_cases c8 : (ji6) < 10
      · rw [if_pos c8] at H
        have c8b0 : decide ((ji6) < 10) = true := decide_eq_true c8
        clear c8
        by_cases c10 : t101.size + (Utf8.encode (bt (⟨#[48, 49, 50, 51, 52, 53, 54, 55, 56, 57]⟩ : ByteArray) (ji6))).size ≤ 9223372036854775807
        · rw [if_pos c10] at H
          have c10b0 := eq_true c10
          have c10b1 : decide (t101.size + (Utf8.encode (bt (⟨#[48, 49, 50, 51, 52, 53, 54, 55, 56, 57]⟩ : ByteArray) (ji6))).size ≤ 9223372036854775807) = true := decide_eq_true c10
          try have c10b2 : (9223372036854775807 < t101.size + (Utf8.encode (bt (⟨#[48, 49, 50, 51, 52, 53, 54, 55, 56, 57]⟩ : ByteArray) (ji6))).size) = False := eq_false (Nat.not_lt.2 c10)
          (try (have c10b3 := c10b2; simp only [ByteArray.size_append] at c10b3))
          (try (have c10b4 : (9223372036854775807 < (t101).size + (Utf8.encode (bt (⟨#[48, 49, 50, 51, 52, 53, 54, 55, 56, 57]⟩ : ByteArray) (ji6))).size) = False := eq_false (by have l0_ : (⟨#[48, 49, 50, 51, 52, 53, 54, 55, 56, 57]⟩ : ByteArray).size = 10 := rfl; have h_ := c10; simp [ByteArray.size_extract] at h_; simp; omega)))
          obtain rfl := Option.some.inj H
          go_enter Try.func32, Try.ntmps32
          try go_wp2
          have n0_ := Aside0.mk (below_drew1 HB.out)
          clear HB
          have HB := n0_
          clear n0_
          have p9 : 0 ≤ ((ji6) : Int) := of_decide_eq_true (by first | (with_reducible assumption) | assumption)
          have q9 : (ji6) < (10 : Int) := of_decide_eq_true (by first | (with_reducible assumption) | assumption)
          have hx9 := bt_at (⟨#[48, 49, 50, 51, 52, 53, 54, 55, 56, 57]⟩ : ByteArray) (ji6)
          replace p9 := eq_true p9
          replace q9 := eq_true q9
          refine start_ (n := 9) (S := fun w' => True) (ds := []) #[false, false, false, false, false, false, false, false, false] (by kernel_rfl) rfl rfl trivial (fun hHeld => ?_); refine with_tabW outline_digits.tab3 outline_digits.bits3 (fun HT_ HW_ => ?_)
          generalize w.drew = w11 at HB hHeld ⊢
          refine pure_ (i := 0) (N := some 8) (v := ?_) (a' := ?_) #[true, false, false, false, false, false, false, false, false] rfl rfl (any_of HT_.out (by kernel_rfl)) (fun _ _ _ h => h) (Or.inl ⟨by rfl, ?_⟩) ?_ ?_
          rotate_left
          · intro w'
            go_simp
            with_reducible rfl
          rotate_left
          · simp only [Act.put, List.setIfInBounds_toArray, List.set_cons_zero, List.set_cons_succ, i64_w, i32_w]
            rfl
          refine pure_ (i := 1) (N := some 9) (v := ?_) (a' := ?_) #[true, true, false, false, false, false, false, false, false] rfl rfl (any_of HT_.out (by kernel_rfl)) (fun _ _ _ h => h) (Or.inl ⟨by rfl, ?_⟩) ?_ ?_
          rotate_left
          · intro w'
            go_simp
            with_reducible rfl
          rotate_left
          · simp only [Act.put, List.setIfInBounds_toArray, List.set_cons_zero, List.set_cons_succ, i64_w, i32_w]
            rfl
          refine pure_ (i := 3) (N := some 11) (v := ?_) (a' := ?_) #[true, true, false, true, false, false, false, false, false] rfl rfl (any_of HT_.out (by kernel_rfl)) (fun _ _ _ h => h) (Or.inl ⟨by rfl, ?_⟩) ?_ ?_
          rotate_left
          · intro w'
            go_simp
            with_reducible rfl
          rotate_left
          · simp only [Act.put, List.setIfInBounds_toArray, List.set_cons_zero, List.set_cons_succ, i64_w, i32_w]
            rfl
          refine pure_ (i := 4) (N := some 12) (v := ?_) (a' := ?_) #[true, true, false, true, true, false, false, false, false] rfl rfl (any_of HT_.out (by kernel_rfl)) (fun _ _ _ h => h) (Or.inl ⟨by rfl, ?_⟩) ?_ ?_
          rotate_left
          · intro w'
            go_simp
            with_reducible rfl
          rotate_left
          · simp only [Act.put, List.setIfInBounds_toArray, List.set_cons_zero, List.set_cons_succ, i64_w, i32_w]
            rfl
          refine take_ (i := 5) (N := some 13) (v := ?_) (a' := ?_) #[true, true, false, true, true, true, false, false, false] rfl rfl (take_ofW HT_.out HW_.out (by kernel_rfl)) (fun _ _ _ h => h) (Or.inl ⟨by rfl, ?_⟩) hHeld ?_ ?_
          rotate_left
          · intro w' _
            go_simp
            with_reducible rfl
          rotate_left
          · simp only [Act.put, List.setIfInBounds_toArray, List.set_cons_zero, List.set_cons_succ, i64_w, i32_w]
            rfl
          refine pure_ (i := 6) (N := some 14) (v := ?_) (a' := ?_) #[true, true, false, true, true, true, true, false, false] rfl rfl (any_of HT_.out (by kernel_rfl)) (fun _ _ _ h => h) (Or.inl ⟨by rfl, ?_⟩) ?_ ?_
          rotate_left
          · intro w'
            go_simp
            with_reducible rfl
          rotate_left
          · simp only [Act.put, List.setIfInBounds_toArray, List.set_cons_zero, List.set_cons_succ, i64_w, i32_w]
            rfl
          refine one_ (i := 2) (N := some 10) #[true, true, true, true, true, true, true, false, false] rfl rfl (one_of HT_.out (by kernel_rfl)) (by decide) (fun K hK => ?_)
          refine goes_ Try.func32 (by kernel_rfl) rfl #[.int .u64 (IntKind.u64.wrap (Int.tdiv a0 10))] (by rfl) rfl rfl (by (try simp only [List.map_toArray, List.map_cons, List.map_nil]); first | done | rfl | (simp only [List.length_drop, List.length_take]; rfl)) ?_
          with_reducible refine (ih k (by omega) (IntKind.u64.wrap (Int.tdiv a0 10)) t101 _ A5.out).mono ?_
          rintro e w12 ⟨rfl, hb⟩
          refine ⟨_, rfl, ?_⟩
          have n0_ := Aside0.mk (below_step (by repeat (first | (with_reducible first | exact HB.out | apply below_alloc | apply pw_below_drewN | apply below_drew1) | exact HB.out)) hb)
          clear HB
          have HB := n0_
          clear n0_
          (try clear hb)
          (try clear hb2)
          (try clear hk)
          (try clear hi)
          refine hK.out _ _ trivial (fun hHeld => ?_)
          clear hK K
          refine norm_ (a' := ?_) ?_ ?_
          rotate_left
          · show Act.put _ (some 10) _ = _
            simp only [Act.put, List.setIfInBounds_toArray, List.set_cons_zero, List.set_cons_succ, i64_w, i32_w]
            rfl
          refine pure_ (i := 7) (N := some 15) (v := ?_) (a' := ?_) #[true, true, true, true, true, true, true, true, false] rfl rfl (any_of HT_.out (by kernel_rfl)) (fun _ _ _ h => h) (Or.inl ⟨by rfl, ?_⟩) ?_ ?_
          rotate_left
          · intro w'
            go_simp
            with_reducible rfl
          rotate_left
          · simp only [Act.put, List.setIfInBounds_toArray, List.set_cons_zero, List.set_cons_succ, i64_w, i32_w]
            rfl
          refine pure_ (i := 8) (N := some 2) (v := ?_) (a' := ?_) #[true, true, true, true, true, true, true, true, true] rfl rfl (any_of HT_.out (by kernel_rfl)) (fun _ _ _ h => h) (Or.inl ⟨by rfl, ?_⟩) ?_ ?_
          rotate_left
          · intro w'
            go_simp
            with_reducible rfl
          rotate_left
          · simp only [Act.put, List.setIfInBounds_toArray, List.set_cons_zero, List.set_cons_succ, i64_w, i32_w]
            rfl
          refine done_ (done_of HT_.out (by kernel_rfl)) ?_
          try go_wp2
          go_ret
          exact ⟨by first | rfl | (simp [errW_none, errW_some] <;> rfl) | (simp only [← hji6]; first | rfl | (simp [errW_none, errW_some] <;> rfl)) | (simp [*, errW_none, errW_some] <;> rfl), by repeat (first | (with_reducible first | exact HB.out | apply below_alloc | apply pw_below_drewN | apply below_drew1) | exact HB.out)⟩
        · rw [if_neg c10] at H
          exact absurd H (by simp)
      · rw [if_neg c8] at H
        exact absurd H (by simp)
    · rw [if_neg c7] at H
      exact absurd H (by simp)

/-! ### outline_Decimal: function 13 -/
def outline_Decimal.f (k : Nat) (a0 : Int) : Option (ByteArray) := if a0 < 0 then ((outline_digits.f k (IntKind.u64.wrap (wrap64 (-a0)))).bind fun t102 => (if 1 + t102.size ≤ 9223372036854775807 then (some ((⟨#[45]⟩ : ByteArray) ++ t102)) else (none))) else ((outline_digits.f k (IntKind.u64.wrap (a0))).bind fun t103 => (some t103))
theorem outline_Decimal.mono : ∀ a0 k, LeO (outline_Decimal.f k a0) (outline_Decimal.f (k + 1) a0) := by
  intro a0 k
  unfold outline_Decimal.f
  repeat' first
      | (with_reducible exact outline_digits.mono _ _)
      | (with_reducible exact LeO.refl _)
      | (with_reducible exact LeO.none _)
      | (with_reducible refine LeO.ite ?_ ?_)
      | (with_reducible refine LeO.bind ?_ (fun _ => ?_))
      | exact outline_digits.mono _ _
      | exact LeO.none _
      | refine LeO.ite ?_ ?_
      | refine LeO.bind ?_ (fun _ => ?_)
set_option maxHeartbeats 8000000 in
set_option maxRecDepth 100000 in
theorem outline_Decimal.calls (k : Nat) (a0 : Int) (r : ByteArray) (w : World) (h : outline_Decimal.f k a0 = some r) :
    Calls Try.prog 13 #[.int .i64 a0] w fun e w' => e = .returned (.string r) ∧ Below w.heap.size w w' := by
  have HB := Aside0.mk (Below.refl w.heap.size w)
  have H : (if a0 < 0 then ((outline_digits.f k (IntKind.u64.wrap (wrap64 (-a0)))).bind fun t102 => (if 1 + t102.size ≤ 9223372036854775807 then (some ((⟨#[45]⟩ : ByteArray) ++ t102)) else (none))) else ((outline_digits.f k (IntKind.u64.wrap (a0))).bind fun t103 => (some t103))) = some r := h
  clear h
  by_cases c2 : a0 < 0
  · rw [if_pos c2] at H
    have c2b0 : decide (a0 < 0) = true := decide_eq_true c2
    clear c2
    replace H := Option.bind_eq_some_iff.mp H
    obtain ⟨t102, A30, H⟩ := H
    replace H : (if 1 + t102.size ≤ 9223372036854775807 then (some ((⟨#[45]⟩ : ByteArray) ++ t102)) else (none)) = some r := H
    have A3 := Aside0.mk A30
    clear A30
    by_cases c4 : 1 + t102.size ≤ 9223372036854775807
    · rw [if_pos c4] at H
      have c4b0 := eq_true c4
      have c4b1 : decide (1 + t102.size ≤ 9223372036854775807) = true := decide_eq_true c4
      try have c4b2 : (9223372036854775807 < 1 + t102.size) = False := eq_false (Nat.not_lt.2 c4)
      (try (have c4b3 := c4b2; simp only [ByteArray.size_append] at c4b3))
      (try (have c4b4 : (9223372036854775807 < 1 + (t102).size) = False := eq_false (by have h_ := c4; simp [ByteArray.size_extract] at h_; simp; omega)))
      obtain rfl := Option.some.inj H
      go_enter Try.func13, Try.ntmps13
      go_wp2_with (first | ((with_reducible refine gate_callee (f := 32) rfl ?_); refine goesL_ (some 8) rfl rfl Try.func32 (by kernel_rfl) rfl #[.int .u64 (IntKind.u64.wrap (wrap64 (-a0)))] rfl (by (try simp only [List.map_toArray, List.map_cons, List.map_nil]); first | done | rfl | (simp only [List.length_drop, List.length_take]; rfl)) ?_; (with_reducible refine (outline_digits.calls k (IntKind.u64.wrap (wrap64 (-a0))) t102 _ A3.out).mono ?_); rintro e w5 ⟨rfl, hb⟩; refine ⟨_, rfl, ?_⟩; have n0_ := Aside0.mk (below_step (by repeat (first | (with_reducible first | exact HB.out | apply below_alloc | apply pw_below_drewN | apply below_drew1) | exact HB.out)) hb); clear HB; have HB := n0_; clear n0_; (try clear hb); (try clear hb2); (try clear hk); (try clear hi)))
      go_ret
      exact ⟨by first | rfl | (simp [errW_none, errW_some] <;> rfl) | (simp [*, errW_none, errW_some] <;> rfl), by repeat (first | (with_reducible first | exact HB.out | apply below_alloc | apply pw_below_drewN | apply below_drew1) | exact HB.out)⟩
    · rw [if_neg c4] at H
      exact absurd H (by simp)
  · rw [if_neg c2] at H
    have c2b0 : decide (a0 < 0) = false := decide_eq_false c2
    clear c2
    replace H := Option.bind_eq_some_iff.mp H
    obtain ⟨t103, A60, H⟩ := H
    replace H : (some t103) = some r := H
    have A6 := Aside0.mk A60
    clear A60
    obtain rfl := Option.some.inj H
    go_enter Try.func13, Try.ntmps13
    go_wp2_with (first | ((with_reducible refine gate_callee (f := 32) rfl ?_); refine goesL_ (some 12) rfl rfl Try.func32 (by kernel_rfl) rfl #[.int .u64 (IntKind.u64.wrap (a0))] rfl (by (try simp only [List.map_toArray, List.map_cons, List.map_nil]); first | done | rfl | (simp only [List.length_drop, List.length_take]; rfl)) ?_; (with_reducible refine (outline_digits.calls k (IntKind.u64.wrap (a0)) t103 _ A6.out).mono ?_); rintro e w7 ⟨rfl, hb⟩; refine ⟨_, rfl, ?_⟩; have n0_ := Aside0.mk (below_step (by repeat (first | (with_reducible first | exact HB.out | apply below_alloc | apply pw_below_drewN | apply below_drew1) | exact HB.out)) hb); clear HB; have HB := n0_; clear n0_; (try clear hb); (try clear hb2); (try clear hk); (try clear hi)))
    go_ret
    exact ⟨by first | rfl | (simp [errW_none, errW_some] <;> rfl) | (simp [*, errW_none, errW_some] <;> rfl), by repeat (first | (with_reducible first | exact HB.out | apply below_alloc | apply pw_below_drewN | apply below_drew1) | exact HB.out)⟩

/-! ### outline_Label: function 15 -/
def outline_Label.f (k : Nat) (a0 : Int) (a1 : Int) : Option (ByteArray) := if a0 < 0 then (some (⟨#[]⟩ : ByteArray)) else (if a0 < a1 then ((outline_Roman.f (wrap64 (a0 + 1))).bind fun t104 => (some t104)) else ((outline_Decimal.f k (wrap64 ((wrap64 (a0 - (mx a1 0))) + 1))).bind fun t105 => (some t105)))
theorem outline_Label.mono : ∀ a0 a1 k, LeO (outline_Label.f k a0 a1) (outline_Label.f (k + 1) a0 a1) := by
  intro a0 a1 k
  unfold outline_Label.f
  repeat' first
      | (with_reducible exact outline_Decimal.mono _ _)
      | (with_reducible exact LeO.refl _)
      | (with_reducible exact LeO.none _)
      | (with_reducible refine LeO.ite ?_ ?_)
      | (with_reducible refine LeO.bind ?_ (fun _ => ?_))
      | exact outline_Decimal.mono _ _
      | exact LeO.none _
      | refine LeO.ite ?_ ?_
      | refine LeO.bind ?_ (fun _ => ?_)
set_option maxHeartbeats 8000000 in
set_option maxRecDepth 100000 in
theorem outline_Label.calls (k : Nat) (a0 : Int) (a1 : Int) (r : ByteArray) (w : World) (h : outline_Label.f k a0 a1 = some r) :
    Calls Try.prog 15 #[.int .i64 a0, .int .i64 a1] w fun e w' => e = .returned (.string r) ∧ Below w.heap.size w w' := by
  have HB := Aside0.mk (Below.refl w.heap.size w)
  have H : (if a0 < 0 then (some (⟨#[]⟩ : ByteArray)) else (if a0 < a1 then ((outline_Roman.f (wrap64 (a0 + 1))).bind fun t104 => (some t104)) else ((outline_Decimal.f k (wrap64 ((wrap64 (a0 - (mx a1 0))) + 1))).bind fun t105 => (some t105)))) = some r := h
  clear h
  by_cases c3 : a0 < 0
  · rw [if_pos c3] at H
    have c3b0 : decide (a0 < 0) = true := decide_eq_true c3
    clear c3
    obtain rfl := Option.some.inj H
    go_enter Try.func15, Try.ntmps15
    go_wp2
    go_ret
    exact ⟨by first | rfl | (simp [errW_none, errW_some] <;> rfl) | (simp [*, errW_none, errW_some] <;> rfl), by repeat (first | (with_reducible first | exact HB.out | apply below_alloc | apply pw_below_drewN | apply below_drew1) | exact HB.out)⟩
  · rw [if_neg c3] at H
    have c3b0 : decide (a0 < 0) = false := decide_eq_false c3
    clear c3
    by_cases c4 : a0 < a1
    · rw [if_pos c4] at H
      have c4b0 : decide (a0 < a1) = true := decide_eq_true c4
      clear c4
      replace H := Option.bind_eq_some_iff.mp H
      obtain ⟨t104, A50, H⟩ := H
      replace H : (some t104) = some r := H
      have A5 := Aside0.mk A50
      clear A50
      obtain rfl := Option.some.inj H
      go_enter Try.func15, Try.ntmps15
      go_wp2_with (first | ((with_reducible refine gate_callee (f := 11) rfl ?_); refine goesL_ (some 14) rfl rfl Try.func11 (by kernel_rfl) rfl #[.int .i64 (wrap64 (a0 + 1))] rfl (by (try simp only [List.map_toArray, List.map_cons, List.map_nil]); first | done | rfl | (simp only [List.length_drop, List.length_take]; rfl)) ?_; (with_reducible refine (outline_Roman.calls (wrap64 (a0 + 1)) t104 _ A5.out).mono ?_); rintro e w6 ⟨rfl, hb⟩; refine ⟨_, rfl, ?_⟩; have n0_ := Aside0.mk (below_step (by repeat (first | (with_reducible first | exact HB.out | apply below_alloc | apply pw_below_drewN | apply below_drew1) | exact HB.out)) hb); clear HB; have HB := n0_; clear n0_; (try clear hb); (try clear hb2); (try clear hk); (try clear hi)))
      go_ret
      exact ⟨by first | rfl | (simp [errW_none, errW_some] <;> rfl) | (simp [*, errW_none, errW_some] <;> rfl), by repeat (first | (with_reducible first | exact HB.out | apply below_alloc | apply pw_below_drewN | apply below_drew1) | exact HB.out)⟩
    · rw [if_neg c4] at H
      have c4b0 : decide (a0 < a1) = false := decide_eq_false c4
      clear c4
      obtain ⟨ji7, hji7⟩ : ∃ j_ : Int, (mx a1 0) = j_ := ⟨_, rfl⟩
      replace H : ((outline_Decimal.f k (wrap64 ((wrap64 (a0 - (ji7))) + 1))).bind fun t105 => (some t105)) = some r := by first | (rw [hji7] at H; exact H) | (simp only [hji7] at H ⊢; exact H)
      (try (have hji7l : 0 ≤ ji7 := by (rw [← hji7]; unfold mx; (repeat' split) <;> omega)))
      (try (have hji7m : 0 ≤ ji7 := by omega))
      have hji7_ : (if a1 < 0 then 0 else a1) = ji7 := hji7
      replace H := Option.bind_eq_some_iff.mp H
      obtain ⟨t105, A80, H⟩ := H
      replace H : (some t105) = some r := H
      have A8 := Aside0.mk A80
      clear A80
      obtain rfl := Option.some.inj H
      go_enter Try.func15, Try.ntmps15
      go_wp2_with (first | ((with_reducible refine gate_callee (f := 13) rfl ?_); refine goesL_ (some 20) rfl rfl Try.func13 (by kernel_rfl) rfl #[.int .i64 (wrap64 ((wrap64 (a0 - (ji7))) + 1))] rfl (by (try simp only [List.map_toArray, List.map_cons, List.map_nil]); first | done | (simp only [hji7]; rfl) | rfl | (simp only [List.length_drop, List.length_take]; rfl)) ?_; (with_reducible refine (outline_Decimal.calls k (wrap64 ((wrap64 (a0 - (ji7))) + 1)) t105 _ A8.out).mono ?_); rintro e w9 ⟨rfl, hb⟩; refine ⟨_, rfl, ?_⟩; have n0_ := Aside0.mk (below_step (by repeat (first | (with_reducible first | exact HB.out | apply below_alloc | apply pw_below_drewN | apply below_drew1) | exact HB.out)) hb); clear HB; have HB := n0_; clear n0_; (try clear hb); (try clear hb2); (try clear hk); (try clear hi)))
      go_ret
      exact ⟨by first | rfl | (simp [errW_none, errW_some] <;> rfl) | (simp only [← hji7]; first | rfl | (simp [errW_none, errW_some] <;> rfl)) | (simp [*, errW_none, errW_some] <;> rfl), by repeat (first | (with_reducible first | exact HB.out | apply below_alloc | apply pw_below_drewN | apply below_drew1) | exact HB.out)⟩

/-! ### texts: by hand: what the machine reads of a right text -/
def vOf (s : ByteArray) (i n : Int) : Int :=
  if n = 1 then bt s i else if n = 2 then bt s i % 32 * 64 + bt s (i + 1) % 64
  else if n = 3 then (bt s i % 16 * 64 + bt s (i + 1) % 64) * 64 + bt s (i + 2) % 64
  else ((bt s i % 8 * 64 + bt s (i + 1) % 64) * 64 + bt s (i + 2) % 64) * 64 + bt s (i + 3) % 64
theorem vOf_range (s : ByteArray) (i n : Int) : 0 ≤ vOf s i n ∧ vOf s i n ≤ 2097151 := by
  have hb := bt_range s i
  have hb1 := bt_range s (i + 1)
  have hb2 := bt_range s (i + 2)
  have hb3 := bt_range s (i + 3)
  unfold vOf
  (repeat' split) <;> omega
/-- The runes from a place on, where each begins, and the first wrong place (-1). -/
def rl_ (s : ByteArray) : Nat → Int → List Int
  | 0, _ => []
  | k + 1, i => if i < (s.size : Int) then (if rsize_ s i = 0 then [] else vOf s i (rsize_ s i) :: rl_ s k (i + rsize_ s i)) else []
def al_ (s : ByteArray) : Nat → Int → List Int
  | 0, _ => []
  | k + 1, i => if i < (s.size : Int) then (if rsize_ s i = 0 then [] else i :: al_ s k (i + rsize_ s i)) else []
def bd_ (s : ByteArray) : Nat → Int → Int
  | 0, _ => -1
  | k + 1, i => if i < (s.size : Int) then (if rsize_ s i = 0 then i else bd_ s k (i + rsize_ s i)) else -1
def right_ (s : ByteArray) : Bool := decide (bd_ s (s.size + 1) 0 < 0)
def is2_ (s : ByteArray) (i : Int) : Bool := decide (194 ≤ bt s i ∧ bt s i < 224 ∧ 128 ≤ bt s (i + 1) ∧ bt s (i + 1) ≤ 191)
def is3_ (s : ByteArray) (i : Int) : Bool := decide (224 ≤ bt s i ∧ bt s i < 240 ∧ (bt s i = 224 → 160 ≤ bt s (i + 1)) ∧ (bt s i = 237 → bt s (i + 1) ≤ 159) ∧ 128 ≤ bt s (i + 1) ∧ bt s (i + 1) ≤ 191 ∧ 128 ≤ bt s (i + 2) ∧ bt s (i + 2) ≤ 191)
def is4_ (s : ByteArray) (i : Int) : Bool := decide (240 ≤ bt s i ∧ bt s i ≤ 244 ∧ (bt s i = 240 → 144 ≤ bt s (i + 1)) ∧ (bt s i = 244 → bt s (i + 1) ≤ 143) ∧ 128 ≤ bt s (i + 1) ∧ bt s (i + 1) ≤ 191 ∧ 128 ≤ bt s (i + 2) ∧ bt s (i + 2) ≤ 191 ∧ 128 ≤ bt s (i + 3) ∧ bt s (i + 3) ≤ 191)
theorem is2_iff (s : ByteArray) (i : Int) : is2_ s i = true ↔ (194 ≤ bt s i ∧ bt s i < 224 ∧ 128 ≤ bt s (i + 1) ∧ bt s (i + 1) ≤ 191) := decide_eq_true_iff
theorem is3_iff (s : ByteArray) (i : Int) : is3_ s i = true ↔ (224 ≤ bt s i ∧ bt s i < 240 ∧ (bt s i = 224 → 160 ≤ bt s (i + 1)) ∧ (bt s i = 237 → bt s (i + 1) ≤ 159) ∧ 128 ≤ bt s (i + 1) ∧ bt s (i + 1) ≤ 191 ∧ 128 ≤ bt s (i + 2) ∧ bt s (i + 2) ≤ 191) := decide_eq_true_iff
theorem is4_iff (s : ByteArray) (i : Int) : is4_ s i = true ↔ (240 ≤ bt s i ∧ bt s i ≤ 244 ∧ (bt s i = 240 → 144 ≤ bt s (i + 1)) ∧ (bt s i = 244 → bt s (i + 1) ≤ 143) ∧ 128 ≤ bt s (i + 1) ∧ bt s (i + 1) ≤ 191 ∧ 128 ≤ bt s (i + 2) ∧ bt s (i + 2) ≤ 191 ∧ 128 ≤ bt s (i + 3) ∧ bt s (i + 3) ≤ 191) := decide_eq_true_iff
theorem more_eq (s : ByteArray) (i : Int) : ∀ (k : Nat) (n lo hi : Int), more_ s i (k + 1) n lo hi = if (s.size : Int) ≤ n ∨ bt s n < lo ∨ hi < bt s n then 0 else more_ s i k (n + 1) 128 191 := by
  intro k n lo hi
  simp only [more_]
  by_cases h1 : (s.size : Int) ≤ n
  · rw [if_pos h1, if_pos (.inl h1)]
  rw [if_neg h1]
  by_cases h2 : bt s n < lo
  · rw [if_pos h2, if_pos (.inr (.inl h2))]
  rw [if_neg h2]
  by_cases h3 : hi < bt s n
  · rw [if_pos h3, if_pos (.inr (.inr h3))]
  rw [if_neg h3, if_neg (by omega)]
theorem rsize_is (s : ByteArray) (i : Int) (h0 : 0 ≤ i) (h1 : i < s.size) :
    rsize_ s i = if bt s i < 128 then 1 else if i + 2 ≤ s.size ∧ is2_ s i = true then 2 else if i + 3 ≤ s.size ∧ is3_ s i = true then 3 else if i + 4 ≤ s.size ∧ is4_ s i = true then 4 else 0 := by
  have hb := bt_range s i
  have hb1 := bt_range s (i + 1)
  have hb2 := bt_range s (i + 2)
  have hb3 := bt_range s (i + 3)
  have e2 : i + 1 + 1 = i + 2 := by omega
  have e3 : i + 2 + 1 = i + 3 := by omega
  have e4 : i + 3 + 1 - i = 4 := by omega
  have m2 := is2_iff s i
  have m3 := is3_iff s i
  have m4 := is4_iff s i
  generalize is2_ s i = a2 at *
  generalize is3_ s i = a3 at *
  generalize is4_ s i = a4 at *
  have z0 : ∀ n, more_ s i 0 n 128 191 = n - i := fun _ => rfl
  unfold rsize_ lead_
  rw [if_neg (by omega), if_neg (by omega)]
  simp only [more_eq, z0, e2, e3]
  generalize bt s i = c at *
  generalize bt s (i + 1) = d at *
  generalize bt s (i + 2) = e at *
  generalize bt s (i + 3) = f at *
  by_cases b2 : i + 2 ≤ s.size ∧ a2 = true
  · have := m2.1 b2.2
    rw [if_neg (by omega), if_neg (by omega), if_neg (by omega), if_pos (by omega), if_neg (by omega), if_neg (by omega), if_pos b2]
    omega
  by_cases b3 : i + 3 ≤ s.size ∧ a3 = true
  · have := m3.1 b3.2
    rw [if_neg (by omega), if_neg (by omega), if_neg (by omega), if_neg (by omega), if_pos (by omega), if_neg (by omega : ¬ c < 128), if_neg b2, if_pos b3]
    by_cases c1 : c = 224
    · rw [if_pos c1, if_neg (by omega), if_neg (by omega)]; omega
    rw [if_neg c1]
    by_cases c2 : c = 237
    · rw [if_pos c2, if_neg (by omega), if_neg (by omega)]; omega
    rw [if_neg c2, if_neg (by omega), if_neg (by omega)]; omega
  by_cases b4 : i + 4 ≤ s.size ∧ a4 = true
  · have := m4.1 b4.2
    rw [if_neg (by omega), if_neg (by omega), if_neg (by omega), if_neg (by omega), if_neg (by omega), if_neg (by omega : ¬ c < 128), if_neg b2, if_neg b3, if_pos b4]
    by_cases c1 : c = 240
    · rw [if_pos c1, if_neg (by omega), if_neg (by omega), if_neg (by omega)]; omega
    rw [if_neg c1]
    by_cases c2 : c = 244
    · rw [if_pos c2, if_neg (by omega), if_neg (by omega), if_neg (by omega)]; omega
    rw [if_neg c2, if_neg (by omega), if_neg (by omega), if_neg (by omega)]; omega
  rw [if_neg b2, if_neg b3, if_neg b4]
  have n2 : ¬ (i + 2 ≤ s.size ∧ 194 ≤ c ∧ c < 224 ∧ 128 ≤ d ∧ d ≤ 191) := fun h => b2 ⟨h.1, m2.2 h.2⟩
  have n3 : ¬ (i + 3 ≤ s.size ∧ 224 ≤ c ∧ c < 240 ∧ (c = 224 → 160 ≤ d) ∧ (c = 237 → d ≤ 159) ∧ 128 ≤ d ∧ d ≤ 191 ∧ 128 ≤ e ∧ e ≤ 191) := fun h => b3 ⟨h.1, m3.2 h.2⟩
  have n4 : ¬ (i + 4 ≤ s.size ∧ 240 ≤ c ∧ c ≤ 244 ∧ (c = 240 → 144 ≤ d) ∧ (c = 244 → d ≤ 143) ∧ 128 ≤ d ∧ d ≤ 191 ∧ 128 ≤ e ∧ e ≤ 191 ∧ 128 ≤ f ∧ f ≤ 191) := fun h => b4 ⟨h.1, m4.2 h.2⟩
  clear m2 m3 m4 b2 b3 b4
  by_cases c1 : c < 128
  · rw [if_pos c1, if_pos c1]
  rw [if_neg c1, if_neg c1]
  by_cases c2 : c < 194
  · rw [if_pos c2]
  rw [if_neg c2]
  by_cases c3 : 244 < c
  · rw [if_pos c3]
  rw [if_neg c3]
  by_cases c4 : c < 224
  · rw [if_pos c4, if_pos (by omega)]
  rw [if_neg c4]
  by_cases c5 : c < 240
  · rw [if_pos c5]
    by_cases k1 : c = 224
    · rw [if_pos k1]
      by_cases q : (s.size : Int) ≤ i + 1 ∨ d < 160 ∨ 191 < d
      · rw [if_pos q]
      · rw [if_neg q, if_pos (by omega)]
    rw [if_neg k1]
    by_cases k2 : c = 237
    · rw [if_pos k2]
      by_cases q : (s.size : Int) ≤ i + 1 ∨ d < 128 ∨ 159 < d
      · rw [if_pos q]
      · rw [if_neg q, if_pos (by omega)]
    rw [if_neg k2]
    by_cases q : (s.size : Int) ≤ i + 1 ∨ d < 128 ∨ 191 < d
    · rw [if_pos q]
    · rw [if_neg q, if_pos (by omega)]
  rw [if_neg c5]
  by_cases k1 : c = 240
  · rw [if_pos k1]
    by_cases q : (s.size : Int) ≤ i + 1 ∨ d < 144 ∨ 191 < d
    · rw [if_pos q]
    rw [if_neg q]
    by_cases q2 : (s.size : Int) ≤ i + 2 ∨ e < 128 ∨ 191 < e
    · rw [if_pos q2]
    · rw [if_neg q2, if_pos (by omega)]
  rw [if_neg k1]
  by_cases k2 : c = 244
  · rw [if_pos k2]
    by_cases q : (s.size : Int) ≤ i + 1 ∨ d < 128 ∨ 143 < d
    · rw [if_pos q]
    rw [if_neg q]
    by_cases q2 : (s.size : Int) ≤ i + 2 ∨ e < 128 ∨ 191 < e
    · rw [if_pos q2]
    · rw [if_neg q2, if_pos (by omega)]
  rw [if_neg k2]
  by_cases q : (s.size : Int) ≤ i + 1 ∨ d < 128 ∨ 191 < d
  · rw [if_pos q]
  rw [if_neg q]
  by_cases q2 : (s.size : Int) ≤ i + 2 ∨ e < 128 ∨ 191 < e
  · rw [if_pos q2]
  · rw [if_neg q2, if_pos (by omega)]

theorem getb (s : ByteArray) (i k : Nat) (h : i + k < s.size) : ((s.get! (i + k)).toNat : Int) = bt s ((i : Int) + k) := by
  have e : ((i : Int) + (k : Int)).toNat = i + k := by omega
  rw [← bt_at s _ (by rw [e]; exact h)]
  simp only [e]
  have : s.get! (i + k) = s[i + k]'h := by
    simp [ByteArray.get!, getElem!_pos, h]
    rfl
  rw [this]
theorem decode_eq {s : ByteArray} {i : Nat} (hi : i < s.size) (hz : ¬ rsize_ s i = 0) : Utf8.decode s i = ((vOf s i (rsize_ s i)).toNat, (rsize_ s i).toNat) := by
  have hr := rsize_is s i (by omega) (by omega)
  have hb0 := getb s i 0 (by omega)
  rw [show ((i : Int) + ((0 : Nat) : Int)) = (i : Int) by omega] at hb0
  have hb := bt_range s i
  have hb1 := bt_range s (i + 1)
  have hb2 := bt_range s (i + 2)
  have hb3 := bt_range s (i + 3)
  simp only [Utf8.decode]
  by_cases c1 : bt s i < 128
  · rw [if_pos c1] at hr
    rw [hr, if_pos (by omega)]
    have : vOf s i 1 = bt s i := by unfold vOf; rw [if_pos rfl]
    rw [this, ← hb0]; rfl
  rw [if_neg c1] at hr
  rw [if_neg (by omega)]
  by_cases c2 : (i : Int) + 2 ≤ s.size ∧ is2_ s i = true
  · rw [if_pos c2] at hr
    have h2 := (is2_iff s i).1 c2.2
    have g1 := getb s i 1 (by omega)
    rw [show ((1 : Nat) : Int) = 1 from rfl] at g1
    have e1 : ((s.get! (i + 0)).toNat / 32 == 6 && (decide (i + 1 < s.size) && (s.get! (i + 1)).toNat / 64 == 2)) = true := by
      simp only [Bool.and_eq_true, beq_iff_eq, decide_eq_true_eq]
      refine ⟨by omega, by omega, by omega⟩
    rw [if_pos e1, if_pos (by omega), hr]
    have : vOf s i 2 = bt s i % 32 * 64 + bt s (i + 1) % 64 := by unfold vOf; rw [if_neg (by decide), if_pos rfl]
    rw [this]
    refine Prod.ext ?_ rfl
    show _ = (bt s i % 32 * 64 + bt s (i + 1) % 64).toNat
    omega
  rw [if_neg c2] at hr
  have n1 : ¬ ((s.get! (i + 0)).toNat / 32 == 6 && (decide (i + 1 < s.size) && (s.get! (i + 1)).toNat / 64 == 2)) = true ∨ True := .inr trivial
  clear n1
  by_cases c3 : (i : Int) + 3 ≤ s.size ∧ is3_ s i = true
  · rw [if_pos c3] at hr
    have h3 := (is3_iff s i).1 c3.2
    have g1 := getb s i 1 (by omega)
    have g2 := getb s i 2 (by omega)
    rw [show ((1 : Nat) : Int) = 1 from rfl] at g1
    rw [show ((2 : Nat) : Int) = 2 from rfl] at g2
    have e0 : ¬ ((s.get! (i + 0)).toNat / 32 == 6 && (decide (i + 1 < s.size) && (s.get! (i + 1)).toNat / 64 == 2)) = true := by
      simp only [Bool.and_eq_true, beq_iff_eq, decide_eq_true_eq]
      omega
    have e1 : ((s.get! (i + 0)).toNat / 16 == 14 && (decide (i + 1 < s.size) && (s.get! (i + 1)).toNat / 64 == 2) && (decide (i + 2 < s.size) && (s.get! (i + 2)).toNat / 64 == 2)) = true := by
      simp only [Bool.and_eq_true, beq_iff_eq, decide_eq_true_eq]
      refine ⟨⟨by omega, by omega, by omega⟩, by omega, by omega⟩
    have e2 : ∀ c : Nat, (c : Int) = (bt s i % 16 * 64 + bt s (i + 1) % 64) * 64 + bt s (i + 2) % 64 → (decide (c ≥ 2048) && Utf8.valid c) = true := by
      intro c hc
      simp only [Utf8.valid, Bool.and_eq_true, Bool.or_eq_true, decide_eq_true_eq]
      omega
    rw [if_neg e0, if_pos e1, if_pos (e2 _ (by omega)), hr]
    have : vOf s i 3 = (bt s i % 16 * 64 + bt s (i + 1) % 64) * 64 + bt s (i + 2) % 64 := by unfold vOf; rw [if_neg (by decide), if_neg (by decide), if_pos rfl]
    rw [this]
    refine Prod.ext ?_ rfl
    show _ = ((bt s i % 16 * 64 + bt s (i + 1) % 64) * 64 + bt s (i + 2) % 64).toNat
    omega
  rw [if_neg c3] at hr
  by_cases c4 : (i : Int) + 4 ≤ s.size ∧ is4_ s i = true
  · rw [if_pos c4] at hr
    have h4 := (is4_iff s i).1 c4.2
    have g1 := getb s i 1 (by omega)
    have g2 := getb s i 2 (by omega)
    have g3 := getb s i 3 (by omega)
    rw [show ((1 : Nat) : Int) = 1 from rfl] at g1
    rw [show ((2 : Nat) : Int) = 2 from rfl] at g2
    rw [show ((3 : Nat) : Int) = 3 from rfl] at g3
    have e0 : ¬ ((s.get! (i + 0)).toNat / 32 == 6 && (decide (i + 1 < s.size) && (s.get! (i + 1)).toNat / 64 == 2)) = true := by
      simp only [Bool.and_eq_true, beq_iff_eq, decide_eq_true_eq]
      omega
    have e1 : ¬ ((s.get! (i + 0)).toNat / 16 == 14 && (decide (i + 1 < s.size) && (s.get! (i + 1)).toNat / 64 == 2) && (decide (i + 2 < s.size) && (s.get! (i + 2)).toNat / 64 == 2)) = true := by
      simp only [Bool.and_eq_true, beq_iff_eq, decide_eq_true_eq]
      omega
    have e3 : ((s.get! (i + 0)).toNat / 8 == 30 && (decide (i + 1 < s.size) && (s.get! (i + 1)).toNat / 64 == 2) && (decide (i + 2 < s.size) && (s.get! (i + 2)).toNat / 64 == 2) && (decide (i + 3 < s.size) && (s.get! (i + 3)).toNat / 64 == 2)) = true := by
      simp only [Bool.and_eq_true, beq_iff_eq, decide_eq_true_eq]
      refine ⟨⟨⟨by omega, by omega, by omega⟩, by omega, by omega⟩, by omega, by omega⟩
    have e2 : ∀ c : Nat, (c : Int) = ((bt s i % 8 * 64 + bt s (i + 1) % 64) * 64 + bt s (i + 2) % 64) * 64 + bt s (i + 3) % 64 → (decide (c ≥ 65536) && Utf8.valid c) = true := by
      intro c hc
      simp only [Utf8.valid, Bool.and_eq_true, Bool.or_eq_true, decide_eq_true_eq]
      omega
    rw [if_neg e0, if_neg e1, if_pos e3, if_pos (e2 _ (by omega)), hr]
    have : vOf s i 4 = ((bt s i % 8 * 64 + bt s (i + 1) % 64) * 64 + bt s (i + 2) % 64) * 64 + bt s (i + 3) % 64 := by unfold vOf; rw [if_neg (by decide), if_neg (by decide), if_neg (by decide)]
    rw [this]
    refine Prod.ext ?_ rfl
    show _ = (((bt s i % 8 * 64 + bt s (i + 1) % 64) * 64 + bt s (i + 2) % 64) * 64 + bt s (i + 3) % 64).toNat
    omega
  rw [if_neg c4] at hr
  exact absurd hr hz
theorem bd_step {s : ByteArray} {q : Nat} {i : Int} (h : bd_ s (q + 1) i < 0) (h0 : 0 ≤ i) (hi : i < s.size) : ¬ rsize_ s i = 0 ∧ bd_ s q (i + rsize_ s i) < 0 := by
  simp only [bd_] at h
  rw [if_pos hi] at h
  by_cases hz : rsize_ s i = 0
  · rw [if_pos hz] at h; omega
  · rw [if_neg hz] at h; exact ⟨hz, h⟩
theorem more_rng (s : ByteArray) (i : Int) : ∀ (k : Nat) (n lo hi : Int), n ≤ s.size → more_ s i k n lo hi = 0 ∨ (more_ s i k n lo hi = n + k - i ∧ n + k ≤ s.size)
  | 0, n, _, _, h => by right; simp only [more_]; omega
  | k + 1, n, lo, hi, h => by
    simp only [more_]
    split
    · left; rfl
    split
    · left; rfl
    split
    · left; rfl
    have := more_rng s i k (n + 1) 128 191 (by omega)
    omega
theorem rsize_rng (s : ByteArray) (i : Int) : rsize_ s i = 0 ∨ (1 ≤ rsize_ s i ∧ rsize_ s i ≤ 4 ∧ i + rsize_ s i ≤ s.size) := by
  unfold rsize_
  split
  · left; rfl
  split
  · left; rfl
  unfold lead_
  have a1 := more_rng s i 1 (i + 1) 128 191 (by omega)
  have a2 := more_rng s i 2 (i + 1) 160 191 (by omega)
  have a3 := more_rng s i 2 (i + 1) 128 159 (by omega)
  have a4 := more_rng s i 2 (i + 1) 128 191 (by omega)
  have a5 := more_rng s i 3 (i + 1) 144 191 (by omega)
  have a6 := more_rng s i 3 (i + 1) 128 143 (by omega)
  have a7 := more_rng s i 3 (i + 1) 128 191 (by omega)
  (repeat' split) <;> omega
theorem rl_cons {s : ByteArray} {q : Nat} {i : Int} (hi : i < s.size) (hz : ¬ rsize_ s i = 0) : rl_ s (q + 1) i = vOf s i (rsize_ s i) :: rl_ s q (i + rsize_ s i) := by
  simp only [rl_]; rw [if_pos hi, if_neg hz]
theorem rl_end {s : ByteArray} {q : Nat} {i : Int} (hi : ¬ i < s.size) : rl_ s q i = [] := by
  cases q with
  | zero => rfl
  | succ q => simp only [rl_]; rw [if_neg hi]


end Go.Proofs.Ytmgflcepgbgcmaa.POutlineEntries
