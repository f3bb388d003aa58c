/- The table of types, and which values lie in which cells. -/
import Derived.Test.YthfijdffkbkifaaA2MarksMany
import Derived.Test.YthfijdffkbkifaaProg
import Derived.Test.YthfijdffkbkifaaPMarksManyx
import Derived.Laws.BitsLemmas
namespace Go.AL.X
set_option linter.unusedVariables false
set_option linter.unusedSimpArgs false
open Go.Proofs
def tb : Tab := [
  (3, ⟨.int .i64, 1, 8, [.int .i64 0]⟩),
  (4, ⟨.bool, 1, 1, [.bool false]⟩),
  (23, ⟨.ptr, 1, 8, [.nilp]⟩),
  (24, ⟨.int .i64, 1, 8, [.int .i64 0]⟩),
  (32, ⟨.slice 34, 1, 24, [.emp]⟩),
  (34, ⟨.struct [(0, 3), (1, 3), (2, 3), (3, 4)], 4, 32, [.int .i64 0, .int .i64 0, .int .i64 0, .bool false]⟩),
  (36, ⟨.slice 51, 1, 24, [.emp]⟩),
  (38, ⟨.struct [(0, 3), (1, 3), (2, 36)], 3, 40, [.int .i64 0, .int .i64 0, .emp]⟩),
  (41, ⟨.slice 46, 1, 24, [.emp]⟩),
  (46, ⟨.struct [(0, 3), (1, 3), (2, 4)], 3, 24, [.int .i64 0, .int .i64 0, .bool false]⟩),
  (51, ⟨.struct [(0, 3), (1, 3), (2, 4)], 3, 24, [.int .i64 0, .int .i64 0, .bool false]⟩),
  (61, ⟨.struct [(0, 3), (1, 3), (2, 41)], 3, 40, [.int .i64 0, .int .i64 0, .emp]⟩),
  (72, ⟨.ptr, 1, 8, [.nilp]⟩),
  (75, ⟨.fn, 1, 8, [.junk]⟩)]
theorem tb_ok : Tab.Ok Try.prog tb := Tab.ok_of (by decide +kernel)
open Go.Proofs Go.Proofs.Ythfijdffkbkifaa.PMarksMany
set_option linter.unusedVariables false
noncomputable abbrev cfg (tk : List (Nat × Nat)) : Cfg := ⟨Try.prog, tb, true, fun _ => false, fun _ => false, tk, []⟩
noncomputable abbrev cfgL (tk : List (Nat × Nat)) : Cfg := ⟨Try.prog, tb, false, fun _ => false, fun _ => false, tk, []⟩
theorem mixed : Try.prog.follows .mixedOrders = true := by kernel_rfl
instance : Enc Int := ⟨fun n => [.int .i64 n], 0, 1, fun _ => rfl⟩
instance : Enc ByteArray := ⟨fun n => [.str n], ⟨#[]⟩, 1, fun _ => rfl⟩
instance {α : Type} [Enc α] : Enc (List α) := ⟨fun l => [.sl (l.map Enc.enc)], [], 1, fun _ => rfl⟩
@[reducible] def e46 (x : S46) : List AV := [.int .i64 x.f0, .int .i64 x.f1, .bool x.f2]
instance : Enc S46 := ⟨e46, z46, 3, fun _ => rfl⟩
def dec46 : List AV → S46 | [.int _ y0, .int _ y1, .bool y2] => ⟨y0, y1, y2⟩ | _ => z46
@[reducible] def e51 (x : S51) : List AV := [.int .i64 x.f0, .int .i64 x.f1, .bool x.f2]
instance : Enc S51 := ⟨e51, z51, 3, fun _ => rfl⟩
def dec51 : List AV → S51 | [.int _ y0, .int _ y1, .bool y2] => ⟨y0, y1, y2⟩ | _ => z51
@[reducible] def e34 (x : S34) : List AV := [.int .i64 x.f0, .int .i64 x.f1, .int .i64 x.f2, .bool x.f3]
instance : Enc S34 := ⟨e34, z34, 4, fun _ => rfl⟩
def dec34 : List AV → S34 | [.int _ y0, .int _ y1, .int _ y2, .bool y3] => ⟨y0, y1, y2, y3⟩ | _ => z34
def pv {α : Type} [Enc α] : List α → AV
  | [] => .nilp
  | t :: _ => .ptrF (Enc.enc t)
theorem rdc46 (a : S46) (l : List S46) : rd_T46 (a :: l) 0 = a := rfl
theorem rdc46' (a : S46) (l : List S46) : Go.AL.rd (a :: l) 0 = a := rfl
theorem pl46 (y : S46) : ∀ x ∈ (Enc.enc y : List AV), leaf0 x = true := by
  intro x hx
  have hx : x ∈ ([.int .i64 y.f0, .int .i64 y.f1, .bool y.f2] : List AV) := hx
  simp only [List.mem_cons, List.not_mem_nil, or_false] at hx
  rcases hx with rfl | rfl | rfl <;> rfl
theorem del_row {α : Type} (l : List α) (z : α) {i j : Nat} (h : i < j) (hj : j ≤ l.length) (X : List α) : (((l.take i ++ l.drop j ++ X).take (i + (l.length - j)) ++ List.replicate (l.length - (i + (l.length - j))) z ++ (l.take i ++ l.drop j ++ X).drop l.length).take (i + (l.length - j))) = l.take i ++ l.drop j := by
  have h1 : (l.take i ++ l.drop j).length = i + (l.length - j) := by simp; omega
  rw [List.append_assoc, List.take_append_of_le_length (by rw [List.length_take, List.length_append, h1]; omega), List.take_take, Nat.min_self, List.take_append_of_le_length (by omega), List.take_of_length_le (by omega)]
theorem rq_T46 (l : List S46) (i : Int) : rd_T46 l i = Go.AL.rd l i := rfl
theorem rq_T51 (l : List S51) (i : Int) : rd_T51 l i = Go.AL.rd l i := rfl
theorem rq_T34 (l : List S34) (i : Int) : rd_T34 l i = Go.AL.rd l i := rfl
set_option maxHeartbeats 1000000 in
theorem slices_Delete.does {o0 : List S46} {a1 a2 : Int} {r : List S46} (h : slices_Delete.f o0 a1 a2 = some r) (G : Objs) : DoesT Try.prog true 25 [.own 3 (o0.map Enc.enc), .int .i64 a1, .int .i64 a2] G (fun x _ => x = .own 3 (r.map Enc.enc)) := by
  unfold slices_Delete.f at h
  by_cases hc : 0 ≤ a1 ∧ a1 < a2 ∧ a2 ≤ (o0.length : Int)
  · rw [if_pos hc] at h
    obtain ⟨c0, c1, c2⟩ := hc
    have hr := Option.some.inj h
    clear h
    have hM : ((o0.map Enc.enc).take o0.length).drop a2.toNat = ((o0.drop a2.toNat).map Enc.enc : List (List AV)) := by
      rw [List.take_of_length_le (by simp), List.map_drop]
    have hL : (o0.map Enc.enc).take a1.toNat ++ ((o0.drop a2.toNat).map Enc.enc : List (List AV)) ++ (o0.map Enc.enc).drop (a1.toNat + ((o0.drop a2.toNat).map Enc.enc : List (List AV)).length) = (o0.take a1.toNat ++ o0.drop a2.toNat ++ o0.drop (a1.toNat + (o0.length - a2.toNat))).map Enc.enc := by
      simp [List.map_take, List.map_drop]
    have hH : a1.toNat + ((o0.drop a2.toNat).map Enc.enc : List (List AV)).length = a1.toNat + (o0.length - a2.toNat) := by simp
    have hW : ∀ es ∈ ((o0.drop a2.toNat).map Enc.enc : List (List AV)), es.length = 3 := by
      intro es hes
      obtain ⟨y, _, rfl⟩ := List.mem_map.1 hes
      rfl
    have hF : ((o0.drop a2.toNat).map Enc.enc : List (List AV)).flatten.all AV.leaf = true := by
      rw [List.all_eq_true]
      intro x hx
      obtain ⟨es, he, hx⟩ := List.mem_flatten.1 hx
      obtain ⟨y, _, rfl⟩ := List.mem_map.1 he
      have := pl46 y x hx
      cases x <;> first | rfl | cases this
    have hlen : (o0.take a1.toNat ++ o0.drop a2.toNat ++ o0.drop (a1.toNat + (o0.length - a2.toNat))).length = o0.length := by simp; omega
    refine doesT_walk 3 (F := cfg [(5, 6)]) tb_ok mixed Try.func25 rfl (fun T hT => ?_)
    repeat' first
      | (show E3 _ _ _ _ _ _ _ _; first
        | refine oQ vLv ?_
        | refine oQ (vLs (hle := by simp only [List.length_map, hlen]; omega)) ?_
        | refine oS3 ?_
        | refine oSd (c0 := by omega) (c1 := by omega) (c2 := by simp only [List.length_map, hlen]; omega) ?_
        | refine oClr z46 (hlh := by omega) (hhl := by omega) ?_
        | refine oSh (hle := by simp [hlen]; omega) ?_
        | refine oW ?_
        | refine oWs ?_
        | refine n_reg [0, 1, 2, 6, 7, 8, 16] ?_)
      | (show E1 _ _ _ _ _ _ _; first
        | (show E1 _ _ _ (.region 5 _ _) _ _ _; refine rehome 0 8 ?_)
        | refine c_seq ?_
        | refine c_reg ?_
        | refine c_drwf ?_
        | refine c_drw ?_
        | refine c_ff ?_
        | refine c_df ?_
        | refine c_skip ?_
        | refine c_ret ?_)
      | (show E2 _ _ _ _ _ _ _; first
        | (refine n_endO hT ?_; subst hr; exact congrArg (fun z => AV.own 3 (List.map Enc.enc z)) (del_row o0 z46 (by omega) (by omega) _))
        | refine n_seq ?_)
      | (show E4 _ _ _ _ _ _ _; first
        | refine dQ vShv ?_
        | refine dQ vSlv ?_
        | refine dW ?_
        | refine dE ?_)
      | (show E5 _ _ _ _ _ _ _; first
        | refine tDs (hmm := hM) (hhi := hH) (a4 := hW) (a5 := hF) (a6 := by simp only [List.length_map, List.length_drop]; omega) (hl' := hL) ?_
        | refine tW ?_
        | refine n_drw [0, 1, 2, 6, 7, 8, 16] ?_)
  · rw [if_neg hc] at h; cases h
end Go.AL.X
