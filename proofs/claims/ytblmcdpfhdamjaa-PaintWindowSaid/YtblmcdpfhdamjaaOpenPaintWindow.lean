import Derived.Test.YtblmcdpfhdamjaaKPaintWindow
import Derived.ChangeArms
import Derived.OpenShut
import Derived.DataElems
import Derived.WideShapes
/-! Our own text. What is read as data is of a kind of the print's: slices, structs and arrays to any depth. -/
namespace Go.Proofs.Ytblmcdpfhdamjaa.Opened
open Go.Proofs.YtblmcdpfhdamjaaW.PrintWords

/-- What reads at type t is of kind k. -/
structure Opens (P : Program) (t : TypeId) {α : Type} (k : Kd α) (wf : α → Prop) : Prop where
  read : ∀ {H : Type} (enc : TypeId × Value → H) (w : World) (held : Bool) (fuel : Nat) (cs : List Value) (x : DataW H × List MemPlace),
    DataW.trod enc P w 0 (fun _ => true) held fuel t cs = some x → ∃ a : α, k.K w a cs ∧ wf a

theorem scalar_K {α : Type} {enc : α → Value} {h : ∀ x : α, (enc x).oneCell' = true} (w : World) (x : α) : (Kd.scalar enc h).K w x [enc x] := rfl

section
variable {P : Program} {t : TypeId}
theorem Opens.int {k : IntKind} (hu : P.underlying t = some (.int k)) : Opens P t (Kd.int k) (fun n => (Lit.int k n).wf = true) := by
  refine ⟨fun {H} enc w held fuel cs x h => ?_⟩
  obtain ⟨n, rfl, _, hw⟩ := DataW.trod_int hu h
  exact ⟨n, rfl, hw⟩
theorem Opens.bool (hu : P.underlying t = some .bool) : Opens P t Kd.bool (fun _ => True) := by
  refine ⟨fun {H} enc w held fuel cs x h => ?_⟩
  obtain ⟨b, rfl, _⟩ := DataW.trod_bool hu h
  exact ⟨b, rfl, trivial⟩
theorem Opens.string (hu : P.underlying t = some .string) : Opens P t Kd.string (fun s => s.size ≤ maxLen) := by
  refine ⟨fun {H} enc w held fuel cs x h => ?_⟩
  obtain ⟨s, rfl, _, hs⟩ := DataW.trod_string hu h
  exact ⟨s, rfl, hs⟩
theorem Opens.slice {α : Type} {k : Kd α} {wf : α → Prop} {e : TypeId} (hu : P.underlying t = some (.slice e)) (hc : P.cellsOf e = k.sz) (hk : Opens P e k wf) :
    Opens P t (Kd.slice e k) (fun xs => xs.length ≤ maxLen ∧ ∀ x ∈ xs, wf x) := by
  refine ⟨fun {H} enc w held fuel cs x h => ?_⟩
  rcases DataW.trod_slice hu h with ⟨rfl, _⟩ | ⟨a, len, cap, elems, rest, n, _, rfl, _, _, hl, hm, hlen, hel, _, _⟩
  · refine ⟨[], ⟨none, 0, rfl, Nat.le_refl _, rfl, by simp, fun h0 => absurd h0 (by simp)⟩, by simp, fun x hx => by simp at hx⟩
  · have each : ∀ i, i < len → ∃ y : α, ∃ c, c.length = k.sz ∧ k.K w y c ∧ wf y ∧ ∀ j u, c[j]? = some u → w.cell? (a.add (i * k.sz + j)) = some u := by
      intro i hi
      have h1 := hel i hi
      rw [List.getElem?_eq_getElem (by omega), Option.bind_eq_some_iff] at h1
      obtain ⟨c, hcs, hy⟩ := h1
      obtain ⟨y, hK, hW⟩ := hk.read enc w held n c _ hy
      refine ⟨y, c, k.K_len hK, hK, hW, fun j u hu => ?_⟩
      have hj : j < P.cellsOf e := by
        have := (List.getElem?_eq_some_iff.1 hu).1
        rw [k.K_len hK] at this
        omega
      have h3 := (World.cells?_some hcs).2.2 j hj
      rw [hu] at h3
      have e3 : (a.add (i * P.cellsOf e)).add j = a.add (i * k.sz + j) := by rw [hc]; exact Addr.add_add _ _ _
      rw [e3] at h3
      exact h3
    have hall : ∀ m, m ≤ len → ∃ ys : List α, ys.length = m ∧ (∀ y ∈ ys, wf y) ∧ ∀ j p, ys[j]? = some p → ∃ c, c.length = k.sz ∧ k.K w p c ∧ ∀ i u, c[i]? = some u → w.cell? (a.add (j * k.sz + i)) = some u := by
      intro m
      induction m with
      | zero => exact fun _ => ⟨[], rfl, fun y hy => by simp at hy, fun j p hp => by simp at hp⟩
      | succ m ih =>
        intro hm2
        obtain ⟨ys, h1, h2, h3⟩ := ih (by omega)
        obtain ⟨y, c, g1, g2, g3, g4⟩ := each m (by omega)
        refine ⟨ys ++ [y], by simp [h1], ?_, ?_⟩
        · intro z hz
          rcases List.mem_append.1 hz with hz | hz
          · exact h2 z hz
          · rw [List.mem_singleton.1 hz]; exact g3
        · intro j p hp
          rcases Nat.lt_or_ge j ys.length with hj | hj
          · rw [List.getElem?_append_left hj] at hp
            exact h3 j p hp
          · rw [List.getElem?_append_right hj] at hp
            have hj0 : j = m := by
              have := (List.getElem?_eq_some_iff.1 hp).1
              simp at this
              omega
            subst hj0
            rw [h1, Nat.sub_self] at hp
            simp at hp
            subst hp
            exact ⟨c, g1, g2, g4⟩
    obtain ⟨ys, h1, h2, h3⟩ := hall len (Nat.le_refl _)
    refine ⟨ys, ⟨some a, cap, by rw [h1], by omega, rfl, ?_, fun _ => ⟨a, rfl, h3⟩⟩, by omega, h2⟩
    rw [h1]; unfold maxLen at hm; omega
theorem Opens.iso {α β : Type} {k : Kd α} {wf : α → Prop} (h : Opens P t k wf) (f : β → α) (g : α → β) (hfg : ∀ a, f (g a) = a) : Opens P t (Kd.iso k f) (fun b => wf (f b)) := by
  refine ⟨fun {H} enc w held fuel cs x hx => ?_⟩
  obtain ⟨a, hK, hW⟩ := h.read enc w held fuel cs x hx
  exact ⟨g a, by show k.K w (f (g a)) cs; rw [hfg]; exact hK, by show wf (f (g a)); rw [hfg]; exact hW⟩
theorem Opens.imp {α : Type} {k : Kd α} {wf wf' : α → Prop} (h : Opens P t k wf) (hi : ∀ a, wf a → wf' a) : Opens P t k wf' := by
  refine ⟨fun {H} enc w held fuel cs x hx => ?_⟩
  obtain ⟨a, hK, hW⟩ := h.read enc w held fuel cs x hx
  exact ⟨a, hK, hi a hW⟩
/-- The fields from a cell on. -/
structure OpensFs (P : Program) (fs : List Field) (off : Nat) {α : Type} (k : Kd α) (wf : α → Prop) : Prop where
  read : ∀ {H : Type} (enc : TypeId × Value → H) (w : World) (held : Bool) (fuel : Nat) (cs : List Value),
    cs.length = off + k.sz → (∀ f ∈ fs, ∃ x, DataW.trod enc P w 0 (fun _ => true) held fuel f.type ((cs.drop f.offset).take (P.cellsOf f.type)) = some x) → ∃ a : α, k.K w a (cs.drop off) ∧ wf a
theorem OpensFs.one {α : Type} {k : Kd α} {wf : α → Prop} {f : Field} {off : Nat} (ho : f.offset = off) (hc : P.cellsOf f.type = k.sz) (hk : Opens P f.type k wf) : OpensFs P [f] off k wf := by
  refine ⟨fun {H} enc w held fuel cs hl hall => ?_⟩
  obtain ⟨x, hx⟩ := hall f (by simp)
  rw [ho, hc, List.take_of_length_le (by simp [hl])] at hx
  exact hk.read enc w held fuel _ x hx
theorem OpensFs.cons {α β : Type} {k : Kd α} {k2 : Kd β} {wf : α → Prop} {wf2 : β → Prop} {f : Field} {fs : List Field} {off : Nat} (ho : f.offset = off) (hc : P.cellsOf f.type = k.sz) (hk : Opens P f.type k wf)
    (h2 : OpensFs P fs (off + k.sz) k2 wf2) : OpensFs P (f :: fs) off (Kd.pair k k2) (fun p => wf p.1 ∧ wf2 p.2) := by
  refine ⟨fun {H} enc w held fuel cs hl hall => ?_⟩
  have hsz : (Kd.pair k k2).sz = k.sz + k2.sz := rfl
  obtain ⟨x, hx⟩ := hall f (by simp)
  rw [ho, hc] at hx
  obtain ⟨a, hK, hW⟩ := hk.read enc w held fuel _ x hx
  obtain ⟨b, hK2, hW2⟩ := h2.read enc w held fuel cs (by omega) (fun g hg => hall g (by simp [hg]))
  refine ⟨(a, b), ⟨_, _, ?_, hK, hK2⟩, hW, hW2⟩
  rw [← List.drop_drop, List.take_append_drop]
theorem Opens.struct {α : Type} {k : Kd α} {wf : α → Prop} {fs : Array Field} (hu : P.underlying t = some (.struct fs)) (hc : P.cellsOf t = k.sz) (h : OpensFs P fs.toList 0 k wf) : Opens P t k wf := by
  refine ⟨fun {H} enc w held fuel cs x hx => ?_⟩
  obtain ⟨xs, n, _, _, hl, hxs, hf⟩ := DataW.trod_struct hu hx
  have := h.read enc w held n cs (by omega) (fun f hf0 => by
    obtain ⟨i, hi⟩ := List.getElem?_of_mem hf0
    have hi2 : fs[i]? = some f := by simpa using hi
    have hlt : i < xs.length := by
      have := (List.getElem?_eq_some_iff.1 hi).1
      simp at this
      omega
    exact ⟨_, (hf i f hi2).trans (List.getElem?_eq_getElem hlt)⟩)
  rw [List.drop_zero] at this
  exact this
/-- An array of two. -/
theorem Opens.array2 {α : Type} {k : Kd α} {wf : α → Prop} {e : TypeId} (hu : P.underlying t = some (.array 2 e)) (hc : P.cellsOf t = k.sz + k.sz) (he : P.cellsOf e = k.sz) (h : Opens P e k wf) : Opens P t (Kd.pair k k) (fun p => wf p.1 ∧ wf p.2) := by
  refine ⟨fun {H} enc w held fuel cs x hx => ?_⟩
  obtain ⟨xs, m, _, _, hl, hxs, hf⟩ := DataW.trod_array hu hx
  have h0 := hf 0 (by omega)
  have h1 := hf 1 (by omega)
  rw [List.getElem?_eq_getElem (by omega)] at h0 h1
  obtain ⟨a, hK, hW⟩ := h.read enc w held m _ _ h0
  obtain ⟨b, hK2, hW2⟩ := h.read enc w held m _ _ h1
  rw [Nat.zero_mul, List.drop_zero, he] at hK
  rw [Nat.one_mul, he, List.take_of_length_le (by simp; omega)] at hK2
  exact ⟨(a, b), ⟨_, _, (List.take_append_drop k.sz cs).symm, hK, hK2⟩, hW, hW2⟩
theorem okWide_array {w : World} {r : Reach} {base : Nat} {v : Value} {n : Nat} {e : TypeId} (ht : P.underlying t = some (.array n e)) (h : Value.okWide P w r base t v) : ∃ cs, v = .agg cs ∧ cs.size = P.cellsOf t := by
  simp only [Value.okWide, ht] at h
  obtain ⟨cs, h1, h2, _⟩ := h
  exact ⟨cs, h1, h2⟩
end
end Go.Proofs.Ytblmcdpfhdamjaa.Opened
