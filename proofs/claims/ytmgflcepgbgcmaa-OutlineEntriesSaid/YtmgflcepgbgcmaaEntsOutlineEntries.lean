import Derived.Test.YtmgflcepgbgcmaaLabelOutlineEntries
import Derived.Test.YtmgflcepgbgcmaaSpansOutlineEntries
/-! Our own text: an index as rows, the program's and the reference's. -/
namespace Go.Proofs.Ytmgflcepgbgcmaa.POutlineEntries
set_option linter.unusedVariables false
open Go.RowKit Go.Proofs.YtmgflcepgbgcmaaW.PrintWords

noncomputable def lab_ (p f : Int) : ByteArray := Classical.choose (label_ev p f)
theorem lab_size (p f : Int) : (lab_ p f).size ≤ 64 := (Classical.choose_spec (label_ev p f)).1
theorem lab_p (p f : Int) : Ev (fun k => outline_Label.f k p f) (lab_ p f) := (Classical.choose_spec (label_ev p f)).2.1
theorem lab_r (p f : Int) : Ev (fun k => regletref22_Label.f k p f) (lab_ p f) := (Classical.choose_spec (label_ev p f)).2.2
abbrev e32 : ByteArray := ⟨#[32]⟩
abbrev e44 : ByteArray := ⟨#[44]⟩
abbrev e45 : ByteArray := ⟨#[45]⟩
abbrev e4432 : ByteArray := ⟨#[44, 32]⟩
theorem e_comma : e44 ++ e32 = e4432 := by apply ByteArray.ext; rfl
theorem z32 : e32.size = 1 := rfl
theorem z44s : e44.size = 1 := rfl
theorem z45s : e45.size = 1 := rfl
theorem z4432 : e4432.size = 2 := rfl
/-- What one span adds. -/
noncomputable def pc_ (f : Int) (sg acc : ByteArray) (x : S38) : ByteArray := if x.f1 > x.f0 then (acc ++ (sg ++ lab_ x.f0 f)) ++ (e45 ++ lab_ x.f1 f) else acc ++ (sg ++ lab_ x.f0 f)
theorem pc_size (f : Int) (sg acc : ByteArray) (x : S38) (h : sg.size ≤ 2) : (pc_ f sg acc x).size ≤ acc.size + 200 := by
  have h1 := lab_size x.f0 f
  have h2 := lab_size x.f1 f
  unfold pc_
  split
  · rw [ByteArray.size_append, ByteArray.size_append, ByteArray.size_append, ByteArray.size_append, z45s]; omega
  · rw [ByteArray.size_append, ByteArray.size_append]; omega
noncomputable def tx_ (f : Int) (acc : ByteArray) : List S38 → ByteArray
  | [] => acc
  | x :: t => tx_ f (pc_ f e4432 acc x) t
noncomputable def txt_ (f : Int) (acc : ByteArray) : List S38 → ByteArray
  | [] => acc
  | x :: t => tx_ f (pc_ f e32 acc x) t

theorem dropG {α : Type} {l t : List α} {i : Nat} {n : α} (z : α) (h : l.drop i = n :: t) : i < l.length ∧ l.getD i z = n ∧ l.drop (i + 1) = t := by
  have h1 : i < l.length := by
    rcases Nat.lt_or_ge i l.length with h1 | h1
    · exact h1
    · rw [List.drop_eq_nil_of_le h1] at h; cases h
  rw [List.drop_eq_getElem_cons h1] at h
  injection h with h2 h3
  refine ⟨h1, ?_, h3⟩
  rw [List.getD_eq_getElem?_getD, List.getElem?_eq_getElem h1, h2]; rfl
theorem dropE {α : Type} {l : List α} {i : Nat} (hi : i ≤ l.length) (h : l.drop i = []) : i = l.length := by
  have := congrArg List.length h
  rw [List.length_drop, List.length_nil] at this
  omega
theorem up64 {i : Nat} (h : i ≤ 1000) : wrap64 ((i : Int) + 1) = ((i + 1 : Nat) : Int) := by rw [w64s (by omega) (by omega)]; omega
theorem rd38 {s t : List S38} {i : Nat} {x : S38} (h : s.drop i = x :: t) : i < s.length ∧ rd_T38 s (i : Int) = x ∧ s.drop (i + 1) = t := by
  have := dropG z38 h
  unfold rd_T38
  rw [Int.toNat_natCast]
  exact this
theorem big1 {n : Nat} (h : n ≤ 1000000) : n ≤ 9223372036854775807 := by omega

section
variable {f : Int} {sp : List S38} {x5 r : List ByteArray}
/-! ### the program -/
theorem pj2 {x12 : List S44} {x13 x14 : Int} {sg acc : ByteArray} {x : S38} {j : Nat} (hs : sg.size ≤ 2) (ha : acc.size ≤ 500000) (hj : j ≤ 900)
    (hc : Ev (fun k => outline_Entries.l1 k f x5 (pc_ f sg acc x) x12 x13 x14 sp (sp.length : Int) ((j + 1 : Nat) : Int)) r) :
    Ev (fun k => outline_Entries.j2 k f x5 acc sg x12 x13 x14 sp (sp.length : Int) (j : Int) x.f0 x.f1) r := by
  have h1 := lab_size x.f0 f
  have h2 := lab_size x.f1 f
  have b1 : sg.size + (lab_ x.f0 f).size ≤ 9223372036854775807 := by omega
  have b2 : acc.size + (sg ++ lab_ x.f0 f).size ≤ 9223372036854775807 := by rw [ByteArray.size_append]; omega
  refine Ev.step (fun k => by rw [outline_Entries.j2]) ?_
  refine Ev.bind (lab_p x.f0 f) ?_
  simp only [if_pos b1, if_pos b2, up64 (show j ≤ 1000 by omega)]
  unfold pc_ at hc
  by_cases c : x.f1 > x.f0
  · simp only [if_pos c] at hc ⊢
    refine Ev.bind (lab_p x.f1 f) ?_
    have b3 : 1 + (lab_ x.f1 f).size ≤ 9223372036854775807 := by omega
    have b4 : (acc ++ (sg ++ lab_ x.f0 f)).size + (e45 ++ lab_ x.f1 f).size ≤ 9223372036854775807 := by
      rw [ByteArray.size_append, ByteArray.size_append, ByteArray.size_append, z45s]; omega
    simp only [if_pos b3, if_pos b4]
    exact hc
  · simp only [if_neg c] at hc ⊢
    exact hc
theorem pl1 {x12 : List S44} {x13 x14 : Int} (h5 : x5.length ≤ 1000) (hsp : sp.length ≤ 800) : ∀ (t : List S38) (j : Nat) (acc : ByteArray), j ≤ sp.length → 0 < j → sp.drop j = t → acc.size ≤ 1000 + 200 * j →
    Ev (fun k => outline_Entries.l0 k f (x5 ++ [tx_ f acc t]) x12 x13 (wrap64 (x14 + 1))) r →
    Ev (fun k => outline_Entries.l1 k f x5 acc x12 x13 x14 sp (sp.length : Int) (j : Int)) r
  | [], j, acc, hj, h0, hd, ha, hc => by
    have := dropE hj hd
    exact Ev.step (fun k => by rw [outline_Entries.l1, if_neg (by omega), if_pos (by omega)]; rfl) hc
  | x :: t, j, acc, hj, h0, hd, ha, hc => by
    obtain ⟨d1, d2, d3⟩ := rd38 hd
    refine Ev.step (fun k => by rw [outline_Entries.l1, if_pos (by omega), if_pos (by omega), if_pos (by omega), if_neg (by omega), d2]) ?_
    have hz : (pc_ f (⟨#[44, 32]⟩ : ByteArray) acc x).size ≤ acc.size + 200 := pc_size f e4432 acc x (by rw [z4432]; omega)
    exact pj2 (by rw [z4432]; omega) (by omega) (by omega) (pl1 h5 hsp t (j + 1) (pc_ f (⟨#[44, 32]⟩ : ByteArray) acc x) (by omega) (by omega) d3 (by omega) hc)
theorem pl1_0 {x12 : List S44} {x13 x14 : Int} (h5 : x5.length ≤ 1000) (hsp : sp.length ≤ 800) (acc : ByteArray) (ha : acc.size ≤ 1000)
    (hc : Ev (fun k => outline_Entries.l0 k f (x5 ++ [txt_ f acc sp]) x12 x13 (wrap64 (x14 + 1))) r) :
    Ev (fun k => outline_Entries.l1 k f x5 acc x12 x13 x14 sp (sp.length : Int) 0) r := by
  cases sp with
  | nil => exact Ev.step (fun k => by rw [outline_Entries.l1, if_neg (by simp), if_pos (by omega)]; rfl) hc
  | cons x t =>
    obtain ⟨d1, d2, d3⟩ := rd38 (s := x :: t) (i := 0) rfl
    have d2' : rd_T38 (x :: t) 0 = x := d2
    refine Ev.step (fun k => by rw [outline_Entries.l1, if_pos (by omega), if_pos (by omega), if_pos (by omega), if_pos rfl, d2']) ?_
    have hz : (pc_ f (⟨#[32]⟩ : ByteArray) acc x).size ≤ acc.size + 200 := pc_size f e32 acc x (by rw [z32]; omega)
    exact pj2 (j := 0) (by rw [z32]; omega) (by omega) (by omega) (pl1 h5 hsp t 1 (pc_ f (⟨#[32]⟩ : ByteArray) acc x) (by simp) (by omega) d3 (by omega) hc)

/-! ### the reference -/
theorem rj2 {x0 : List S45} {x6 : Int} {sg acc acc0 : ByteArray} {x : S38} {j : Nat} (hx : In_ x) (he : acc ++ e32 = acc0 ++ sg) (hs : sg.size ≤ 2) (ha : acc.size ≤ 500000) (hj : j < sp.length) (hj2 : j ≤ 900) (hd : rd_T38 sp (j : Int) = x)
    (hc : Ev (fun k => regletref22_Entries.l1 k x0 f x5 x6 (pc_ f sg acc0 x) sp ((j + 1 : Nat) : Int)) r) :
    Ev (fun k => regletref22_Entries.j2 k x0 f x5 x6 acc sp (j : Int)) r := by
  have h1 := lab_size x.f0 f
  have h2 := lab_size x.f1 f
  have b0 : acc.size + 1 ≤ 9223372036854775807 := by omega
  have b1 : (acc ++ e32).size + (lab_ x.f0 f).size ≤ 9223372036854775807 := by rw [ByteArray.size_append, z32]; omega
  unfold In_ at hx
  refine Ev.step (fun k => by rw [regletref22_Entries.j2, if_pos b0, if_pos (by omega), if_pos (by omega), hd]) ?_
  refine Ev.bind (lab_r x.f0 f) ?_
  simp only [if_pos b1, up64 (show j ≤ 1000 by omega)]
  unfold pc_ at hc
  by_cases c : x.f1 = x.f0
  · have c2 : ¬ x.f1 > x.f0 := by omega
    simp only [if_pos c]
    rw [if_neg c2] at hc
    rw [he, ByteArray.append_assoc]
    exact hc
  · have c2 : x.f1 > x.f0 := by omega
    have b2 : ((acc ++ e32) ++ lab_ x.f0 f).size + 1 ≤ 9223372036854775807 := by rw [ByteArray.size_append, ByteArray.size_append, z32]; omega
    have b3 : (((acc ++ e32) ++ lab_ x.f0 f) ++ e45).size + (lab_ x.f1 f).size ≤ 9223372036854775807 := by rw [ByteArray.size_append, ByteArray.size_append, ByteArray.size_append, z32, z45s]; omega
    simp only [if_neg c, if_pos b2]
    refine Ev.bind (lab_r x.f1 f) ?_
    simp only [if_pos b3]
    rw [if_pos c2] at hc
    have e : (((acc ++ e32) ++ lab_ x.f0 f) ++ e45) ++ lab_ x.f1 f = (acc0 ++ (sg ++ lab_ x.f0 f)) ++ (e45 ++ lab_ x.f1 f) := by
      rw [he]; simp only [ByteArray.append_assoc]
    rw [e]
    exact hc
theorem rl1 {x0 : List S45} {x6 : Int} (h5 : x5.length ≤ 1000) (hsp : sp.length ≤ 800) (hin : ∀ x ∈ sp, In_ x) : ∀ (t : List S38) (j : Nat) (acc : ByteArray), j ≤ sp.length → 0 < j → sp.drop j = t → acc.size ≤ 1000 + 200 * j →
    Ev (fun k => regletref22_Entries.l0 k x0 f (x5 ++ [tx_ f acc t]) (wrap64 (x6 + 1))) r →
    Ev (fun k => regletref22_Entries.l1 k x0 f x5 x6 acc sp (j : Int)) r
  | [], j, acc, hj, h0, hd, ha, hc => by
    have := dropE hj hd
    exact Ev.step (fun k => by rw [regletref22_Entries.l1, if_neg (by omega), if_pos (by omega)]; rfl) hc
  | x :: t, j, acc, hj, h0, hd, ha, hc => by
    obtain ⟨d1, d2, d3⟩ := rd38 hd
    have hm : x ∈ sp := List.mem_of_mem_drop (i := j) (by rw [hd]; exact List.mem_cons_self)
    refine Ev.step (fun k => by rw [regletref22_Entries.l1, if_pos (by omega), if_pos (by omega), if_pos (by omega)]) ?_
    have hz : (pc_ f (⟨#[44, 32]⟩ : ByteArray) acc x).size ≤ acc.size + 200 := pc_size f e4432 acc x (by rw [z4432]; omega)
    exact rj2 (acc0 := acc) (sg := (⟨#[44, 32]⟩ : ByteArray)) (hin x hm) (by rw [ByteArray.append_assoc]; rw [e_comma]) (by rw [z4432]; omega) (by rw [ByteArray.size_append, z44s]; omega) d1 (by omega) d2 (rl1 h5 hsp hin t (j + 1) (pc_ f (⟨#[44, 32]⟩ : ByteArray) acc x) (by omega) (by omega) d3 (by omega) hc)
theorem rl1_0 {x0 : List S45} {x6 : Int} (h5 : x5.length ≤ 1000) (hsp : sp.length ≤ 800) (hin : ∀ x ∈ sp, In_ x) (acc : ByteArray) (ha : acc.size ≤ 1000)
    (hc : Ev (fun k => regletref22_Entries.l0 k x0 f (x5 ++ [txt_ f acc sp]) (wrap64 (x6 + 1))) r) :
    Ev (fun k => regletref22_Entries.l1 k x0 f x5 x6 acc sp 0) r := by
  cases sp with
  | nil => exact Ev.step (fun k => by rw [regletref22_Entries.l1, if_neg (by simp), if_pos (by omega)]; rfl) hc
  | cons x t =>
    obtain ⟨d1, d2, d3⟩ := rd38 (s := x :: t) (i := 0) rfl
    refine Ev.step (fun k => by rw [regletref22_Entries.l1, if_pos (by omega), if_neg (by omega)]) ?_
    have hz : (pc_ f (⟨#[32]⟩ : ByteArray) acc x).size ≤ acc.size + 200 := pc_size f e32 acc x (by rw [z32]; omega)
    exact rj2 (j := 0) (acc0 := acc) (sg := (⟨#[32]⟩ : ByteArray)) (hin x List.mem_cons_self) rfl (by rw [z32]; omega) (by omega) d1 (by omega) d2 (rl1 h5 hsp hin t 1 (pc_ f (⟨#[32]⟩ : ByteArray) acc x) (by simp) (by omega) d3 (by omega) hc)
end

/-! ### all of an index -/
abbrev WP := ByteArray × List Int
def m44 (p : WP) : S44 := ⟨p.1, p.2⟩
def m45 (p : WP) : S45 := ⟨p.1, p.2⟩
def GoodP (p : WP) : Prop := p.1.size ≤ 200 ∧ p.2.length ≤ 100 ∧ Rise (-1) p.2
noncomputable def ent_ (f : Int) (p : WP) : ByteArray := txt_ f p.1 (spansOf p.2)
theorem rd44 {l t : List WP} {i : Nat} {x : WP} (h : l.drop i = x :: t) : i < l.length ∧ rd_T44 (l.map m44) (i : Int) = m44 x ∧ l.drop (i + 1) = t := by
  obtain ⟨h1, h2, h3⟩ := dropG (⟨⟨#[]⟩, []⟩ : WP) h
  refine ⟨h1, ?_, h3⟩
  unfold rd_T44
  rw [Int.toNat_natCast, List.getD_eq_getElem?_getD, List.getElem?_map]
  rw [List.getD_eq_getElem?_getD, List.getElem?_eq_getElem h1] at h2
  rw [List.getElem?_eq_getElem h1, ← h2]; rfl
theorem rd45 {l t : List WP} {i : Nat} {x : WP} (h : l.drop i = x :: t) : i < l.length ∧ rd_T45 (l.map m45) (i : Int) = m45 x ∧ l.drop (i + 1) = t := by
  obtain ⟨h1, h2, h3⟩ := dropG (⟨⟨#[]⟩, []⟩ : WP) h
  refine ⟨h1, ?_, h3⟩
  unfold rd_T45
  rw [Int.toNat_natCast, List.getD_eq_getElem?_getD, List.getElem?_map]
  rw [List.getD_eq_getElem?_getD, List.getElem?_eq_getElem h1] at h2
  rw [List.getElem?_eq_getElem h1, ← h2]; rfl
theorem snoc_map (f : Int) (acc : List ByteArray) (x : WP) (t : List WP) : (acc ++ [ent_ f x]) ++ t.map (ent_ f) = acc ++ (x :: t).map (ent_ f) := by simp
theorem pents_l0 {f : Int} {l : List WP} (hl : l.length ≤ 100) (hg : ∀ x ∈ l, GoodP x) : ∀ (t : List WP) (i : Nat) (acc : List ByteArray), i ≤ l.length → l.drop i = t → acc.length ≤ i →
    Ev (fun k => outline_Entries.l0 k f acc (l.map m44) ((l.map m44).length : Int) (i : Int)) (acc ++ t.map (ent_ f))
  | [], i, acc, hi, hd, ha => by
    have := dropE hi hd
    have hm : (l.map m44).length = l.length := List.length_map _
    rw [List.map_nil, List.append_nil]
    exact Ev.step (fun k => by rw [outline_Entries.l0, if_neg (by omega)]) (Ev.now _)
  | x :: t, i, acc, hi, hd, ha => by
    obtain ⟨d1, d2, d3⟩ := rd44 hd
    have hm : (l.map m44).length = l.length := List.length_map _
    obtain ⟨g1, g2, g3⟩ := hg x (List.mem_of_mem_drop (i := i) (by rw [hd]; exact List.mem_cons_self))
    have hs := (spansOf_facts g3).2.2.2
    refine Ev.step (fun k => by rw [outline_Entries.l0, if_pos (by omega), if_pos (by omega), if_pos (by omega), d2]) ?_
    refine Ev.bind (pspans_ev (l := x.2) (by omega) g3) ?_
    refine pl1_0 (by omega) (by omega) x.1 (by omega) ?_
    rw [up64 (show i ≤ 1000 by omega)]
    have := pents_l0 (f := f) hl hg t (i + 1) (acc ++ [ent_ f x]) (by omega) d3 (by rw [List.length_append, List.length_singleton]; omega)
    rw [snoc_map] at this
    exact this
theorem rents_l0 {f : Int} {l : List WP} (hl : l.length ≤ 100) (hg : ∀ x ∈ l, GoodP x) : ∀ (t : List WP) (i : Nat) (acc : List ByteArray), i ≤ l.length → l.drop i = t → acc.length ≤ i →
    Ev (fun k => regletref22_Entries.l0 k (l.map m45) f acc (i : Int)) (acc ++ t.map (ent_ f))
  | [], i, acc, hi, hd, ha => by
    have := dropE hi hd
    have hm : (l.map m45).length = l.length := List.length_map _
    rw [List.map_nil, List.append_nil]
    exact Ev.step (fun k => by rw [regletref22_Entries.l0, if_neg (by omega)]) (Ev.now _)
  | x :: t, i, acc, hi, hd, ha => by
    obtain ⟨d1, d2, d3⟩ := rd45 hd
    have hm : (l.map m45).length = l.length := List.length_map _
    obtain ⟨g1, g2, g3⟩ := hg x (List.mem_of_mem_drop (i := i) (by rw [hd]; exact List.mem_cons_self))
    have hs := spansOf_facts g3
    refine Ev.step (fun k => by rw [regletref22_Entries.l0, if_pos (by omega), if_pos (by omega), d2]) ?_
    refine Ev.bind (rspans_ev (l := x.2) (by omega) g3) ?_
    refine rl1_0 (by omega) (by have := hs.2.2.2; omega) hs.1 x.1 (by omega) ?_
    rw [up64 (show i ≤ 1000 by omega)]
    have := rents_l0 (f := f) hl hg t (i + 1) (acc ++ [ent_ f x]) (by omega) d3 (by rw [List.length_append, List.length_singleton]; omega)
    rw [snoc_map] at this
    exact this
end Go.Proofs.Ytmgflcepgbgcmaa.POutlineEntries
