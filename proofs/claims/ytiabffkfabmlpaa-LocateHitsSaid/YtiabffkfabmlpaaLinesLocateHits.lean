import Derived.Test.YtiabffkfabmlpaaFewLocateHits
/-! Our own text: the bytes of pages, the program's and the reference's. -/
namespace Go.Proofs.Ytiabffkfabmlpaa.PLocateHits
set_option linter.unusedVariables false
open Go.RowKit Go.Proofs.YtiabffkfabmlpaaW.PrintWords

/-! ### bytes -/
def totL : List S28 → Nat
  | [] => 0
  | x :: t => x.f0.size + totL t
def totP : List S24 → Nat
  | [] => 0
  | x :: t => totL x.f0 + totP t
theorem totL_le {t : List S28} (h : ∀ x ∈ t, GoodL x) : totL t ≤ 200 * t.length := by
  induction t with
  | nil => simp [totL]
  | cons x t ih =>
    have h1 := (h x List.mem_cons_self).1
    have := ih (fun y hy => h y (List.mem_cons_of_mem _ hy))
    simp only [totL, List.length_cons]; omega
theorem totP_le {t : List S24} (h : ∀ x ∈ t, ∀ y ∈ x.f0, GoodL y) : totP t ≤ 200 * tots t := by
  induction t with
  | nil => simp [totP]
  | cons x t ih =>
    have h1 := totL_le (h x List.mem_cons_self)
    have := ih (fun y hy => h y (List.mem_cons_of_mem _ hy))
    simp only [totP, tots]; omega

/-! ### the reference's bytes -/
theorem tots_mem {L : List S24} {x : S24} (h : x ∈ L) : x.f0.length ≤ tots L := by
  induction L with
  | nil => cases h
  | cons y t ih =>
    rcases List.mem_cons.1 h with e | e
    · rw [e]; simp only [tots]; omega
    · have := ih e; simp only [tots]; omega
theorem few_len {L : List S24} (h : Few L) : ∀ x ∈ L, x.f0.length ≤ 60 := fun x hx => by have := tots_mem hx; have := h.2.1; omega
theorem few_tot {L : List S24} (h : Few L) : totP L ≤ 12000 := by have := totP_le h.1; have := h.2.1; omega
/-! ### how many bytes -/
theorem ps_l0 {l : List S28} (hl : l.length ≤ 1000) : ∀ (t : List S28) (i : Nat) (a : Nat), l.drop i = t → a + totL t ≤ 1000000 → i ≤ l.length →
    Ev (fun k => locate_pageSize.l0 k (a : Int) l (l.length : Int) (i : Int)) ((a + totL t : Nat) : Int)
  | [], i, a, h, ha, hi => by
    have := dropN h
    exact Ev.step (fun k => by rw [locate_pageSize.l0, if_neg (by omega)]; rfl) (Ev.now _)
  | x :: t, i, a, h, ha, hi => by
    obtain ⟨h1, h2, h3⟩ := d28 h
    simp only [totL] at ha ⊢
    have e : wrap64 ((a : Int) + (x.f0.size : Int)) = ((a + x.f0.size : Nat) : Int) := by rw [w64 (by omega) (by omega)]; omega
    have ih := ps_l0 hl t (i + 1) (a + x.f0.size) h3 (by omega) (by omega)
    rw [show a + (x.f0.size + totL t) = a + x.f0.size + totL t by omega]
    exact Ev.step (fun k => by rw [locate_pageSize.l0, if_pos (by omega), if_pos (by omega), if_pos (by omega), h2, e, upN (by omega)]) ih
theorem ps_ev {l : List S28} (hl : l.length ≤ 1000) (ht : totL l ≤ 1000000) : Ev (fun k => locate_pageSize.f k l) ((totL l : Nat) : Int) := by
  have := ps_l0 hl l 0 0 rfl (by omega) (Nat.zero_le _)
  rw [Nat.zero_add] at this
  exact this
/-! ### the line of a byte -/
/-! ### what the reference finds -/
end Go.Proofs.Ytiabffkfabmlpaa.PLocateHits
