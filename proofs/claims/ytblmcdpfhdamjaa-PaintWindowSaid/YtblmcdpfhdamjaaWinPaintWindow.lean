import Derived.Test.YtblmcdpfhdamjaaPPaintWindowx
/-! Our own text: pages one below the other in a window, and what is seen of them. -/
namespace Go.Proofs.Ytblmcdpfhdamjaa.PPaintWindow
set_option linter.unusedVariables false
open Go.RowKit Go.Proofs.YtblmcdpfhdamjaaW.PrintWords

theorem w64 {x : Int} (h0 : -9223372036854775808 ≤ x) (h1 : x ≤ 9223372036854775807) : wrap64 x = x := by unfold wrap64; omega
theorem upJ {i : Nat} (h : i < 9223372036854775807) : wrap64 ((i : Int) + 1) = ((i + 1 : Nat) : Int) := by rw [w64 (by omega) (by omega)]; omega
structure Win (h g : Int) (M : Nat) : Prop where
  h1 : 1 ≤ h
  h2 : h ≤ 1073741824
  g1 : 0 ≤ g
  g2 : g ≤ 1073741824
  m : M ≤ 50
def sz_ (h g : Int) (M : Nat) : Int := if M = 0 then 0 else (M : Int) * (h + g) - g
theorem mulB {s : Int} {p M : Nat} (h0 : 0 ≤ s) (h1 : s ≤ 2147483648) (hp : p ≤ M) (hm : M ≤ 50) : 0 ≤ (p : Int) * s ∧ (p : Int) * s ≤ (M : Int) * s ∧ (M : Int) * s ≤ 107374182400 := by
  refine ⟨Int.mul_nonneg (by omega) h0, Int.mul_le_mul_of_nonneg_right (by omega) h0, ?_⟩
  have : (M : Int) * s ≤ 50 * 2147483648 := Int.mul_le_mul (by omega) h1 h0 (by omega)
  omega
theorem mulS {s : Int} {p : Nat} : ((p + 1 : Nat) : Int) * s = (p : Int) * s + s := by
  rw [show ((p + 1 : Nat) : Int) = (p : Int) + 1 by omega, Int.add_mul, Int.one_mul]
theorem size_ev {h g : Int} {M : Nat} (w : Win h g M) : paint_Window_Size.f h g (M : Int) = some (sz_ h g M) := by
  obtain ⟨h1, h2, g1, g2, m⟩ := w
  unfold paint_Window_Size.f sz_
  by_cases c : M = 0
  · rw [if_pos (by omega), if_pos c]
  · rw [if_neg (by omega), if_neg c]
    have a1 := (mulB (s := h) (p := M) (by omega) (by omega) (Nat.le_refl _) m)
    have a2 := (mulB (s := g) (p := M) (by omega) (by omega) (Nat.le_refl _) m)
    have e1 : (M : Int) * (h + g) = (M : Int) * h + (M : Int) * g := Int.mul_add _ _ _
    have e2 : ((M : Int) - 1) * g = (M : Int) * g - g := by rw [Int.sub_mul, Int.one_mul]
    rw [e1, w64 (x := (M : Int) - 1) (by omega) (by omega), e2]
    generalize (M : Int) * h = u at *
    generalize (M : Int) * g = v at *
    rw [w64 (x := u) (by omega) (by omega), w64 (x := v - g) (by omega) (by omega), w64 (by omega) (by omega)]
    congr 1; omega
theorem top_in {h g : Int} {M p : Nat} (w : Win h g M) (hp : p < M) : 0 ≤ (p : Int) * (h + g) ∧ (p : Int) * (h + g) + h ≤ sz_ h g M ∧ sz_ h g M ≤ 107374182400 := by
  obtain ⟨h1, h2, g1, g2, m⟩ := w
  have a1 := (mulB (s := h + g) (p := p) (by omega) (by omega) (Nat.le_of_lt hp) m)
  have a2 := (mulB (s := h + g) (p := p + 1) (by omega) (by omega) hp m)
  rw [mulS] at a2
  unfold sz_
  rw [if_neg (by omega)]
  omega
theorem top_ev {h g : Int} {M p : Nat} (w : Win h g M) (hp : p < M) : paint_Window_Top.f h g (M : Int) (p : Int) = some ((p : Int) * (h + g), true) := by
  have a := top_in w hp
  obtain ⟨h1, h2, g1, g2, m⟩ := w
  unfold paint_Window_Top.f
  rw [if_neg (by omega), if_neg (by omega), w64 (x := h + g) (by omega) (by omega), w64 (by omega) (by omega)]
theorem top_out {h g : Int} {M : Nat} : paint_Window_Top.f h g (M : Int) (M : Int) = some (0, false) := by
  unfold paint_Window_Top.f
  rw [if_neg (by omega), if_pos (by omega)]
def bnd_ (fr hi h s : Int) (p : Nat) : List (Int × Int × Int) :=
  if fr > 1125899906842624 ∨ hi ≤ 0 then [] else if mx 0 (fr - (p : Int) * s) < mn h (fr + hi - (p : Int) * s) then [((p : Int), mx 0 (fr - (p : Int) * s), mn h (fr + hi - (p : Int) * s))] else []
def wl_ (fr hi h s : Int) : Nat → Nat → List (Int × Int × Int)
  | 0, _ => []
  | n + 1, p => bnd_ fr hi h s p ++ wl_ fr hi h s n (p + 1)
def t56 (x : Int × Int × Int) : S56 := ⟨x.1, x.2.1, x.2.2⟩
def t90 (x : Int × Int × Int) : S90 := ⟨x.1, x.2.1, x.2.2⟩
def pg_ (h s y : Int) : Nat → Nat → Int × Int × Bool → Int × Int × Bool
  | 0, _, st => st
  | n + 1, p, st => pg_ h s y n (p + 1) (if (p : Int) * s ≤ y ∧ y - (p : Int) * s < h then ((p : Int), y - (p : Int) * s, true) else st)
theorem bnd_len (fr hi h s : Int) (p : Nat) : (bnd_ fr hi h s p).length ≤ 1 := by
  unfold bnd_
  split
  · simp
  · split <;> simp
theorem mx_ge {a b : Int} : a ≤ mx a b ∧ b ≤ mx a b := by unfold mx; split <;> omega
theorem mn_le {a b : Int} : mn a b ≤ a ∧ mn a b ≤ b := by unfold mn; split <;> omega
theorem mx_comm (a b : Int) : mx a b = mx b a := by unfold mx; split <;> split <;> omega

theorem len1_ {a b p : Nat} (h1 : a ≤ p) (h2 : b ≤ 1) : a + b ≤ p + 1 := Nat.add_le_add h1 h2
theorem sml_ {a p M : Nat} (h1 : a ≤ p) (h2 : p < M) (h3 : M ≤ 50) : a < 5864062014805 := Nat.lt_of_le_of_lt h1 (Nat.lt_of_lt_of_le h2 (Nat.le_trans h3 (by decide)))
theorem upM_ {p M : Nat} (h2 : p < M) (h3 : M ≤ 50) : wrap64 ((p : Int) + 1) = ((p + 1 : Nat) : Int) := upJ (Nat.lt_trans (Nat.lt_of_lt_of_le h2 h3) (by decide))
theorem wsub_ {y ps : Int} (h0 : 0 ≤ ps) (h1 : ps ≤ y) (h2 : y ≤ 9223372036854775807) : wrap64 (y - ps) = y - ps := w64 (by omega) (by omega)
theorem wfr_ {fr ps : Int} (h0 : 0 ≤ ps) (h1 : ps ≤ 107374182400) (h2 : -1073741824 ≤ fr) (h3 : fr ≤ 1125899906842624) : wrap64 (fr - ps) = fr - ps := w64 (by omega) (by omega)
theorem wfh_ {fr hi : Int} (h2 : -1073741824 ≤ fr) (h3 : fr ≤ 1125899906842624) (h4 : 0 ≤ hi) (h5 : hi ≤ 281474976710656) : wrap64 (fr + hi) = fr + hi := w64 (by omega) (by omega)
theorem wfp_ {fr hi ps : Int} (h0 : 0 ≤ ps) (h1 : ps ≤ 107374182400) (h2 : -1073741824 ≤ fr) (h3 : fr ≤ 1125899906842624) (h4 : 0 ≤ hi) (h5 : hi ≤ 281474976710656) : wrap64 (fr + hi - ps) = fr + hi - ps := w64 (by omega) (by omega)
/-- One page: what is appended, and what is found; ps: its top. -/
theorem page_ev {h g y sz fr hi a0 a1 ps : Int} {M p : Nat} {r : Bool} {acc : List S56} {st : Int × Int × Bool} {B : List S56} {st' : Int × Int × Bool} (hp0 : 0 ≤ ps) (hp1 : ps ≤ 107374182400) (hpM : p < M) (hM : M ≤ 50) (hy : y ≤ 9223372036854775807) (hf0 : -1073741824 ≤ fr) (hf1 : fr ≤ 9223372036854775807) (hi1 : hi ≤ 281474976710656) (ha : acc.length ≤ p)
    (hB : B = if fr > 1125899906842624 ∨ hi ≤ 0 then [] else if mx 0 (fr - ps) < mn h (fr + hi - ps) then [⟨(p : Int), mx 0 (fr - ps), mn h (fr + hi - ps)⟩] else [])
    (hst : st' = if ps ≤ y ∧ y - ps < h then ((p : Int), y - ps, true) else st)
    (hr2 : Ev (fun k => regletlaw21_PaintWindow.l0 k y sz (acc ++ B) fr hi st'.1 st'.2.1 st'.2.2 ((p + 1 : Nat) : Int) h g (M : Int) a0 a1) r) :
    Ev (fun k => regletlaw21_PaintWindow.j3 k y sz acc fr hi st.1 st.2.1 st.2.2 (p : Int) ps false h g (M : Int) a0 a1) r := by
  have wu := upM_ hpM hM
  have hsm := sml_ ha hpM hM
  have h6 : ∀ b : Bool, (b = true ↔ (fr > 1125899906842624 ∨ hi ≤ 0)) → Ev (fun k => regletlaw21_PaintWindow.j6 k y sz acc fr hi st'.1 st'.2.1 st'.2.2 (p : Int) ps b h g (M : Int) a0 a1) r := by
    intro b hb
    by_cases c : fr > 1125899906842624 ∨ hi ≤ 0
    · rw [if_pos c] at hB
      subst hB
      rw [List.append_nil] at hr2
      rw [hb.2 c]
      exact Ev.step (fun k => by rw [regletlaw21_PaintWindow.j6, if_pos rfl, wu]) hr2
    · have hb' : ¬ b = true := fun x => c (hb.1 x)
      rw [if_neg c] at hB
      have c1 : fr ≤ 1125899906842624 := Int.not_lt.1 (fun x => c (.inl x))
      have c2 : 0 ≤ hi := Int.le_of_lt (Int.not_le.1 (fun x => c (.inr x)))
      have w1 := wfr_ hp0 hp1 hf0 c1
      have w2 := wfh_ hf0 c1 c2 hi1
      have w3 := wfp_ hp0 hp1 hf0 c1 c2 hi1
      by_cases d : mx 0 (fr - ps) < mn h (fr + hi - ps)
      · rw [if_pos d] at hB
        subst hB
        refine Ev.step (fun k => ?_) hr2
        rw [regletlaw21_PaintWindow.j6, if_neg hb', w1, w2, w3, if_pos d, if_pos hsm, wu]
      · rw [if_neg d] at hB
        subst hB
        rw [List.append_nil] at hr2
        refine Ev.step (fun k => ?_) hr2
        rw [regletlaw21_PaintWindow.j6, if_neg hb', w1, w2, w3, if_neg d, wu]
  have h5 : Ev (fun k => regletlaw21_PaintWindow.j5 k y sz acc fr hi st'.1 st'.2.1 st'.2.2 (p : Int) ps h g (M : Int) a0 a1) r := by
    by_cases c : fr > 1125899906842624
    · exact Ev.step (fun k => by rw [regletlaw21_PaintWindow.j5, if_pos c]) (h6 true (by simp [c]))
    · refine Ev.step (fun k => by rw [regletlaw21_PaintWindow.j5, if_neg c]) (h6 (decide (hi ≤ 0)) ?_)
      rw [decide_eq_true_iff]
      exact Iff.intro (fun x => Or.inr x) (fun x => x.elim (fun z => absurd z c) id)
  have h4 : ∀ b : Bool, (b = true ↔ (ps ≤ y ∧ y - ps < h)) → Ev (fun k => regletlaw21_PaintWindow.j4 k y sz acc fr hi st.1 st.2.1 st.2.2 (p : Int) ps b h g (M : Int) a0 a1) r := by
    intro b hb
    by_cases c : ps ≤ y ∧ y - ps < h
    · rw [if_pos c] at hst
      subst hst
      rw [hb.2 c]
      refine Ev.step (fun k => ?_) h5
      rw [regletlaw21_PaintWindow.j4, if_pos rfl, wsub_ hp0 c.1 hy]
    · have hb' : ¬ b = true := fun x => c (hb.1 x)
      rw [if_neg c] at hst
      subst hst
      refine Ev.step (fun k => ?_) h5
      rw [regletlaw21_PaintWindow.j4, if_neg hb']
  by_cases c : y ≥ ps
  · refine Ev.step (fun k => ?_) (h4 (decide (y - ps < h)) (by rw [decide_eq_true_iff]; exact Iff.intro (fun x => And.intro c x) (fun x => x.2)))
    rw [regletlaw21_PaintWindow.j3, if_neg (by decide), if_pos c, wsub_ hp0 c hy]
  · refine Ev.step (fun k => ?_) (h4 false (Iff.intro (fun x => by cases x) (fun x => absurd x.1 c)))
    rw [regletlaw21_PaintWindow.j3, if_neg (by decide), if_neg c]
theorem top_le {h g : Int} {M p : Nat} (w : Win h g M) (hp : p < M) : 0 ≤ (p : Int) * (h + g) ∧ (p : Int) * (h + g) ≤ 107374182400 := by
  have a := top_in w hp
  have b := w.h1
  exact ⟨a.1, by omega⟩
theorem ws_ {h g : Int} {M : Nat} (w : Win h g M) : wrap64 (h + g) = h + g := by
  obtain ⟨h1, h2, g1, g2, m⟩ := w
  exact w64 (by omega) (by omega)
theorem l0_ev {h g y sz fr hi a0 a1 : Int} {M : Nat} {r : Bool} (w : Win h g M) (hy : y ≤ 9223372036854775807) (hf0 : -1073741824 ≤ fr) (hf1 : fr ≤ 9223372036854775807) (hi1 : hi ≤ 281474976710656) : ∀ (n p : Nat) (acc : List S56) (st : Int × Int × Bool), p + n = M → acc.length ≤ p →
    Ev (fun k => regletlaw21_PaintWindow.l0 k y sz (acc ++ (wl_ fr hi h (h + g) n p).map t56) fr hi (pg_ h (h + g) y n p st).1 (pg_ h (h + g) y n p st).2.1 (pg_ h (h + g) y n p st).2.2 (M : Int) h g (M : Int) a0 a1) r →
    Ev (fun k => regletlaw21_PaintWindow.l0 k y sz acc fr hi st.1 st.2.1 st.2.2 (p : Int) h g (M : Int) a0 a1) r
  | 0, p, acc, st, hp, ha, hr => by
    have e : p = M := hp
    subst e
    simpa [wl_, pg_] using hr
  | n + 1, p, acc, st, hp, ha, hr => by
    have hpM : p < M := by rw [← hp]; exact Nat.lt_add_of_pos_right (Nat.succ_pos n)
    have ht := top_le w hpM
    have hte := top_ev w hpM
    have ws := ws_ w
    have hbl := bnd_len fr hi h (h + g) p
    have e1 : wl_ fr hi h (h + g) (n + 1) p = bnd_ fr hi h (h + g) p ++ wl_ fr hi h (h + g) n (p + 1) := rfl
    have e2 : pg_ h (h + g) y (n + 1) p st = pg_ h (h + g) y n (p + 1) (if (p : Int) * (h + g) ≤ y ∧ y - (p : Int) * (h + g) < h then ((p : Int), y - (p : Int) * (h + g), true) else st) := rfl
    rw [e1, e2, List.map_append, ← List.append_assoc] at hr
    have ih := l0_ev (r := r) (sz := sz) (a0 := a0) (a1 := a1) w hy hf0 hf1 hi1 n (p + 1) (acc ++ (bnd_ fr hi h (h + g) p).map t56) (if (p : Int) * (h + g) ≤ y ∧ y - (p : Int) * (h + g) < h then ((p : Int), y - (p : Int) * (h + g), true) else st) (by rw [← hp, Nat.add_assoc, Nat.add_comm 1 n]) (by rw [List.length_append, List.length_map]; exact len1_ ha hbl) hr
    have hB : (bnd_ fr hi h (h + g) p).map t56 = if fr > 1125899906842624 ∨ hi ≤ 0 then [] else if mx 0 (fr - (p : Int) * (h + g)) < mn h (fr + hi - (p : Int) * (h + g)) then [⟨(p : Int), mx 0 (fr - (p : Int) * (h + g)), mn h (fr + hi - (p : Int) * (h + g))⟩] else [] := by
      unfold bnd_
      split
      · rfl
      · split <;> rfl
    have hpg := page_ev (r := r) ht.1 ht.2 hpM w.m hy hf0 hf1 hi1 ha hB rfl ih
    refine Ev.step (fun k => ?_) hpg
    have wp : wrap64 ((p : Int) * (h + g)) = (p : Int) * (h + g) := w64 (by omega) (by omega)
    rw [regletlaw21_PaintWindow.l0, if_pos (Int.ofNat_lt.2 hpM), hte, Option.bind_some, ws, wp, if_pos rfl]
    rfl

theorem wl_nil {fr hi h s : Int} : ∀ (n p : Nat), (∀ q, p ≤ q → q < p + n → bnd_ fr hi h s q = []) → wl_ fr hi h s n p = []
  | 0, p, _ => rfl
  | n + 1, p, hq => by
    have e : wl_ fr hi h s (n + 1) p = bnd_ fr hi h s p ++ wl_ fr hi h s n (p + 1) := rfl
    rw [e, hq p (Nat.le_refl _) (by omega), wl_nil n (p + 1) (fun q h1 h2 => hq q (by omega) (by omega))]
    rfl
theorem wl_add {fr hi h s : Int} : ∀ (a n p : Nat), wl_ fr hi h s (a + n) p = wl_ fr hi h s a p ++ wl_ fr hi h s n (p + a)
  | 0, n, p => by rw [Nat.zero_add]; rfl
  | a + 1, n, p => by
    rw [show a + 1 + n = (a + n) + 1 by omega]
    have e : wl_ fr hi h s (a + n + 1) p = bnd_ fr hi h s p ++ wl_ fr hi h s (a + n) (p + 1) := rfl
    have e2 : wl_ fr hi h s (a + 1) p = bnd_ fr hi h s p ++ wl_ fr hi h s a (p + 1) := rfl
    rw [e, e2, wl_add a n (p + 1), List.append_assoc, show p + 1 + a = p + (a + 1) by omega]
theorem bnd_nil {fr hi h s : Int} {q : Nat} (c : ¬ mx 0 (fr - (q : Int) * s) < mn h (fr + hi - (q : Int) * s)) : bnd_ fr hi h s q = [] := by
  unfold bnd_
  split
  · rfl
  · rfl
theorem mnmn_ {h sz fh ps : Int} (h1 : ps + h ≤ sz) : mn h (mn sz fh - ps) = mn h (fh - ps) := by
  unfold mn
  (repeat' split) <;> omega
theorem seen_l0 {h g fr hi : Int} {M : Nat} (w : Win h g M) (hf0 : -1073741824 ≤ fr) (hf : fr ≤ 107374182400) (hi0 : 0 < hi) (hi1 : hi ≤ 281474976710656) : ∀ (n p : Nat) (acc : List S90), p + n = M → acc.length ≤ p →
    Ev (fun k => paint_Window_Seen.l0 k fr acc (mn (sz_ h g M) (fr + hi)) (p : Int) h g (M : Int)) (acc ++ (wl_ fr hi h (h + g) n p).map t90)
  | 0, p, acc, hp, ha => by
    have e : acc ++ (wl_ fr hi h (h + g) 0 p).map t90 = acc := by simp [wl_]
    have e2 : p = M := hp
    subst e2
    rw [e]
    exact Ev.step (fun k => by rw [paint_Window_Seen.l0, if_neg (Int.lt_irrefl _)]) (Ev.now _)
  | n + 1, p, acc, hp, ha => by
    have hpM : p < M := by rw [← hp]; exact Nat.lt_add_of_pos_right (Nat.succ_pos n)
    have hti := top_in w hpM
    have ht := top_le w hpM
    have hte := top_ev w hpM
    have hen := mn_le (a := sz_ h g M) (b := fr + hi)
    by_cases c : (p : Int) * (h + g) ≥ mn (sz_ h g M) (fr + hi)
    · have hnil : wl_ fr hi h (h + g) (n + 1) p = [] := by
        refine wl_nil _ _ (fun q q1 q2 => bnd_nil ?_)
        have hqM : q < M := by rw [hp] at q2; exact q2
        have b0 := ws_ w
        obtain ⟨h1, h2, g1, g2, m⟩ := w
        have b1 := mulB (s := h + g) (p := p) (M := q) (by omega) (by omega) q1 (Nat.le_trans (Nat.le_of_lt hqM) m)
        have b4 := mx_ge (a := 0) (b := fr - (q : Int) * (h + g))
        have b5 := mn_le (a := h) (b := fr + hi - (q : Int) * (h + g))
        have hen2 : mn (sz_ h g M) (fr + hi) = sz_ h g M ∨ mn (sz_ h g M) (fr + hi) = fr + hi := by unfold mn; split <;> simp
        clear hte b0 hp ha
        generalize mn (sz_ h g M) (fr + hi) = e at *
        generalize mx 0 (fr - (q : Int) * (h + g)) = e1 at *
        generalize mn h (fr + hi - (q : Int) * (h + g)) = e3 at *
        generalize (q : Int) * (h + g) = qs at *
        generalize (p : Int) * (h + g) = ps at *
        generalize sz_ h g M = z at *
        omega
      rw [hnil, List.map_nil, List.append_nil]
      refine Ev.step (fun k => ?_) (Ev.now acc)
      rw [paint_Window_Seen.l0, if_pos (Int.ofNat_lt.2 hpM), hte, Option.bind_some, if_pos c]
    · have hmn : mn h (mn (sz_ h g M) (fr + hi) - (p : Int) * (h + g)) = mn h (fr + hi - (p : Int) * (h + g)) := mnmn_ hti.2.1
      have wu := upM_ hpM w.m
      have hsm := sml_ ha hpM w.m
      have w1 : wrap64 (fr - (p : Int) * (h + g)) = fr - (p : Int) * (h + g) := wfr_ ht.1 ht.2 hf0 (by omega)
      have w3 : wrap64 (mn (sz_ h g M) (fr + hi) - (p : Int) * (h + g)) = mn (sz_ h g M) (fr + hi) - (p : Int) * (h + g) := by
        generalize mn (sz_ h g M) (fr + hi) = e at *
        generalize (p : Int) * (h + g) = ps at *
        clear hmn w1 wu hsm hte hti
        exact w64 (by omega) (by omega)
      have hbl := bnd_len fr hi h (h + g) p
      have ih := seen_l0 w hf0 hf hi0 hi1 n (p + 1) (acc ++ (bnd_ fr hi h (h + g) p).map t90) (by rw [← hp, Nat.add_assoc, Nat.add_comm 1 n]) (by rw [List.length_append, List.length_map]; exact len1_ ha hbl)
      have e1 : wl_ fr hi h (h + g) (n + 1) p = bnd_ fr hi h (h + g) p ++ wl_ fr hi h (h + g) n (p + 1) := rfl
      have no : ¬ (fr > 1125899906842624 ∨ hi ≤ 0) := by omega
      rw [e1, List.map_append, ← List.append_assoc]
      refine Ev.step (fun k => ?_) ih
      rw [paint_Window_Seen.l0, if_pos (Int.ofNat_lt.2 hpM), hte, Option.bind_some, if_neg c, w1, w3, hmn, wu]
      unfold bnd_
      rw [if_neg no]
      by_cases d : mx 0 (fr - (p : Int) * (h + g)) < mn h (fr + hi - (p : Int) * (h + g))
      · rw [if_pos d, if_pos d, if_pos hsm]; rfl
      · rw [if_neg d, if_neg d, List.map_nil, List.append_nil]
theorem seen_ev {h g a0 a1 : Int} {M : Nat} (w : Win h g M) (b0 : -9223372036854775808 ≤ a0) (b1 : a0 ≤ 9223372036854775807) :
    Ev (fun k => paint_Window_Seen.f k h g (M : Int) a0 a1) ((wl_ (mx a0 (-1073741824)) (mn a1 281474976710656) h (h + g) M 0).map t90) := by
  rw [mx_comm a0]
  unfold paint_Window_Seen.f
  have hw := w
  obtain ⟨h1, h2, g1, g2, m⟩ := hw
  have hfr0 := mx_ge (a := -1073741824) (b := a0)
  have hhi := mn_le (a := a1) (b := 281474976710656)
  have hhi2 : 0 < a1 → 0 < mn a1 281474976710656 := by unfold mn; split <;> omega
  generalize mx (-1073741824) a0 = fr at *
  generalize mn a1 281474976710656 = hi at *
  by_cases c : a1 ≤ 0
  · have : wl_ fr hi h (h + g) M 0 = [] := wl_nil _ _ (fun q _ _ => by unfold bnd_; rw [if_pos (.inr (by omega))])
    rw [this]
    exact Ev.congr (fun k => by rw [if_pos c]; rfl) (Ev.now _)
  have hs := size_ev w
  by_cases d : fr ≥ sz_ h g M
  · have : wl_ fr hi h (h + g) M 0 = [] := wl_nil _ _ (fun q _ q2 => bnd_nil (by
      have b3 := top_in w (show q < M by omega)
      have b4 := mx_ge (a := 0) (b := fr - (q : Int) * (h + g))
      have b5 := mn_le (a := h) (b := fr + hi - (q : Int) * (h + g))
      omega))
    rw [this]
    exact Ev.congr (fun k => by rw [if_neg c, hs, Option.bind_some, if_pos d]; rfl) (Ev.now _)
  have ws : wrap64 (h + g) = h + g := w64 (by omega) (by omega)
  have hsz : sz_ h g M ≤ 107374182400 := by
    rcases Nat.eq_zero_or_pos M with e | e
    · unfold sz_; rw [if_pos e]; omega
    · exact (top_in w (p := 0) e).2.2
  have key : ∃ p0 : Nat, mx 0 (wrap64 (Int.tdiv fr (h + g))) = (p0 : Int) ∧ p0 ≤ M ∧ ∀ q, q < p0 → bnd_ fr hi h (h + g) q = [] := by
    by_cases e : fr < 0
    · refine ⟨0, ?_, Nat.zero_le _, fun q hq => absurd hq (by omega)⟩
      have e1 : Int.tdiv fr (h + g) = -(Int.tdiv (-fr) (h + g)) := by rw [Int.neg_tdiv]; omega
      have e2 : 0 ≤ Int.tdiv (-fr) (h + g) := by rw [Int.tdiv_eq_ediv_of_nonneg (by omega)]; exact Int.ediv_nonneg (by omega) (by omega)
      have e3 : Int.tdiv (-fr) (h + g) ≤ -fr := by rw [Int.tdiv_eq_ediv_of_nonneg (by omega)]; exact Int.ediv_le_self _ (by omega)
      rw [e1, w64 (by omega) (by omega)]
      unfold mx
      split <;> omega
    · have e1 : Int.tdiv fr (h + g) = fr / (h + g) := Int.tdiv_eq_ediv_of_nonneg (by omega)
      have e2 : 0 ≤ fr / (h + g) := Int.ediv_nonneg (by omega) (by omega)
      have e3 : fr / (h + g) ≤ fr := Int.ediv_le_self _ (by omega)
      have e4 : fr / (h + g) * (h + g) ≤ fr := Int.ediv_mul_le _ (by omega)
      obtain ⟨p0, hp0⟩ : ∃ p0 : Nat, fr / (h + g) = (p0 : Int) := ⟨(fr / (h + g)).toNat, by omega⟩
      rw [hp0] at e2 e3 e4
      refine ⟨p0, ?_, ?_, fun q hq => bnd_nil ?_⟩
      · rw [e1, hp0, w64 (by omega) (by omega)]
        unfold mx
        split <;> omega
      · rcases Nat.lt_or_ge M p0 with f | f
        · exfalso
          rcases Nat.eq_zero_or_pos M with e5 | e5
          · have : sz_ h g M = 0 := by unfold sz_; rw [if_pos e5]
            omega
          · have f1 : sz_ h g M = (M : Int) * (h + g) - g := by unfold sz_; rw [if_neg (by omega)]
            have f2 : (M : Int) * (h + g) ≤ (p0 : Int) * (h + g) := Int.mul_le_mul_of_nonneg_right (by omega) (by omega)
            omega
        · exact f
      · have f2 : ((q + 1 : Nat) : Int) * (h + g) ≤ (p0 : Int) * (h + g) := Int.mul_le_mul_of_nonneg_right (by omega) (by omega)
        rw [mulS] at f2
        have b4 := mx_ge (a := 0) (b := fr - (q : Int) * (h + g))
        have b5 := mn_le (a := h) (b := fr + hi - (q : Int) * (h + g))
        omega
  obtain ⟨p0, k1, k2, k3⟩ := key
  have e : wl_ fr hi h (h + g) M 0 = wl_ fr hi h (h + g) (M - p0) p0 := by
    have := wl_add (fr := fr) (hi := hi) (h := h) (s := h + g) p0 (M - p0) 0
    rw [show p0 + (M - p0) = M by omega, Nat.zero_add, wl_nil p0 0 (fun q _ q2 => k3 q (by omega)), List.nil_append] at this
    exact this
  have := seen_l0 w hfr0.1 (by omega) (hhi2 (by omega)) hhi.2 (M - p0) p0 [] (by omega) (Nat.zero_le _)
  rw [List.nil_append] at this
  rw [e]
  refine Ev.congr (fun k => ?_) this
  rw [if_neg c, hs, Option.bind_some, if_neg d, Option.bind_some, ws, if_neg (by omega), k1, w64 (x := fr + hi) (by omega) (by omega)]
theorem pg_spec {h s y : Int} : ∀ (n p : Nat) (st : Int × Int × Bool), (pg_ h s y n p st = st ∧ ∀ q, p ≤ q → q < p + n → ¬ ((q : Int) * s ≤ y ∧ y - (q : Int) * s < h)) ∨ ∃ q : Nat, p ≤ q ∧ q < p + n ∧ ((q : Int) * s ≤ y ∧ y - (q : Int) * s < h) ∧ pg_ h s y n p st = ((q : Int), y - (q : Int) * s, true)
  | 0, p, st => .inl ⟨rfl, fun q h1 h2 => by omega⟩
  | n + 1, p, st => by
    have e : pg_ h s y (n + 1) p st = pg_ h s y n (p + 1) (if (p : Int) * s ≤ y ∧ y - (p : Int) * s < h then ((p : Int), y - (p : Int) * s, true) else st) := rfl
    rw [e]
    by_cases c : (p : Int) * s ≤ y ∧ y - (p : Int) * s < h
    · rw [if_pos c]
      rcases pg_spec (h := h) (s := s) (y := y) n (p + 1) ((p : Int), y - (p : Int) * s, true) with ⟨a, b⟩ | ⟨q, q1, q2, q3, q4⟩
      · exact .inr ⟨p, Nat.le_refl _, by omega, c, a⟩
      · exact .inr ⟨q, by omega, by omega, q3, q4⟩
    · rw [if_neg c]
      rcases pg_spec (h := h) (s := s) (y := y) n (p + 1) st with ⟨a, b⟩ | ⟨q, q1, q2, q3, q4⟩
      · refine .inl ⟨a, fun q h1 h2 => ?_⟩
        rcases Nat.eq_or_lt_of_le h1 with e1 | e1
        · subst e1; exact c
        · exact b q e1 (by omega)
      · exact .inr ⟨q, by omega, by omega, q3, q4⟩
theorem at_ev {h g y : Int} {M : Nat} (w : Win h g M) (y0 : -9223372036854775808 ≤ y) (y1 : y ≤ 9223372036854775807) :
    Ev (fun k => paint_Window_At.f k h g (M : Int) y) (pg_ h (h + g) y M 0 (0, 0, false)) := by
  have hw := w
  obtain ⟨h1, h2, g1, g2, m⟩ := hw
  have hs := size_ev w
  have ws : wrap64 (h + g) = h + g := w64 (by omega) (by omega)
  have hsp := pg_spec (h := h) (s := h + g) (y := y) M 0 (0, 0, false)
  have out : ∀ b : Bool, b = true → Ev (fun k => paint_Window_At.j0 k y b h g (M : Int)) (0, 0, false) := fun b hb => by
    subst hb
    exact Ev.step (fun k => by rw [paint_Window_At.j0, if_pos rfl]) (Ev.now _)
  unfold paint_Window_At.f
  by_cases c : y < 0
  · have : pg_ h (h + g) y M 0 (0, 0, false) = (0, 0, false) := by
      rcases hsp with ⟨a, _⟩ | ⟨q, q1, q2, q3, q4⟩
      · exact a
      · have := mulB (s := h + g) (p := q) (M := M) (by omega) (by omega) (by omega) m
        omega
    rw [this]
    exact Ev.congr (fun k => by rw [if_pos c]) (out true rfl)
  by_cases d : y ≥ sz_ h g M
  · have : pg_ h (h + g) y M 0 (0, 0, false) = (0, 0, false) := by
      rcases hsp with ⟨a, _⟩ | ⟨q, q1, q2, q3, q4⟩
      · exact a
      · have := top_in w (show q < M by omega)
        omega
    rw [this]
    exact Ev.congr (fun k => by rw [if_neg c, hs, Option.bind_some, decide_eq_true d]) (out true rfl)
  have hM : 0 < M := by
    rcases Nat.eq_zero_or_pos M with e | e
    · have : sz_ h g M = 0 := by unfold sz_; rw [if_pos e]
      omega
    · exact e
  have hz : sz_ h g M = (M : Int) * (h + g) - g := by unfold sz_; rw [if_neg (by omega)]
  have e1 : Int.tdiv y (h + g) = y / (h + g) := Int.tdiv_eq_ediv_of_nonneg (by omega)
  have e2 : Int.tmod y (h + g) = y % (h + g) := Int.tmod_eq_emod_of_nonneg (by omega)
  have e3 : y / (h + g) * (h + g) + y % (h + g) = y := by rw [Int.mul_comm]; exact Int.mul_ediv_add_emod y (h + g)
  have e4 : 0 ≤ y % (h + g) := Int.emod_nonneg _ (by omega)
  have e5 : y % (h + g) < h + g := Int.emod_lt_of_pos _ (by omega)
  have e6 : 0 ≤ y / (h + g) := Int.ediv_nonneg (by omega) (by omega)
  have e7 : y / (h + g) ≤ y := Int.ediv_le_self _ (by omega)
  obtain ⟨q, hq⟩ : ∃ q : Nat, y / (h + g) = (q : Int) := ⟨(y / (h + g)).toNat, by omega⟩
  rw [hq] at e3 e7
  have hqM : q < M := by
    rcases Nat.lt_or_ge q M with f | f
    · exact f
    · have : (M : Int) * (h + g) ≤ (q : Int) * (h + g) := Int.mul_le_mul_of_nonneg_right (by omega) (by omega)
      omega
  have go : ∀ r, (if y % (h + g) ≥ h then ((0 : Int), (0 : Int), false) else ((q : Int), y % (h + g), true)) = r → Ev (fun k => (paint_Window_Size.f h g (M : Int)).bind fun t293 => paint_Window_At.j0 k y (decide (y ≥ t293)) h g (M : Int)) r := by
    intro r hr
    refine Ev.congr (fun k => by rw [hs, Option.bind_some, decide_eq_false d]) (Ev.step (g := fun k => paint_Window_At.j0 k y false h g (M : Int)) (f := fun k => some r) (fun k => ?_) (Ev.now r))
    rw [paint_Window_At.j0, if_neg (by decide), ws, if_neg (by omega), e1, e2, hq, w64 (x := (q : Int)) (by omega) (by omega), ← hr]
    split <;> rfl
  refine Ev.congr (fun k => by rw [if_neg c]) (go _ ?_)
  rcases hsp with ⟨a, b⟩ | ⟨p, q1, q2, q3, q4⟩
  · have := b q (Nat.zero_le _) (by omega)
    rw [a, if_pos (by omega)]
  · have hpq : p = q := by
      rcases Nat.lt_trichotomy p q with f | f | f
      · have : ((p + 1 : Nat) : Int) * (h + g) ≤ (q : Int) * (h + g) := Int.mul_le_mul_of_nonneg_right (by omega) (by omega)
        rw [mulS] at this
        omega
      · exact f
      · have : ((q + 1 : Nat) : Int) * (h + g) ≤ (p : Int) * (h + g) := Int.mul_le_mul_of_nonneg_right (by omega) (by omega)
        rw [mulS] at this
        omega
    subst hpq
    rw [q4, if_neg (by omega), show y % (h + g) = y - (p : Int) * (h + g) by omega]
theorem bands_l0 {l : List (Int × Int × Int)} (hl : l.length ≤ 100) : ∀ (n i : Nat) (acc : List S56), i + n = l.length → acc = (l.take i).map t56 →
    Ev (fun k => regletlaw21_bands.l0 k (l.map t90) acc (i : Int)) (l.map t56)
  | 0, i, acc, h, ha => by
    have e : acc = l.map t56 := by rw [ha, List.take_of_length_le (by omega)]
    rw [← e]
    exact Ev.step (fun k => by rw [regletlaw21_bands.l0, if_neg (by rw [List.length_map]; omega)]) (Ev.now _)
  | n + 1, i, acc, h, ha => by
    have hi : i < l.length := by omega
    have ih := bands_l0 hl n (i + 1) (acc ++ [t56 l[i]]) (by omega) (by rw [ha, ← List.take_append_getElem hi, List.map_append]; rfl)
    have e : rd_T90 (l.map t90) (i : Int) = t90 l[i] := by
      unfold rd_T90
      rw [Int.toNat_natCast, List.getD_eq_getElem?_getD, List.getElem?_map, List.getElem?_eq_getElem hi]
      rfl
    refine Ev.step (fun k => ?_) ih
    rw [regletlaw21_bands.l0, if_pos (by rw [List.length_map]; omega), if_pos (Int.natCast_nonneg i), if_pos (by rw [ha, List.length_map, List.length_take]; omega), e, upJ (by omega)]
    rfl
theorem bands_ev {l : List (Int × Int × Int)} (hl : l.length ≤ 100) : Ev (fun k => regletlaw21_bands.f k (l.map t90)) (l.map t56) :=
  bands_l0 hl l.length 0 [] (by omega) rfl
theorem wl_len {fr hi h s : Int} : ∀ (n p : Nat), (wl_ fr hi h s n p).length ≤ n
  | 0, p => Nat.le_refl _
  | n + 1, p => by
    have e : wl_ fr hi h s (n + 1) p = bnd_ fr hi h s p ++ wl_ fr hi h s n (p + 1) := rfl
    have h1 := bnd_len fr hi h s p
    have h2 := wl_len (fr := fr) (hi := hi) (h := h) (s := s) n (p + 1)
    rw [e, List.length_append]
    omega
theorem l1_ev {h g y : Int} {M : Nat} (w : Win h g M) (y0 : -9223372036854775808 ≤ y) (y1 : y ≤ 9223372036854775807) {l : List S56} (hl : l.length ≤ 100) {a b : Int} {c : Bool} (hp : pg_ h (h + g) y M 0 (0, 0, false) = (a, b, c)) : ∀ (n i : Nat), i + n = l.length →
    Ev (fun k => regletlaw21_PaintWindow.l1 k y l a b c l (i : Int) h g (M : Int)) true
  | 0, i, hi => by
    have ha := at_ev w y0 y1
    rw [hp] at ha
    refine Ev.step (fun k => by rw [regletlaw21_PaintWindow.l1, if_neg (by omega)]) (Ev.bind ha ?_)
    refine Ev.congr (fun k => ?_) (Ev.now true)
    rw [top_out, Option.bind_some, if_pos rfl, if_pos rfl]
    simp
  | n + 1, i, hi => by
    have ih := l1_ev w y0 y1 hl hp n (i + 1) (by omega)
    refine Ev.step (fun k => ?_) ih
    rw [regletlaw21_PaintWindow.l1, if_pos (by omega), if_pos (by omega), if_pos (by omega), upJ (by omega)]
    simp
end Go.Proofs.Ytblmcdpfhdamjaa.PPaintWindow
