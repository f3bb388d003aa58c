import Derived.Test.YtblmcdpfhdamjaaPPaintEnoughx
/-! Our own text: lines held against each other, what changed between two layouts, the bands of it. -/
namespace Go.Proofs.Ytblmcdpfhdamjaa.PPaintEnough
set_option linter.unusedVariables false
set_option linter.unusedSimpArgs false
open Go.RowKit hiding wrap64
open Go.Proofs.YtblmcdpfhdamjaaW.PrintWords hiding mx mn

theorem w64 {x : Int} (h0 : -9223372036854775808 ≤ x) (h1 : x ≤ 9223372036854775807) : wrap64 x = x := by rw [wrap64_def]; omega
theorem upN {i : Nat} (h : i < 9223372036854775807) : wrap64 ((i : Int) + 1) = ((i + 1 : Nat) : Int) := by rw [w64 (by omega) (by omega)]; omega
theorem dropI {α : Type} {l t : List α} {i : Nat} {n : α} (z : α) (h : l.drop i = n :: t) : i < l.length ∧ l.getD i z = n ∧ l.drop (i + 1) = t := by
  have h1 : i < l.length := by
    rcases Nat.lt_or_ge i l.length with h1 | h1
    · exact h1
    · rw [List.drop_eq_nil_of_le h1] at h; cases h
  rw [List.drop_eq_getElem_cons h1] at h
  injection h with h2 h3
  refine ⟨h1, ?_, h3⟩
  rw [List.getD_eq_getElem?_getD, List.getElem?_eq_getElem h1, h2]; rfl
theorem dropN {α : Type} {l : List α} {i : Nat} (h : l.drop i = []) : l.length ≤ i := by
  have := congrArg List.length h
  rw [List.length_drop, List.length_nil] at this
  omega
theorem d25 {l t : List S25} {i : Nat} {n : S25} (h : l.drop i = n :: t) : i < l.length ∧ rd_T25 l (i : Int) = n ∧ l.drop (i + 1) = t := by
  have := dropI z25 h
  unfold rd_T25; rw [Int.toNat_natCast]; exact this
theorem d66 {l t : List S66} {i : Nat} {n : S66} (h : l.drop i = n :: t) : i < l.length ∧ rd_T66 l (i : Int) = n ∧ l.drop (i + 1) = t := by
  have := dropI z66 h
  unfold rd_T66; rw [Int.toNat_natCast]; exact this
theorem d89 {l t : List S89} {i : Nat} {n : S89} (h : l.drop i = n :: t) : i < l.length ∧ rd_T89 l (i : Int) = n ∧ l.drop (i + 1) = t := by
  have := dropI z89 h
  unfold rd_T89; rw [Int.toNat_natCast]; exact this
theorem d90 {l t : List S90} {i : Nat} {n : S90} (h : l.drop i = n :: t) : i < l.length ∧ rd_T90 l (i : Int) = n ∧ l.drop (i + 1) = t := by
  have := dropI z90 h
  unfold rd_T90; rw [Int.toNat_natCast]; exact this
theorem d56 {l t : List S56} {i : Nat} {n : S56} (h : l.drop i = n :: t) : i < l.length ∧ rd_T56 l (i : Int) = n ∧ l.drop (i + 1) = t := by
  have := dropI z56 h
  unfold rd_T56; rw [Int.toNat_natCast]; exact this
theorem d113 {l t : List S113} {i : Nat} {n : S113} (h : l.drop i = n :: t) : i < l.length ∧ rd_T113 l (i : Int) = n ∧ l.drop (i + 1) = t := by
  have := dropI z113 h
  unfold rd_T113; rw [Int.toNat_natCast]; exact this
theorem g25 {l : List S25} {i : Nat} (h : i < l.length) : rd_T25 l (i : Int) = l[i] := (d25 (List.drop_eq_getElem_cons h)).2.1
theorem g66 {l : List S66} {i : Nat} (h : i < l.length) : rd_T66 l (i : Int) = l[i] := (d66 (List.drop_eq_getElem_cons h)).2.1

/-! ### Lines -/
def lim : Nat := 8796093022000
theorem merged_l0 {l : List S89} (hl : l.length ≤ lim) : ∀ (t : List S89) (i : Nat) (acc : List S89), l.drop i = t → i ≤ l.length → acc.length ≤ i →
    ∃ m : List S89, m.length ≤ l.length ∧ Ev (fun k => regletref05_Merged.l0 k l acc (i : Int)) m
  | [], i, acc, h, hi, ha => by
    have := dropN h
    exact ⟨acc, by omega, Ev.step (fun k => by rw [regletref05_Merged.l0, if_neg (by omega)]) (Ev.now _)⟩
  | y :: t, i, acc, h, hi, ha => by
    obtain ⟨h1, h2, h3⟩ := d89 h
    have hl' : l.length ≤ 8796093022000 := hl
    have ha2 : acc.length < 8796093022208 := by omega
    by_cases c : y.f0 ≤ 0
    · obtain ⟨m, g1, g2⟩ := merged_l0 hl t (i + 1) acc h3 h1 (by omega)
      exact ⟨m, g1, Ev.step (fun k => by rw [regletref05_Merged.l0, if_pos (by omega), if_pos (by omega), h2, if_pos c, upN (by omega)]) g2⟩
    · obtain ⟨m2, e1, e2⟩ := merged_l0 hl t (i + 1) (acc ++ [(⟨y.f0, y.f1⟩ : S89)]) h3 h1 (by rw [List.length_append, List.length_singleton]; omega)
      by_cases d : (acc.length : Int) > 0
      · have hw : wrap64 ((acc.length : Int) - 1) = (acc.length : Int) - 1 := w64 (by omega) (by omega)
        by_cases e : (rd_T89 acc ((acc.length : Int) - 1)).f1 = y.f1
        · obtain ⟨m, g1, g2⟩ := merged_l0 hl t (i + 1) (acc.set ((acc.length : Int) - 1).toNat (⟨wrap64 ((rd_T89 acc ((acc.length : Int) - 1)).f0 + y.f0), (rd_T89 acc ((acc.length : Int) - 1)).f1⟩ : S89)) h3 h1 (by rw [List.length_set]; omega)
          exact ⟨m, g1, Ev.step (fun k => by rw [regletref05_Merged.l0, if_pos (by omega), if_pos (by omega), h2, if_neg c, if_pos d, hw, if_pos (by omega), if_pos (by omega), if_pos e, upN (by omega)]) g2⟩
        · exact ⟨m2, e1, Ev.step (fun k => by rw [regletref05_Merged.l0, if_pos (by omega), if_pos (by omega), h2, if_neg c, if_pos d, hw, if_pos (by omega), if_pos (by omega), if_neg e, if_pos ha2, upN (by omega)]) e2⟩
      · exact ⟨m2, e1, Ev.step (fun k => by rw [regletref05_Merged.l0, if_pos (by omega), if_pos (by omega), h2, if_neg c, if_neg d, if_pos ha2, upN (by omega)]) e2⟩
theorem merged_ev {l : List S89} (hl : l.length ≤ lim) : ∃ m : List S89, m.length ≤ l.length ∧ Ev (fun k => regletref05_Merged.f k l) m := by
  unfold regletref05_Merged.f
  exact merged_l0 hl l 0 [] rfl (Nat.zero_le _) (Nat.le_refl _)
theorem rsame_l0 {a b : List S89} (ha : a.length ≤ lim) (he : a.length = b.length) : ∀ d i : Nat, i + d = a.length → ∃ r, Ev (fun k => regletref05_Same.l0 k a b (i : Int)) r
  | 0, i, h => ⟨true, Ev.step (fun k => by rw [regletref05_Same.l0, if_neg (by omega)]) (Ev.now true)⟩
  | d + 1, i, h => by
    have ha' : a.length ≤ 8796093022000 := ha
    obtain ⟨r, ih⟩ := rsame_l0 ha he d (i + 1) (by omega)
    by_cases c : (!(((rd_T89 a (i : Int)).f0) == ((rd_T89 b (i : Int)).f0)) || (!(((rd_T89 a (i : Int)).f1) == ((rd_T89 b (i : Int)).f1)))) = true
    · exact ⟨false, Ev.step (fun k => by rw [regletref05_Same.l0, if_pos (by omega), if_pos (by omega), if_pos (by omega), if_pos c]) (Ev.now false)⟩
    · exact ⟨r, Ev.step (fun k => by rw [regletref05_Same.l0, if_pos (by omega), if_pos (by omega), if_pos (by omega), if_neg c, upN (by omega)]) ih⟩
theorem rsame_ev {a b : List S89} (ha : a.length ≤ lim) : ∃ r, Ev (fun k => regletref05_Same.f k a b) r := by
  unfold regletref05_Same.f
  by_cases c : (a.length : Int) = (b.length : Int)
  · obtain ⟨r, h⟩ := rsame_l0 (b := b) ha (by omega) a.length 0 (by omega)
    exact ⟨r, Ev.congr (fun k => by rw [if_pos c]; rfl) h⟩
  · exact ⟨false, Ev.congr (fun k => by rw [if_neg c]) (Ev.now false)⟩
/-- A line whose runs may be. -/
def Ok (x : S25) : Prop := x.f1.length ≤ lim
/-- Two lines are held against each other, with this answer. -/
def Ln (x y : S25) (b : Bool) : Prop := Ev (fun k => regletref14_Line.f k x.f0 x.f1 x.f2 x.f3 x.f4 x.f5 x.f6 x.f7 x.f8 y.f0 y.f1 y.f2 y.f3 y.f4 y.f5 y.f6 y.f7 y.f8) b
theorem ite_ev {c : Prop} {d : Decidable c} {g : Nat → Option Bool} (h : ∃ r, Ev g r) : ∃ r, Ev (fun k => if c then g k else some false) r := by
  by_cases hc : c
  · obtain ⟨r, h⟩ := h; exact ⟨r, Ev.congr (fun k => if_pos hc) h⟩
  · exact ⟨false, Ev.congr (fun k => if_neg hc) (Ev.now false)⟩
theorem line_ev (x y : S25) (hx : Ok x) (hy : Ok y) : ∃ b, Ln x y b := by
  obtain ⟨m, hm, h1⟩ := merged_ev hx
  obtain ⟨n, hn, h2⟩ := merged_ev hy
  have hm2 : m.length ≤ lim := Nat.le_trans hm hx
  have h3 : ∃ r, Ev (fun k => (regletref10_Same.f k x.f0 m x.f2 x.f3 x.f4 x.f5 x.f6 x.f7 x.f8 y.f0 n y.f2 y.f3 y.f4 y.f5 y.f6 y.f7 y.f8)) r := by
    unfold regletref10_Same.f
    refine ite_ev (ite_ev (ite_ev (ite_ev (ite_ev (ite_ev (ite_ev (ite_ev ?_)))))))
    obtain ⟨r, h⟩ := rsame_ev (b := n) hm2
    exact ⟨r, Ev.bind h (Ev.now r)⟩
  obtain ⟨r, h3⟩ := h3
  refine ⟨r, ?_⟩
  unfold Ln regletref14_Line.f
  exact Ev.bind h1 (Ev.bind h2 (Ev.bind h3 (Ev.now r)))

/-! ### Pages -/
/-- A page whose lines may be. -/
def Nice (x : S25) : Prop := -1125899906842624 ≤ x.f6 ∧ x.f6 ≤ 1125899906842624 ∧ -1125899906842624 ≤ x.f4 ∧ x.f4 ≤ 1125899906842624
structure PgOk (l : List S25) : Prop where
  n : l.length ≤ 40
  ok : ∀ x ∈ l, Ok x
  nice : ∀ x ∈ l, Nice x
theorem page_l0 {a b : List S25} (ha : PgOk a) (hb : PgOk b) (he : a.length = b.length) : ∀ d i : Nat, i + d = a.length → ∃ r, Ev (fun k => regletref14_Page.l0 k (i : Int) a b) r ∧ (r = true → ∀ j (h1 : j < a.length) (h2 : j < b.length), i ≤ j → Ln a[j] b[j] true)
  | 0, i, h => ⟨true, Ev.step (fun k => by rw [regletref14_Page.l0, if_neg (by omega)]) (Ev.now true), fun _ j h1 h2 h3 => by omega⟩
  | d + 1, i, h => by
    have := ha.n
    have hi : i < a.length := by omega
    have hi2 : i < b.length := by omega
    obtain ⟨r, ih, hr⟩ := page_l0 ha hb he d (i + 1) (by omega)
    obtain ⟨c, hc⟩ := line_ev a[i] b[i] (ha.ok _ (List.getElem_mem hi)) (hb.ok _ (List.getElem_mem hi2))
    cases c with
    | false =>
      refine ⟨false, Ev.step (fun k => by rw [regletref14_Page.l0, if_pos (by omega), if_pos (by omega), if_pos (by omega), g25 hi, g25 hi2]) ?_, fun h => by cases h⟩
      exact Ev.bind hc (Ev.now false)
    | true =>
      refine ⟨r, Ev.step (fun k => by rw [regletref14_Page.l0, if_pos (by omega), if_pos (by omega), if_pos (by omega), g25 hi, g25 hi2, upN (by omega)]) (Ev.bind hc ih), fun e j h1 h2 h3 => ?_⟩
      rcases Nat.lt_or_ge i j with g | g
      · exact hr e j h1 h2 g
      · have : j = i := by omega
        subst this; exact hc
theorem page_ev {a b : List S25} (ha : PgOk a) (hb : PgOk b) : ∃ r, Ev (fun k => regletref14_Page.f k a b) r ∧ (r = true → ∀ x ∈ b, ∃ y ∈ a, Ln y x true) := by
  unfold regletref14_Page.f
  by_cases c : (a.length : Int) = (b.length : Int)
  · obtain ⟨r, h, hr⟩ := page_l0 ha hb (by omega) a.length 0 (by omega)
    refine ⟨r, Ev.congr (fun k => by rw [if_pos c]; rfl) h, fun e x hx => ?_⟩
    obtain ⟨j, hj, rfl⟩ := List.mem_iff_getElem.1 hx
    exact ⟨a[j]'(by omega), List.getElem_mem _, hr e j (by omega) hj (Nat.zero_le _)⟩
  · exact ⟨false, Ev.congr (fun k => by rw [if_neg c]) (Ev.now false), fun h => by cases h⟩
/-- The ends alike. -/
def En (a b : List S25) (p q : Nat) : Prop := p + q ≤ a.length ∧ p + q ≤ b.length ∧ (∀ j (h1 : j < a.length) (h2 : j < b.length), j < p → Ln a[j] b[j] true) ∧
  ∀ j (h1 : j < q) (h2 : a.length - 1 - j < a.length) (h3 : b.length - 1 - j < b.length), Ln a[a.length - 1 - j] b[b.length - 1 - j] true
theorem ends_l1 {a b : List S25} (ha : PgOk a) (hb : PgOk b) (p : Nat) : ∀ d q : Nat, q + d = min a.length b.length - p → En a b p q → ∃ q' : Nat, Ev (fun k => regletref14_Ends.l1 k a b (p : Int) (q : Int)) ((p : Int), (q' : Int)) ∧ En a b p q'
  | 0, q, h, he => by
    have := ha.n
    have := hb.n
    have h1 := he.1
    have h2 := he.2.1
    have w1 : wrap64 ((a.length : Int) - (p : Int)) = (a.length : Int) - p := w64 (by omega) (by omega)
    have w2 : wrap64 ((b.length : Int) - (p : Int)) = (b.length : Int) - p := w64 (by omega) (by omega)
    refine ⟨q, ?_, he⟩
    by_cases c : (q : Int) < (a.length : Int) - p
    · exact Ev.step (fun k => by rw [regletref14_Ends.l1, w1, if_pos c, w2, if_neg (by omega)]) (Ev.now _)
    · exact Ev.step (fun k => by rw [regletref14_Ends.l1, w1, if_neg c]) (Ev.now _)
  | d + 1, q, h, he => by
    have := ha.n
    have := hb.n
    have w1 : wrap64 ((a.length : Int) - (p : Int)) = (a.length : Int) - p := w64 (by omega) (by omega)
    have w2 : wrap64 ((b.length : Int) - (p : Int)) = (b.length : Int) - p := w64 (by omega) (by omega)
    have hia : a.length - 1 - q < a.length := by omega
    have hib : b.length - 1 - q < b.length := by omega
    have w3 : wrap64 ((wrap64 ((a.length : Int) - 1)) - (q : Int)) = ((a.length - 1 - q : Nat) : Int) := by rw [w64 (x := (a.length : Int) - 1) (by omega) (by omega), w64 (by omega) (by omega)]; omega
    have w4 : wrap64 ((wrap64 ((b.length : Int) - 1)) - (q : Int)) = ((b.length - 1 - q : Nat) : Int) := by rw [w64 (x := (b.length : Int) - 1) (by omega) (by omega), w64 (by omega) (by omega)]; omega
    obtain ⟨c, hc⟩ := line_ev a[a.length - 1 - q] b[b.length - 1 - q] (ha.ok _ (List.getElem_mem hia)) (hb.ok _ (List.getElem_mem hib))
    have hstep : ∀ k, regletref14_Ends.l1 (k + 1) a b (p : Int) (q : Int) = (regletref14_Line.f k (a[a.length - 1 - q]).f0 (a[a.length - 1 - q]).f1 (a[a.length - 1 - q]).f2 (a[a.length - 1 - q]).f3 (a[a.length - 1 - q]).f4 (a[a.length - 1 - q]).f5 (a[a.length - 1 - q]).f6 (a[a.length - 1 - q]).f7 (a[a.length - 1 - q]).f8 (b[b.length - 1 - q]).f0 (b[b.length - 1 - q]).f1 (b[b.length - 1 - q]).f2 (b[b.length - 1 - q]).f3 (b[b.length - 1 - q]).f4 (b[b.length - 1 - q]).f5 (b[b.length - 1 - q]).f6 (b[b.length - 1 - q]).f7 (b[b.length - 1 - q]).f8).bind fun t => if t = true then regletref14_Ends.l1 k a b (p : Int) ((q + 1 : Nat) : Int) else some ((p : Int), (q : Int)) := fun k => by
      rw [regletref14_Ends.l1, w1, if_pos (by omega), w2, if_pos (by omega), w3, w4, if_pos (by omega), if_pos (by omega), if_pos (by omega), if_pos (by omega), g25 hia, g25 hib, upN (by omega)]
    cases c with
    | false => exact ⟨q, Ev.step hstep (Ev.bind hc (Ev.now _)), he⟩
    | true =>
      obtain ⟨q', h1, h2⟩ := ends_l1 ha hb p d (q + 1) (by omega) ⟨by omega, by omega, he.2.2.1, fun j j1 j2 j3 => by
        rcases Nat.lt_or_ge j q with g | g
        · exact he.2.2.2 j g j2 j3
        · have : j = q := by omega
          subst this; exact hc⟩
      exact ⟨q', Ev.step hstep (Ev.bind hc h1), h2⟩
theorem ends_l0 {a b : List S25} (ha : PgOk a) (hb : PgOk b) : ∀ d p : Nat, p + d = min a.length b.length → En a b p 0 → ∃ p' q' : Nat, Ev (fun k => regletref14_Ends.l0 k a b (p : Int)) ((p' : Int), (q' : Int)) ∧ En a b p' q' := by
  have fin : ∀ p : Nat, p ≤ min a.length b.length → En a b p 0 → ∃ p' q' : Nat, Ev (fun k => regletref14_Ends.j1 k a b (p : Int)) ((p' : Int), (q' : Int)) ∧ En a b p' q' := fun p hp he => by
    obtain ⟨q', h1, h2⟩ := ends_l1 ha hb p (min a.length b.length - p) 0 (by omega) he
    exact ⟨p, q', Ev.step (fun k => by rw [regletref14_Ends.j1]; rfl) h1, h2⟩
  have hna := ha.n
  have hnb := hb.n
  intro d
  induction d with
  | zero =>
    intro p h he
    obtain ⟨p', q', h1, h2⟩ := fin p (by omega) he
    refine ⟨p', q', ?_, h2⟩
    by_cases c : (p : Int) < (a.length : Int)
    · exact Ev.step (fun k => by rw [regletref14_Ends.l0, if_pos c, if_neg (by omega)]) h1
    · exact Ev.step (fun k => by rw [regletref14_Ends.l0, if_neg c]) h1
  | succ d ih =>
    intro p h he
    have hia : p < a.length := by omega
    have hib : p < b.length := by omega
    obtain ⟨c, hc⟩ := line_ev a[p] b[p] (ha.ok _ (List.getElem_mem hia)) (hb.ok _ (List.getElem_mem hib))
    cases c with
    | false =>
      obtain ⟨p', q', h1, h2⟩ := fin p (by omega) he
      refine ⟨p', q', Ev.step (fun k => by rw [regletref14_Ends.l0, if_pos (by omega), if_pos (by omega), if_pos (by omega), g25 hia, g25 hib]) ?_, h2⟩
      exact Ev.bind hc h1
    | true =>
      obtain ⟨p', q', h1, h2⟩ := ih (p + 1) (by omega) ⟨by omega, by omega, fun j j1 j2 j3 => by
        rcases Nat.lt_or_ge j p with g | g
        · exact he.2.2.1 j j1 j2 g
        · have : j = p := by omega
          subst this; exact hc, fun j j1 => by omega⟩
      refine ⟨p', q', Ev.step (fun k => by rw [regletref14_Ends.l0, if_pos (by omega), if_pos (by omega), if_pos (by omega), g25 hia, g25 hib, upN (by omega)]) ?_, h2⟩
      exact Ev.bind hc h1
theorem ends_ev {a b : List S25} (ha : PgOk a) (hb : PgOk b) : ∃ p q : Nat, Ev (fun k => regletref14_Ends.f k a b) ((p : Int), (q : Int)) ∧ En a b p q := by
  unfold regletref14_Ends.f
  exact ends_l0 ha hb (min a.length b.length) 0 (by omega) ⟨by omega, by omega, fun j _ _ h => by omega, fun j h => by omega⟩

/-! ### What changed -/
/-- A page's lines are there, or in a region. -/
def Cov (a b : List S25) (n : Nat) (R : List S113) : Prop := ∀ x ∈ b, (∃ y ∈ a, Ln y x true) ∨ ∃ r ∈ R, r.f0 = (n : Int) ∧ x ∈ r.f4
theorem Cov.app {a b : List S25} {n : Nat} {R Q : List S113} (h : Cov a b n R) : Cov a b n (R ++ Q) := fun x hx => (h x hx).imp id (fun ⟨r, h1, h2⟩ => ⟨r, List.mem_append_left _ h1, h2⟩)
structure LayOk (l : List S66) : Prop where
  n : l.length ≤ 20
  pg : ∀ p ∈ l, PgOk p.f0
/-- Regions that Damage may be asked about. -/
def RgOk (r : S113) : Prop := r.f4.length ≤ 40 ∧ ∀ x ∈ r.f4, Nice x
theorem diff_l2 {a : List S66} (ha : LayOk a) : ∀ (t : List S66) (i : Nat) (R : List S113), a.drop i = t → R.length + t.length ≤ 100 → ∃ R', Ev (fun k => regletref14_Diff.l2 k a R (i : Int)) (R ++ R') ∧ (R ++ R').length ≤ 100 ∧ ∀ r ∈ R', RgOk r
  | [], i, R, h, hR => by
    have := dropN h
    have := ha.n
    exact ⟨[], Ev.step (fun k => by rw [regletref14_Diff.l2, if_neg (by omega)]; simp) (Ev.now _), by simpa using hR, by simp⟩
  | y :: t, i, R, h, hR => by
    obtain ⟨h1, h2, h3⟩ := d66 h
    have := ha.n
    rw [List.length_cons] at hR
    obtain ⟨R', g1, g2, g3⟩ := diff_l2 ha t (i + 1) (R ++ [(⟨(i : Int), 3, 0, ((y.f0).length : Int), ([] : List S25)⟩ : S113)]) h3 (by rw [List.length_append, List.length_singleton]; omega)
    rw [List.append_assoc] at g1 g2
    refine ⟨_, Ev.step (fun k => by rw [regletref14_Diff.l2, if_pos (by omega), if_pos (by omega), h2, if_pos (by omega), upN (by omega)]) g1, g2, ?_⟩
    intro r h
    rcases List.mem_append.1 h with h | h
    · rw [List.mem_singleton] at h; subst h; exact ⟨by simp, by simp⟩
    · exact g3 r h
theorem diff_l1 {a b : List S66} (ha : LayOk a) (hb : LayOk b) : ∀ (t : List S66) (i : Nat) (R : List S113), b.drop i = t → R.length + t.length ≤ 60 → ∃ R', Ev (fun k => regletref14_Diff.l1 k a b R (i : Int)) (R ++ R') ∧ (R ++ R').length ≤ 100 ∧ ∀ r ∈ R', RgOk r
  | [], i, R, h, hR => by
    have := dropN h
    have hna := ha.n
    have hnb := hb.n
    obtain ⟨R', g1, g2, g3⟩ := diff_l2 ha (a.drop b.length) b.length R rfl (by rw [List.length_drop]; simp at hR; omega)
    exact ⟨R', Ev.step (fun k => by rw [regletref14_Diff.l1, if_neg (by omega)]) g1, g2, g3⟩
  | y :: t, i, R, h, hR => by
    obtain ⟨h1, h2, h3⟩ := d66 h
    have := hb.n
    rw [List.length_cons] at hR
    have hy : y ∈ b := List.mem_of_mem_drop (by rw [h]; exact List.mem_cons_self)
    obtain ⟨R', g1, g2, g3⟩ := diff_l1 ha hb t (i + 1) (R ++ [(⟨(i : Int), 2, 0, 0, y.f0⟩ : S113)]) h3 (by rw [List.length_append, List.length_singleton]; omega)
    rw [List.append_assoc] at g1 g2
    refine ⟨_, Ev.step (fun k => by rw [regletref14_Diff.l1, if_pos (by omega), if_pos (by omega), h2, if_pos (by omega), upN (by omega)]) g1, g2, ?_⟩
    intro r h
    rcases List.mem_append.1 h with h | h
    · rw [List.mem_singleton] at h; subst h; exact ⟨(hb.pg y hy).n, (hb.pg y hy).nice⟩
    · exact g3 r h
/-- The pages from one on are covered. -/
def Covs (a b : List S66) (i : Nat) (R : List S113) : Prop := ∀ n (h1 : n < a.length) (h2 : n < b.length), i ≤ n → Cov a[n].f0 b[n].f0 n R
theorem diff_l0 {a b : List S66} (ha : LayOk a) (hb : LayOk b) : ∀ (d i : Nat) (R : List S113), i + d = a.length → R.length ≤ i → ∃ R', Ev (fun k => regletref14_Diff.l0 k a b R (i : Int)) (R ++ R') ∧ (R ++ R').length ≤ 100 ∧ (∀ r ∈ R', RgOk r) ∧ Covs a b i (R ++ R') := by
  have hna := ha.n
  have hnb := hb.n
  have fin : ∀ (i : Nat) (R : List S113), (a.length ≤ i ∨ b.length ≤ i) → R.length ≤ 20 → ∃ R', Ev (fun k => regletref14_Diff.j1 k a b R (i : Int) false) (R ++ R') ∧ (R ++ R').length ≤ 100 ∧ (∀ r ∈ R', RgOk r) ∧ Covs a b i (R ++ R') := fun i R hi hR => by
    obtain ⟨R', g1, g2, g3⟩ := diff_l1 ha hb (b.drop a.length) a.length R rfl (by rw [List.length_drop]; omega)
    exact ⟨R', Ev.step (fun k => by rw [regletref14_Diff.j1, if_neg (by simp)]) g1, g2, g3, fun n h1 h2 h3 => by omega⟩
  intro d
  induction d with
  | zero =>
    intro i R h hR
    obtain ⟨R', g1, g2⟩ := fin i R (.inl (by omega)) (by omega)
    exact ⟨R', Ev.step (fun k => by rw [regletref14_Diff.l0, if_neg (by omega)]) g1, g2⟩
  | succ d ih =>
    intro i R h hR
    have hia : i < a.length := by omega
    by_cases c : i < b.length
    case neg =>
      obtain ⟨R', g1, g2⟩ := fin i R (.inr (by omega)) (by omega)
      exact ⟨R', Ev.step (fun k => by rw [regletref14_Diff.l0, if_pos (by omega), show decide ((i : Int) < (b.length : Int)) = false from decide_eq_false (by omega)]) g1, g2⟩
    have pa := ha.pg _ (List.getElem_mem hia)
    have pb := hb.pg _ (List.getElem_mem c)
    have h0 : ∀ k, regletref14_Diff.l0 (k + 1) a b R (i : Int) = regletref14_Diff.j1 k a b R (i : Int) true := fun k => by rw [regletref14_Diff.l0, if_pos (by omega), show decide ((i : Int) < (b.length : Int)) = true from decide_eq_true (by omega)]
    obtain ⟨q, hq, hq2⟩ := page_ev pa pb
    cases q with
    | true =>
      obtain ⟨R', g1, g2, g3, g4⟩ := ih (i + 1) R (by omega) (by omega)
      refine ⟨R', Ev.step h0 (Ev.step (fun k => by rw [regletref14_Diff.j1, if_pos rfl, if_pos (by omega), if_pos (by omega), if_pos (by omega), g66 hia, g66 c, upN (by omega)]) (Ev.bind hq (Ev.congr (fun k => if_pos rfl) g1))), g2, g3, fun n h1 h2 h3 => ?_⟩
      rcases Nat.lt_or_ge i n with g | g
      · exact g4 n h1 h2 g
      · have : n = i := by omega
        subst this
        exact fun x hx => .inl (hq2 rfl x hx)
    | false =>
      obtain ⟨p, q, he, e1, e2, e3, e4⟩ := ends_ev pa pb
      have n1 := pa.n
      have n2 := pb.n
      have w1 : wrap64 ((b[i].f0.length : Int) - (q : Int)) = ((b[i].f0.length - q : Nat) : Int) := by rw [w64 (by omega) (by omega)]; omega
      obtain ⟨R', g1, g2, g3, g4⟩ := ih (i + 1) (R ++ [(⟨(i : Int), 1, (p : Int), wrap64 ((wrap64 (((a[i].f0).length : Int) - (p : Int))) - (q : Int)), (((b[i].f0).take (b[i].f0.length - q)).drop p)⟩ : S113)]) (by omega) (by rw [List.length_append, List.length_singleton]; omega)
      rw [List.append_assoc] at g1 g2 g4
      refine ⟨_, ?_, g2, ?_, fun n h1 h2 h3 => ?_⟩
      · refine Ev.step h0 ?_
        refine Ev.step (fun k => by rw [regletref14_Diff.j1, if_pos rfl, if_pos (by omega), if_pos (by omega), if_pos (by omega), g66 hia, g66 c, upN (by omega)]) ?_
        refine Ev.bind hq ?_
        refine Ev.congr (fun k => if_neg (by decide)) ?_
        refine Ev.bind he ?_
        refine Ev.congr (fun k => ?_) g1
        show (if 0 ≤ (p : Int) then _ else _) = _
        rw [if_pos (by omega), w1, if_pos (by omega), if_pos (by omega), if_pos (by omega), Int.toNat_natCast, Int.toNat_natCast]
      · intro r h
        rcases List.mem_append.1 h with h | h
        · rw [List.mem_singleton] at h; subst h
          refine ⟨?_, fun x hx => pb.nice x (List.mem_of_mem_take (List.mem_of_mem_drop hx))⟩
          show (((b[i].f0).take (b[i].f0.length - q)).drop p).length ≤ 40
          rw [List.length_drop, List.length_take]; omega
        · exact g3 r h
      · rcases Nat.lt_or_ge i n with g | g
        · exact g4 n h1 h2 g
        · have : n = i := by omega
          subst this
          intro x hx
          obtain ⟨j, hj, rfl⟩ := List.mem_iff_getElem.1 hx
          by_cases d1 : j < p
          · exact .inl ⟨a[n].f0[j]'(by omega), List.getElem_mem _, e3 j (by omega) hj d1⟩
          by_cases d2 : b[n].f0.length - q ≤ j
          · refine .inl ⟨a[n].f0[a[n].f0.length - 1 - (b[n].f0.length - 1 - j)]'(by omega), List.getElem_mem _, ?_⟩
            have := e4 (b[n].f0.length - 1 - j) (by omega) (by omega) (by omega)
            have ej : b[n].f0.length - 1 - (b[n].f0.length - 1 - j) = j := by omega
            simpa only [ej] using this
          · refine .inr ⟨_, List.mem_append_right _ (List.mem_append_left _ (List.mem_singleton_self _)), rfl, ?_⟩
            show b[n].f0[j] ∈ ((b[n].f0).take (b[n].f0.length - q)).drop p
            refine List.mem_iff_getElem.2 ⟨j - p, by rw [List.length_drop, List.length_take]; omega, ?_⟩
            rw [List.getElem_drop, List.getElem_take]
            congr 1; omega
theorem diff_ev {a b : List S66} (ha : LayOk a) (hb : LayOk b) : ∃ R, Ev (fun k => regletref14_Diff.f k a b 0) R ∧ R.length ≤ 100 ∧ (∀ r ∈ R, RgOk r) ∧ Covs a b 0 R := by
  unfold regletref14_Diff.f
  obtain ⟨R, h1, h2, h3, h4⟩ := diff_l0 ha hb a.length 0 [] (by omega) (by simp)
  exact ⟨R, h1, h2, h3, h4⟩

/-! ### Damage -/
theorem add_n {x : S25} (h : Nice x) : scaled_Add.f x.f6 x.f4 = some (x.f6 + x.f4) := by
  obtain ⟨h1, h2, h3, h4⟩ := h
  have e : ∀ z : Int, -1152921504606846976 ≤ z → z ≤ 1152921504606846976 → scaled_Clamp.f z = some z := fun z a b => by
    unfold scaled_Clamp.f mx mn; congr 1; omega
  unfold scaled_Add.f
  rw [e x.f6 (by omega) (by omega), Option.bind_some, e x.f4 (by omega) (by omega), Option.bind_some, w64 (by omega) (by omega), e _ (by omega) (by omega), Option.bind_some]
theorem reach_l0 {L : List S25} (hn : L.length ≤ 40) (hL : ∀ x ∈ L, Nice x) : ∀ (t : List S25) (i : Nat) (p q : Int), L.drop i = t → ∃ p' q', Ev (fun k => paint_reach.l0 k p q L (L.length : Int) (i : Int)) (p', q', true) ∧ p' ≤ p ∧ q ≤ q' ∧ ∀ x ∈ t, p' ≤ x.f6 ∧ x.f6 + x.f4 ≤ q'
  | [], i, p, q, h => by
    have := dropN h
    exact ⟨p, q, Ev.step (fun k => by rw [paint_reach.l0, if_neg (by omega)]) (Ev.now _), Int.le_refl _, Int.le_refl _, by simp⟩
  | y :: t, i, p, q, h => by
    obtain ⟨h1, h2, h3⟩ := d25 h
    have hy : y ∈ L := List.mem_of_mem_drop (by rw [h]; exact List.mem_cons_self)
    obtain ⟨p', q', g1, g2, g3, g4⟩ := reach_l0 hn hL t (i + 1) (mn p y.f6) (mx q (y.f6 + y.f4)) h3
    have e1 : mn p y.f6 ≤ p ∧ mn p y.f6 ≤ y.f6 := by unfold mn; omega
    have e2 : q ≤ mx q (y.f6 + y.f4) ∧ y.f6 + y.f4 ≤ mx q (y.f6 + y.f4) := by unfold mx; omega
    refine ⟨p', q', Ev.step (fun k => by rw [paint_reach.l0, if_pos (by omega), if_pos (by omega), if_pos (by omega), h2, add_n (hL y hy), Option.bind_some, upN (by omega)]) g1, by omega, by omega, fun x hx => ?_⟩
    rcases List.mem_cons.1 hx with e | e
    · subst e; omega
    · exact g4 x e
theorem reach_ev {L : List S25} (hn : L.length ≤ 40) (hL : ∀ x ∈ L, Nice x) : ∃ p q s, Ev (fun k => paint_reach.f k L) (p, q, s) ∧ (s = true ∨ L = []) ∧ ∀ x ∈ L, s = true ∧ p ≤ x.f6 ∧ x.f6 + x.f4 ≤ q := by
  unfold paint_reach.f
  by_cases c : L = []
  · subst c
    exact ⟨0, 0, false, Ev.congr (fun k => if_pos (by simp)) (Ev.now _), .inr rfl, by simp⟩
  · have : L.length ≠ 0 := fun e => c (List.length_eq_zero_iff.1 e)
    obtain ⟨p, q, h1, _, _, h2⟩ := reach_l0 hn hL L 0 1152921504606846976 (-1152921504606846976) rfl
    exact ⟨p, q, true, Ev.congr (fun k => if_neg (by omega)) h1, .inl rfl, fun x hx => ⟨rfl, h2 x hx⟩⟩
/-- A region's lines are in a band. -/
def Bnd (r : S113) (D : List S90) : Prop := ∀ x ∈ r.f4, 1 ≤ x.f4 → ∃ d ∈ D, d.f0 = r.f0 ∧ d.f1 ≤ x.f6 ∧ x.f6 + x.f4 ≤ d.f2
theorem damage_l0 {a : List S66} (ha : LayOk a) {R : List S113} (hR : R.length ≤ 100) (hr : ∀ r ∈ R, RgOk r) : ∀ (t : List S113) (i : Nat) (D : List S90), R.drop i = t → D.length ≤ i → i ≤ R.length → ∃ D', Ev (fun k => paint_Damage.l0 k a D R (R.length : Int) (i : Int)) (D ++ D') ∧ (D ++ D').length ≤ 100 ∧ ∀ r ∈ t, Bnd r (D ++ D')
  | [], i, D, h, hD, hi => by
    have := dropN h
    exact ⟨[], Ev.step (fun k => by rw [paint_Damage.l0, if_neg (by omega)]; simp) (Ev.now _), by simp; omega, by simp⟩
  | r :: t, i, D, h, hD, hi => by
    obtain ⟨h1, h2, h3⟩ := d113 h
    have hna := ha.n
    have hrr := hr r (List.mem_of_mem_drop (by rw [h]; exact List.mem_cons_self))
    have ih := fun D' hD' => damage_l0 ha hR hr t (i + 1) D' h3 hD' (by omega)
    have D0 : D.length < 5864062014805 := by omega
    -- behind what was there
    have key : ∀ W : List S25, W.length ≤ 40 → (∀ x ∈ W, Nice x) → ∃ D', Ev (fun k => paint_Damage.j2 k a D W R (R.length : Int) (i : Int) r.f0 r.f1 r.f2 r.f3 r.f4) (D ++ D') ∧ (D ++ D').length ≤ 100 ∧ ∀ q ∈ r :: t, Bnd q (D ++ D') := by
      intro W hW hWn
      obtain ⟨p1, q1, s1, a1, a2, a3⟩ := reach_ev hW hWn
      obtain ⟨p2, q2, s2, b1, b2, b3⟩ := reach_ev hrr.1 hrr.2
      have push : ∀ p q : Int, (∀ x ∈ r.f4, p ≤ x.f6 ∧ x.f6 + x.f4 ≤ q) → ∃ D', Ev (fun k => if p < q then (if D.length < 5864062014805 then paint_Damage.l0 k a (D ++ [(⟨r.f0, p, q⟩ : S90)]) R (R.length : Int) (wrap64 ((i : Int) + 1)) else none) else paint_Damage.l0 k a D R (R.length : Int) (wrap64 ((i : Int) + 1))) (D ++ D') ∧ (D ++ D').length ≤ 100 ∧ ∀ q ∈ r :: t, Bnd q (D ++ D') := by
        intro p q hpq
        rw [upN (by omega)]
        by_cases c : p < q
        · obtain ⟨D', g1, g2, g3⟩ := ih (D ++ [(⟨r.f0, p, q⟩ : S90)]) (by rw [List.length_append, List.length_singleton]; omega)
          rw [List.append_assoc] at g1 g2 g3
          refine ⟨_, Ev.congr (fun k => by rw [if_pos c, if_pos D0]) g1, g2, fun y hy => ?_⟩
          rcases List.mem_cons.1 hy with e | e
          · subst e
            exact fun x hx _ => ⟨_, List.mem_append_right _ (List.mem_append_left _ (List.mem_singleton_self _)), rfl, hpq x hx⟩
          · exact g3 y e
        · obtain ⟨D', g1, g2, g3⟩ := ih D (by omega)
          refine ⟨D', Ev.congr (fun k => by rw [if_neg c]) g1, g2, fun y hy => ?_⟩
          rcases List.mem_cons.1 hy with e | e
          · subst e
            exact fun x hx hx1 => by have := hpq x hx; omega
          · exact g3 y e
      have m1 : ∀ u v : Int, mn u v ≤ u ∧ mn u v ≤ v := fun u v => by unfold mn; omega
      have m2 : ∀ u v : Int, u ≤ mx u v ∧ v ≤ mx u v := fun u v => by unfold mx; omega
      cases s2 with
      | true =>
        cases s1 with
        | true =>
          obtain ⟨D', g1, g2⟩ := push (mn p1 p2) (mx q1 q2) (fun x hx => by have := b3 x hx; have := m1 p1 p2; have := m2 q1 q2; omega)
          refine ⟨D', Ev.step (fun k => by rw [paint_Damage.j2]) ?_, g2⟩
          refine Ev.bind a1 ?_
          refine Ev.bind b1 ?_
          exact Ev.congr (fun k => by rw [if_pos rfl, if_pos rfl]) g1
        | false =>
          obtain ⟨D', g1, g2⟩ := push (mn p2 p2) (mx q2 q2) (fun x hx => by have := b3 x hx; have := m1 p2 p2; have := m2 q2 q2; omega)
          refine ⟨D', Ev.step (fun k => by rw [paint_Damage.j2]) ?_, g2⟩
          refine Ev.bind a1 ?_
          refine Ev.bind b1 ?_
          exact Ev.congr (fun k => by rw [if_pos rfl, if_neg (by simp)]) g1
      | false =>
        have hf4 : ∀ x ∈ r.f4, False := fun x hx => by have := (b3 x hx).1; cases this
        cases s1 with
        | true =>
          obtain ⟨D', g1, g2⟩ := push p1 q1 (fun x hx => (hf4 x hx).elim)
          refine ⟨D', Ev.step (fun k => by rw [paint_Damage.j2]) ?_, g2⟩
          refine Ev.bind a1 ?_
          refine Ev.bind b1 ?_
          exact Ev.congr (fun k => by rw [if_neg (by simp), if_pos rfl]) g1
        | false =>
          obtain ⟨D', g1, g2, g3⟩ := ih D (by omega)
          refine ⟨D', ?_, g2, fun y hy => ?_⟩
          · refine Ev.step (fun k => by rw [paint_Damage.j2]) ?_
            refine Ev.bind a1 ?_
            refine Ev.bind b1 ?_
            exact Ev.congr (fun k => by rw [if_neg (by simp), if_neg (by simp), upN (by omega)]) g1
          rcases List.mem_cons.1 hy with e | e
          · subst e; exact fun x hx => (hf4 x hx).elim
          · exact g3 y e
    have none_ : ∃ D', Ev (fun k => paint_Damage.j1 k a D ([] : List S25) R (R.length : Int) (i : Int) false r.f0 r.f1 r.f2 r.f3 r.f4) (D ++ D') ∧ (D ++ D').length ≤ 100 ∧ ∀ q ∈ r :: t, Bnd q (D ++ D') := by
      obtain ⟨D', g1, g2⟩ := key [] (by simp) (by simp)
      exact ⟨D', Ev.step (fun k => by rw [paint_Damage.j1, if_neg (by simp)]) g1, g2⟩
    have hs : ∀ {g : Nat → Option (List S90)}, (∀ k, paint_Damage.l0 (k + 1) a D R (R.length : Int) (i : Int) = g k) → (∃ D', Ev g (D ++ D') ∧ (D ++ D').length ≤ 100 ∧ ∀ q ∈ r :: t, Bnd q (D ++ D')) → ∃ D', Ev (fun k => paint_Damage.l0 k a D R (R.length : Int) (i : Int)) (D ++ D') ∧ (D ++ D').length ≤ 100 ∧ ∀ q ∈ r :: t, Bnd q (D ++ D') := fun hk ⟨D', g1, g2⟩ => ⟨D', Ev.step hk g1, g2⟩
    by_cases c1 : r.f0 ≥ 0
    case neg => exact hs (fun k => by rw [paint_Damage.l0, if_pos (by omega), if_pos (by omega), if_pos (by omega), h2, if_neg c1]) none_
    by_cases c2 : r.f0 < (a.length : Int)
    case neg => exact hs (fun k => by rw [paint_Damage.l0, if_pos (by omega), if_pos (by omega), if_pos (by omega), h2, if_pos c1, if_neg c2]) none_
    by_cases c3 : r.f2 ≥ 0
    case neg => exact hs (fun k => by rw [paint_Damage.l0, if_pos (by omega), if_pos (by omega), if_pos (by omega), h2, if_pos c1, if_pos c2, if_neg c3]) none_
    by_cases c4 : r.f3 ≥ 0
    case neg => exact hs (fun k => by rw [paint_Damage.l0, if_pos (by omega), if_pos (by omega), if_pos (by omega), h2, if_pos c1, if_pos c2, if_pos c3, if_neg c4]) none_
    obtain ⟨n, hn⟩ : ∃ n : Nat, r.f0 = (n : Int) := ⟨r.f0.toNat, by omega⟩
    have hnl : n < a.length := by omega
    have pa := ha.pg _ (List.getElem_mem hnl)
    have n1 := pa.n
    have g0 : rd_T66 a r.f0 = a[n] := by rw [hn]; exact g66 hnl
    by_cases c5 : r.f2 ≤ (a[n].f0.length : Int)
    case neg => exact hs (fun k => by rw [paint_Damage.l0, if_pos (by omega), if_pos (by omega), if_pos (by omega), h2, if_pos c1, if_pos c2, if_pos c3, if_pos c4, if_pos (by omega), g0, if_neg c5]) none_
    have w1 : wrap64 ((a[n].f0.length : Int) - r.f2) = (a[n].f0.length : Int) - r.f2 := w64 (by omega) (by omega)
    by_cases c6 : r.f3 ≤ (a[n].f0.length : Int) - r.f2
    case neg => exact hs (fun k => by rw [paint_Damage.l0, if_pos (by omega), if_pos (by omega), if_pos (by omega), h2, if_pos c1, if_pos c2, if_pos c3, if_pos c4, if_pos (by omega), g0, if_pos c5, w1, decide_eq_false c6]) none_
    refine hs (fun k => by rw [paint_Damage.l0, if_pos (by omega), if_pos (by omega), if_pos (by omega), h2, if_pos c1, if_pos c2, if_pos c3, if_pos c4, if_pos (by omega), g0, if_pos c5, w1, decide_eq_true c6]) ?_
    have w2 : wrap64 (r.f2 + r.f3) = r.f2 + r.f3 := w64 (by omega) (by omega)
    obtain ⟨D', g1, g2⟩ := key (((a[n].f0).take (r.f2 + r.f3).toNat).drop r.f2.toNat) (by rw [List.length_drop, List.length_take]; omega) (fun x hx => pa.nice x (List.mem_of_mem_take (List.mem_of_mem_drop hx)))
    exact ⟨D', Ev.step (fun k => by rw [paint_Damage.j1, if_pos rfl, if_pos (by omega), if_pos (by omega), if_pos (by omega), w2, if_pos (by omega), g0, if_pos (by omega)]) g1, g2⟩
theorem damage_ev {a : List S66} (ha : LayOk a) {R : List S113} (hR : R.length ≤ 100) (hr : ∀ r ∈ R, RgOk r) : ∃ D, Ev (fun k => paint_Damage.f k a R) D ∧ D.length ≤ 100 ∧ ∀ r ∈ R, Bnd r D := by
  unfold paint_Damage.f
  obtain ⟨D, h1, h2, h3⟩ := damage_l0 ha hR hr R 0 [] rfl (by simp) (by omega)
  exact ⟨D, h1, h2, h3⟩
def tb_ (d : S90) : S56 := ⟨d.f0, d.f1, d.f2⟩
theorem bands_l0 {l : List S90} (hl : l.length ≤ 100) : ∀ (t : List S90) (i : Nat) (acc : List S56), l.drop i = t → acc.length = i → Ev (fun k => regletlaw21_bands.l0 k l acc (i : Int)) (acc ++ t.map tb_)
  | [], i, acc, h, ha => by
    have := dropN h
    exact Ev.step (fun k => by rw [regletlaw21_bands.l0, if_neg (by omega)]; simp) (Ev.now _)
  | m :: t, i, acc, h, ha => by
    obtain ⟨g1, g2, g3⟩ := d90 h
    have ih := bands_l0 hl t (i + 1) (acc ++ [tb_ m]) g3 (by simp [ha])
    rw [List.append_assoc] at ih
    refine Ev.step (fun k => ?_) ih
    rw [regletlaw21_bands.l0, if_pos (by omega), if_pos (by omega), if_pos (by omega), g2, upN (by omega)]
    rfl
theorem touched_l0 {L : List S56} (hL : L.length ≤ 100) (p : Nat) {x : S25} (hx : Nice x) : ∀ (t : List S56) (i : Nat), L.drop i = t → ∃ b, Ev (fun k => regletlaw21_touched.l0 k L (p : Int) (i : Int) x.f0 x.f1 x.f2 x.f3 x.f4 x.f5 x.f6 x.f7 x.f8) b ∧ (b = false → ∀ d ∈ t, d.f0 = (p : Int) → d.f1 < x.f6 + x.f4 → x.f6 < d.f2 → False)
  | [], i, h => by
    have := dropN h
    exact ⟨false, Ev.step (fun k => by rw [regletlaw21_touched.l0, if_neg (by omega)]) (Ev.now _), by simp⟩
  | d :: t, i, h => by
    obtain ⟨h1, h2, h3⟩ := d56 h
    obtain ⟨b, g1, g2⟩ := touched_l0 hL p hx t (i + 1) h3
    obtain ⟨x1, x2, x3, x4⟩ := hx
    have w1 : wrap64 (x.f6 + x.f4) = x.f6 + x.f4 := w64 (by omega) (by omega)
    by_cases c1 : d.f0 = (p : Int)
    case neg =>
      refine ⟨b, Ev.step (fun k => by rw [regletlaw21_touched.l0, if_pos (by omega), if_pos (by omega), h2, if_neg c1, upN (by omega)]) g1, fun e y hy => ?_⟩
      rcases List.mem_cons.1 hy with e2 | e2
      · subst e2; exact fun e => absurd e c1
      · exact g2 e y e2
    by_cases c2 : d.f1 < x.f6 + x.f4
    case neg =>
      refine ⟨b, Ev.step (fun k => by rw [regletlaw21_touched.l0, if_pos (by omega), if_pos (by omega), h2, if_pos c1, w1, if_neg c2, upN (by omega)]) g1, fun e y hy => ?_⟩
      rcases List.mem_cons.1 hy with e2 | e2
      · subst e2; exact fun _ e => absurd e c2
      · exact g2 e y e2
    by_cases c3 : x.f6 < d.f2
    case neg =>
      refine ⟨b, Ev.step (fun k => by rw [regletlaw21_touched.l0, if_pos (by omega), if_pos (by omega), h2, if_pos c1, w1, if_pos c2, if_neg c3, upN (by omega)]) g1, fun e y hy => ?_⟩
      rcases List.mem_cons.1 hy with e2 | e2
      · subst e2; exact fun _ _ e => absurd e c3
      · exact g2 e y e2
    exact ⟨true, Ev.step (fun k => by rw [regletlaw21_touched.l0, if_pos (by omega), if_pos (by omega), h2, if_pos c1, w1, if_pos c2, if_pos c3]) (Ev.now true), fun e => by cases e⟩
theorem heights_l0 {l : List S25} (hl : l.length ≤ 40) : ∀ (t : List S25) (i : Nat), l.drop i = t → ∃ b, Ev (fun k => regletlaw21_heights.l0 k l (i : Int)) b ∧ (b = true → ∀ x ∈ t, Nice x)
  | [], i, h => by
    have := dropN h
    exact ⟨true, Ev.step (fun k => by rw [regletlaw21_heights.l0, if_neg (by omega)]) (Ev.now _), by simp⟩
  | x :: t, i, h => by
    obtain ⟨h1, h2, h3⟩ := d25 h
    obtain ⟨b, g1, g2⟩ := heights_l0 hl t (i + 1) h3
    by_cases c1 : x.f6 < (-1125899906842624)
    · exact ⟨false, Ev.step (fun k => by rw [regletlaw21_heights.l0, if_pos (by omega), if_pos (by omega), h2, if_pos c1]) (Ev.now _), fun e => by cases e⟩
    by_cases c2 : x.f6 > 1125899906842624
    · exact ⟨false, Ev.step (fun k => by rw [regletlaw21_heights.l0, if_pos (by omega), if_pos (by omega), h2, if_neg c1, if_pos c2]) (Ev.now _), fun e => by cases e⟩
    by_cases c3 : x.f4 < (-1125899906842624)
    · exact ⟨false, Ev.step (fun k => by rw [regletlaw21_heights.l0, if_pos (by omega), if_pos (by omega), h2, if_neg c1, if_neg c2, if_pos c3]) (Ev.now _), fun e => by cases e⟩
    by_cases c4 : x.f4 > 1125899906842624
    · exact ⟨false, Ev.step (fun k => by rw [regletlaw21_heights.l0, if_pos (by omega), if_pos (by omega), h2, if_neg c1, if_neg c2, if_neg c3, if_pos c4]) (Ev.now _), fun e => by cases e⟩
    refine ⟨b, Ev.step (fun k => by rw [regletlaw21_heights.l0, if_pos (by omega), if_pos (by omega), h2, if_neg c1, if_neg c2, if_neg c3, if_neg c4, upN (by omega)]) g1, fun e y hy => ?_⟩
    rcases List.mem_cons.1 hy with e2 | e2
    · subst e2; exact ⟨by omega, by omega, by omega, by omega⟩
    · exact g2 e y e2
theorem few_l0 {l : List S66} (hl : l.length ≤ 20) (hok : ∀ p ∈ l, ∀ x ∈ p.f0, Ok x) : ∀ (t : List S66) (i : Nat), l.drop i = t → ∃ b, Ev (fun k => regletlaw21_few.l0 k l ([] : List S113) (i : Int)) b ∧ (b = true → ∀ p ∈ t, PgOk p.f0)
  | [], i, h => by
    have := dropN h
    exact ⟨true, Ev.step (fun k => by rw [regletlaw21_few.l0, if_neg (by omega)]) (Ev.step (fun k => by rw [regletlaw21_few.l1, if_neg (by simp)]) (Ev.now _)), by simp⟩
  | p :: t, i, h => by
    obtain ⟨h1, h2, h3⟩ := d66 h
    have hp : p ∈ l := List.mem_of_mem_drop (by rw [h]; exact List.mem_cons_self)
    obtain ⟨b, g1, g2⟩ := few_l0 hl hok t (i + 1) h3
    by_cases c1 : (p.f0.length : Int) > 40
    · exact ⟨false, Ev.step (fun k => by rw [regletlaw21_few.l0, if_pos (by omega), if_pos (by omega), h2, if_pos c1]) (Ev.now _), fun e => by cases e⟩
    obtain ⟨q, e1, e2⟩ := heights_l0 (l := p.f0) (by omega) p.f0 0 rfl
    cases q with
    | false =>
      refine ⟨false, Ev.step (fun k => by rw [regletlaw21_few.l0, if_pos (by omega), if_pos (by omega), h2, if_neg c1]) ?_, fun e => by cases e⟩
      exact Ev.bind e1 (Ev.now false)
    | true =>
      refine ⟨b, ?_, fun e y hy => ?_⟩
      · refine Ev.step (fun k => by rw [regletlaw21_few.l0, if_pos (by omega), if_pos (by omega), h2, if_neg c1, upN (by omega)]) ?_
        exact Ev.bind e1 g1
      rcases List.mem_cons.1 hy with e3 | e3
      · subst e3; exact ⟨by omega, hok _ hp, e2 rfl⟩
      · exact g2 e y e3
theorem few_ev {l : List S66} (hok : ∀ p ∈ l, ∀ x ∈ p.f0, Ok x) : ∃ b, Ev (fun k => regletlaw21_few.f k l ([] : List S113)) b ∧ (b = true → LayOk l) := by
  unfold regletlaw21_few.f
  by_cases c : (l.length : Int) > 20
  · exact ⟨false, Ev.congr (fun k => if_pos c) (Ev.step (fun k => by rw [regletlaw21_few.j0, if_pos rfl]) (Ev.now _)), fun e => by cases e⟩
  · obtain ⟨b, h1, h2⟩ := few_l0 (by omega) hok l 0 rfl
    exact ⟨b, Ev.congr (fun k => if_neg c) (Ev.step (fun k => by rw [regletlaw21_few.j0, if_neg (by simp)]; rfl) h1), fun e => ⟨by omega, h2 e⟩⟩
end Go.Proofs.Ytblmcdpfhdamjaa.PPaintEnough
