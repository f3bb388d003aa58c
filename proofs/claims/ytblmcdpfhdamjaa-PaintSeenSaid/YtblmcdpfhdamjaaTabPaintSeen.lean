import Derived.Test.YtblmcdpfhdamjaaStyPaintSeen
/-! Our own text: a table of styles is told only of styles that are right. -/
namespace Go.Proofs.Ytblmcdpfhdamjaa.PPaintSeen
set_option linter.unusedVariables false
open Go.RowKit Go.Proofs.YtblmcdpfhdamjaaW.PrintWords

def Evp {α : Type} (g : Nat → Option α) (P : α → Prop) : Prop := ∃ v, Ev g v ∧ P v
theorem Evp.ite {α : Type} {c : Prop} [Decidable c] {A B : Nat → Option α} {P : α → Prop} (h1 : c → Evp A P) (h2 : ¬ c → Evp B P) : Evp (fun k => if c then A k else B k) P := by
  by_cases h : c
  · obtain ⟨v, a, b⟩ := h1 h
    exact ⟨v, Ev.congr (fun k => by rw [if_pos h]) a, b⟩
  · obtain ⟨v, a, b⟩ := h2 h
    exact ⟨v, Ev.congr (fun k => by rw [if_neg h]) a, b⟩
theorem Evp.step {α : Type} {g f : Nat → Option α} {P : α → Prop} (h : ∀ k, g (k + 1) = f k) (k : Evp f P) : Evp g P := by
  obtain ⟨v, a, b⟩ := k
  exact ⟨v, Ev.step h a, b⟩
theorem Evp.congr {α : Type} {g f : Nat → Option α} {P : α → Prop} (h : ∀ k, g k = f k) (k : Evp f P) : Evp g P := by
  obtain ⟨v, a, b⟩ := k
  exact ⟨v, Ev.congr h a, b⟩
theorem Evp.now {α : Type} {P : α → Prop} {v : α} (h : P v) : Evp (fun _ => some v) P := ⟨v, Ev.now v, h⟩
theorem Evp.bind {α β : Type} {g : Nat → Option α} {f : Nat → α → Option β} {P : β → Prop} {a : α} (h : Ev g a) (k : Evp (fun n => f n a) P) : Evp (fun n => (g n).bind (f n)) P := by
  obtain ⟨v, a, b⟩ := k
  exact ⟨v, Ev.bind h a, b⟩
theorem Evp.of {α : Type} {g : Nat → Option α} {P : α → Prop} {v : α} (h : Ev g v) (hp : P v) : Evp g P := ⟨v, h, hp⟩
/-! ### the reference's check ends -/
theorem fits_f (a b : Int) : ∃ v, regletref04_fits.f a b = some v := by
  unfold regletref04_fits.f
  split <;> exact ⟨_, rfl⟩
theorem st_l1 (a0 a1 a2 a3 a4 a5 : Int) {rs : List S134} (hr : rs.length ≤ 64) (a7 : Bool) : ∀ d i : Nat, i + d = rs.length → Evp (fun k => regletref04_Style.l1 k (i : Int) a0 a1 a2 a3 a4 a5 rs a7) (fun _ => True)
  | 0, i, h => Evp.step (fun k => by rw [regletref04_Style.l1, if_neg (by omega)]) (Evp.now trivial)
  | d + 1, i, h => by
    have ih := st_l1 a0 a1 a2 a3 a4 a5 hr a7 d (i + 1) (by omega)
    have hj : ∀ (b : Bool) (y0 y1 y2 : Int), Evp (fun k => regletref04_Style.j3 k (i : Int) b a0 a1 a2 a3 a4 a5 rs a7 y0 y1 y2) (fun _ => True) := by
      intro b y0 y1 y2
      obtain ⟨v, hv⟩ := fits_f y2 0
      refine Evp.step (fun k => by rw [regletref04_Style.j3, hv, Option.bind_some]) ?_
      refine Evp.ite (fun _ => Evp.now trivial) (fun _ => Evp.ite (fun _ => ?_) (fun _ => Evp.now trivial))
      exact Evp.congr (fun k => by rw [vup (by omega)]) ih
    have wm : 0 < i → wrap64 ((i : Int) - 1) = (i : Int) - 1 := fun _ => v64 (by omega) (by omega)
    refine Evp.step (fun k => by rw [regletref04_Style.l1, if_pos (by omega), if_pos (by omega)]) ?_
    refine Evp.ite (fun c3 => Evp.ite (fun _ => hj _ _ _ _) (fun _ => ?_)) (fun c3 => ?_)
    · exact Evp.ite (fun c4 => absurd c4 (by omega)) (fun c4 => Evp.ite (fun _ => hj _ _ _ _) (fun _ => hj _ _ _ _))
    · refine Evp.ite (fun c4 => ?_) (fun c4 => absurd c4 (by omega))
      refine Evp.ite (fun c5 => ?_) (fun c5 => absurd c5 (by rw [wm (by omega)]; omega))
      refine Evp.ite (fun c6 => ?_) (fun c6 => absurd c6 (by rw [wm (by omega)]; omega))
      exact Evp.ite (fun _ => hj _ _ _ _) (fun _ => Evp.ite (fun _ => hj _ _ _ _) (fun _ => hj _ _ _ _))
theorem st_j1 (a0 a1 a2 a3 a4 a5 : Int) (rs : List S134) (a7 b : Bool) : Evp (fun k => regletref04_Style.j1 k b a0 a1 a2 a3 a4 a5 rs a7) (fun _ => True) := by
  refine Evp.step (fun k => by rw [regletref04_Style.j1]) ?_
  refine Evp.ite (fun _ => Evp.now trivial) (fun _ => Evp.ite (fun _ => Evp.now trivial) (fun c => ?_))
  exact st_l1 a0 a1 a2 a3 a4 a5 (by omega) a7 rs.length 0 (by omega)
theorem st_l0 (l : List Int) (hl : l.length ≤ 1000) (a0 a1 a2 a3 a4 a5 : Int) (rs : List S134) (a7 : Bool) : ∀ d i : Nat, i + d = l.length → Evp (fun k => regletref04_Style.l0 k l (i : Int) a0 a1 a2 a3 a4 a5 rs a7) (fun _ => True)
  | 0, i, h => by
    obtain ⟨v, hv⟩ := fits_f a0 1
    refine Evp.step (fun k => by rw [regletref04_Style.l0, if_neg (by omega), hv, Option.bind_some]) ?_
    exact Evp.ite (fun _ => st_j1 _ _ _ _ _ _ _ _ _) (fun _ => st_j1 _ _ _ _ _ _ _ _ _)
  | d + 1, i, h => by
    have ih := st_l0 l hl a0 a1 a2 a3 a4 a5 rs a7 d (i + 1) (by omega)
    obtain ⟨v, hv⟩ := fits_f (rd l (i : Int)) 0
    refine Evp.step (fun k => by rw [regletref04_Style.l0, if_pos (by omega), if_pos (by omega), hv, Option.bind_some]) ?_
    exact Evp.ite (fun _ => Evp.congr (fun k => by rw [vup (by omega)]) ih) (fun _ => Evp.now trivial)
theorem style_end (a0 a1 a2 a3 a4 a5 : Int) (rs : List S134) (a7 : Bool) : Evp (fun k => regletref04_Style.f k a0 a1 a2 a3 a4 a5 rs a7) (fun _ => True) :=
  st_l0 [a1, a2, a3, a4, a5] (by simp) a0 a1 a2 a3 a4 a5 rs a7 5 0 rfl
theorem ck_l0 {l : List S87} (hl : l.length ≤ 32) : ∀ d i : Nat, i + d = l.length → Evp (fun k => regletref04_Check.l0 k l (i : Int)) (fun _ => True)
  | 0, i, h => Evp.step (fun k => by rw [regletref04_Check.l0, if_neg (by omega)]) (Evp.now trivial)
  | d + 1, i, h => by
    have ih := ck_l0 hl d (i + 1) (by omega)
    refine Evp.step (fun k => by rw [regletref04_Check.l0, if_pos (by omega), if_pos (by omega)]) ?_
    obtain ⟨v, hv, _⟩ := style_end (rd_T87 l (i : Int)).f0 (rd_T87 l (i : Int)).f1 (rd_T87 l (i : Int)).f2 (rd_T87 l (i : Int)).f3 (rd_T87 l (i : Int)).f4 (rd_T87 l (i : Int)).f5 (rd_T87 l (i : Int)).f6 (rd_T87 l (i : Int)).f7
    refine Evp.bind hv ?_
    exact Evp.ite (fun _ => Evp.congr (fun k => by rw [vup (by omega)]) ih) (fun _ => Evp.now trivial)
theorem check_end (l : List S87) : Evp (fun k => regletref04_Check.f k l) (fun _ => True) := by
  have hj : ∀ b : Bool, (b = false → l.length ≤ 32) → Evp (fun k => regletref04_Check.j0 k l b) (fun _ => True) := by
    intro b hb
    refine Evp.step (fun k => by rw [regletref04_Check.j0]) ?_
    exact Evp.ite (fun _ => Evp.now trivial) (fun c => ck_l0 (hb (by simpa using c)) l.length 0 (by omega))
  unfold regletref04_Check.f
  exact Evp.ite (fun _ => hj true (fun h => by cases h)) (fun _ => hj _ (fun h => by have := of_decide_eq_false h; omega))
/-! ### the program's check -/
def un_ (a b : Int) : Bool := decide (b ≤ a ∧ a ≤ 1048576)
theorem unit_f (a b : Int) : metrics_unit.f a b = some (un_ a b) := by
  unfold metrics_unit.f un_
  by_cases h : a ≥ b
  · rw [if_pos h]; congr 1; rw [decide_eq_decide]; exact ⟨fun x => ⟨h, x⟩, fun x => x.2⟩
  · rw [if_neg h]; congr 1; symm; exact decide_eq_false (fun x => h x.1)
def Okr_ : Int → List S134 → Prop
  | _, [] => True
  | a, y :: t => a < y.f0 ∧ y.f0 ≤ y.f1 ∧ (0 ≤ y.f2 ∧ y.f2 ≤ 1048576) ∧ Okr_ y.f1 t
theorem okr_all : ∀ (l : List S134) (a : Int), Okr_ a l → (∀ y ∈ l, a < y.f0 ∧ y.f0 ≤ y.f1 ∧ (0 ≤ y.f2 ∧ y.f2 ≤ 1048576)) ∧ l.Pairwise (fun x y => x.f1 < y.f0)
  | [], a, _ => ⟨(fun y hy => by cases hy), List.Pairwise.nil⟩
  | x :: t, a, ⟨h1, h2, h3, h4⟩ => by
    obtain ⟨p, q⟩ := okr_all t x.f1 h4
    refine ⟨fun y hy => ?_, List.Pairwise.cons (fun y hy => (p y hy).1) q⟩
    rcases List.mem_cons.1 hy with e | e
    · subst e; exact ⟨h1, h2, h3⟩
    · have := p y e
      exact ⟨by omega, this.2⟩
theorem mc_l0 {rs : List S134} (hr : rs.length ≤ 64) : ∀ (t : List S134) (i : Nat) (a : Int), rs.drop i = t → Evp (fun k => metrics_check.l0 k a rs (rs.length : Int) (i : Int)) (fun v => v = 0 → Okr_ a t)
  | [], i, a, h => by
    have : rs.length ≤ i := by
      have := congrArg List.length h
      rw [List.length_drop, List.length_nil] at this
      omega
    exact Evp.step (fun k => by rw [metrics_check.l0, if_neg (by omega)]) (Evp.now (fun _ => trivial))
  | y :: t, i, a, h => by
    have hi : i < rs.length := by
      have := congrArg List.length h
      rw [List.length_drop, List.length_cons] at this
      omega
    have hd : rs.drop i = rs[i] :: rs.drop (i + 1) := List.drop_eq_getElem_cons hi
    rw [hd] at h
    obtain ⟨e1, e2⟩ := List.cons.inj h
    have e : rd_T134 rs (i : Int) = y := by rw [rd110 hi, e1]
    have ih := mc_l0 hr t (i + 1) y.f1 e2
    have hj : ∀ b : Bool, (b = false → a < y.f0 ∧ y.f0 ≤ y.f1) → Evp (fun k => metrics_check.j2 k rs (rs.length : Int) (i : Int) b y.f0 y.f1 y.f2) (fun v => v = 0 → Okr_ a (y :: t)) := by
      intro b hb
      refine Evp.step (fun k => by rw [metrics_check.j2, unit_f, Option.bind_some, vup (by omega)]) ?_
      refine Evp.ite (fun _ => Evp.now (fun h => absurd h (by decide))) (fun c => Evp.ite (fun c2 => ?_) (fun _ => Evp.now (fun h => absurd h (by decide))))
      obtain ⟨v, a1, a2⟩ := ih
      have c3 := hb (by simpa using c)
      have c4 := of_decide_eq_true c2
      exact ⟨v, a1, fun hv => ⟨c3.1, c3.2, c4, a2 hv⟩⟩
    refine Evp.step (fun k => by rw [metrics_check.l0, if_pos (by omega), if_pos (by omega), if_pos (by omega), e]) ?_
    refine Evp.ite (fun _ => hj true (fun h => by cases h)) (fun c1 => Evp.ite (fun _ => hj true (fun h => by cases h)) (fun c2 => hj _ (fun _ => ⟨by omega, by omega⟩)))
theorem mcheck_ev (x : S87) : Evp (fun k => metrics_check.f k x.f0 x.f1 x.f2 x.f3 x.f4 x.f5 x.f6 x.f7) (fun v => v = 0 → RightS x) := by
  have hj : ∀ b : Bool, (b = false → (un_ x.f1 0 = true ∧ un_ x.f2 0 = true ∧ un_ x.f3 0 = true ∧ un_ x.f4 0 = true ∧ un_ x.f5 0 = true)) → Evp (fun k => metrics_check.j0 k b x.f0 x.f1 x.f2 x.f3 x.f4 x.f5 x.f6 x.f7) (fun v => v = 0 → RightS x) := by
    intro b hb
    refine Evp.step (fun k => by rw [metrics_check.j0]) ?_
    refine Evp.ite (fun _ => Evp.now (fun h => absurd h (by decide))) (fun c => Evp.ite (fun _ => Evp.now (fun h => absurd h (by decide))) (fun c2 => ?_))
    obtain ⟨h1, h2, h3, h4, h5⟩ := hb (by simpa using c)
    have hl : x.f6.length ≤ 64 := by omega
    obtain ⟨v, a1, a2⟩ := mc_l0 hl x.f6 0 (-1) rfl
    refine ⟨v, a1, fun hv => ?_⟩
    obtain ⟨p, q⟩ := okr_all _ _ (a2 hv)
    refine ⟨of_decide_eq_true h1, of_decide_eq_true h2, of_decide_eq_true h3, of_decide_eq_true h4, of_decide_eq_true h5, ⟨hl, fun i hi => ?_, fun i j hij hj => ?_⟩, fun y hy => (p y hy).2.2⟩
    · rw [rd110 hi]; exact (p _ (List.getElem_mem hi)).2.1
    · rw [rd110 (Nat.lt_trans hij hj), rd110 hj]; exact List.pairwise_iff_getElem.1 q i j _ _ hij
  unfold metrics_check.f
  simp only [unit_f, Option.bind_some]
  refine Evp.ite (fun c0 => Evp.ite (fun c1 => Evp.ite (fun c2 => Evp.ite (fun c3 => Evp.ite (fun c4 => Evp.ite (fun c5 => hj _ (fun _ => ⟨c1, c2, c3, c4, c5⟩)) ?_) ?_) ?_) ?_) ?_) ?_
  all_goals exact fun _ => hj true (fun h => by cases h)
theorem new_l0 {l : List S87} (hl : l.length ≤ 32) : ∀ (d i : Nat) (acc : List S87), i + d = l.length → acc = l.take i → (∀ x ∈ acc, RightS x) →
    Evp (fun k => metrics_New.l0 k l (l.length : Int) (i : Int) acc) (fun r => r.1 = [] ∨ (r.1 = [⟨l⟩] ∧ ∀ x ∈ l, RightS x))
  | 0, i, acc, h, ha, hr => by
    have e : acc = l := by rw [ha, List.take_of_length_le (by omega)]
    refine Evp.step (fun k => by rw [metrics_New.l0, if_neg (by omega)]) (Evp.now (.inr ⟨by rw [e], by rw [← e]; exact hr⟩))
  | d + 1, i, acc, h, ha, hr => by
    have hi : i < l.length := by omega
    have e : rd_T87 l (i : Int) = l[i] := by
      unfold rd_T87
      rw [Int.toNat_natCast, List.getD_eq_getElem?_getD, List.getElem?_eq_getElem hi]; rfl
    refine Evp.step (fun k => by rw [metrics_New.l0, if_pos (by omega), if_pos (by omega), if_pos (by omega), e]) ?_
    obtain ⟨v, hv, hv2⟩ := mcheck_ev l[i]
    refine Evp.bind hv ?_
    refine Evp.ite (fun c => ?_) (fun _ => Evp.now (.inl rfl))
    have hx := hv2 c
    have ih := new_l0 hl d (i + 1) (acc ++ [l[i]]) (by omega) (by rw [ha, List.take_append_getElem hi]) (fun x hx2 => by
      rcases List.mem_append.1 hx2 with g | g
      · exact hr x g
      · rw [List.mem_singleton] at g; subst g; exact hx)
    have h6 := hx.srt.len
    have hacc : acc.length ≤ 32 := by rw [ha, List.length_take]; omega
    refine Evp.congr (fun k => ?_) ih
    rw [Option.bind_some, List.length_nil, if_pos (by omega), if_pos (by omega), vup (by omega), List.nil_append]
theorem new_ev (l : List S87) : Evp (fun k => metrics_New.f k l) (fun r => r.1 = [] ∨ (r.1 = [⟨l⟩] ∧ ∀ x ∈ l, RightS x)) := by
  unfold metrics_New.f
  refine Evp.ite (fun _ => Evp.now (.inl rfl)) (fun _ => Evp.ite (fun _ => Evp.now (.inl rfl)) (fun c => ?_))
  exact new_l0 (by omega) l.length 0 [] (by omega) rfl (fun x hx => by cases hx)
theorem table_ev (l : List S87) : Evp (fun k => regletlaw21_table.f k l) (fun T => T = [] ∨ (T = [⟨l⟩] ∧ ∀ x ∈ l, RightS x)) := by
  obtain ⟨v, hv, _⟩ := check_end l
  obtain ⟨r, hr, hr2⟩ := new_ev l
  unfold regletlaw21_table.f
  refine Evp.bind hv (Evp.ite (fun _ => Evp.bind hr (Evp.now hr2)) (fun _ => Evp.now (.inl rfl)))
end Go.Proofs.Ytblmcdpfhdamjaa.PPaintSeen
