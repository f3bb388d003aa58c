import Derived.Test.YtblmcdpfhdamjaaStpPaintSeen
import Derived.Test.YtblmcdpfhdamjaaRfsPaintSeen
/-! Our own text: what the program draws of a line. -/
namespace Go.Proofs.Ytblmcdpfhdamjaa.PPaintSeen
set_option linter.unusedVariables false
set_option linter.unusedSimpArgs false
open Go.RowKit Go.Proofs.YtblmcdpfhdamjaaW.PrintWords

def dr_ (r : Int) : Bool := kd_ r == 0 || kd_ r == 6
theorem drawn_ev (r : Int) : Ev (fun k => paint_drawn.f k r) (dr_ r) := by
  unfold paint_drawn.f
  refine Ev.bind (kind_ev r) ?_
  unfold dr_
  by_cases c : kd_ r = 0
  · refine Ev.congr (fun k => by rw [if_pos c]) ?_
    rw [c]; exact Ev.now _
  · refine Ev.congr (fun k => by rw [if_neg c]) ?_
    rw [show (kd_ r == 0) = false from by simp [c], Bool.false_or]
    exact Ev.now _
def sb_ (a b : Int) : Int := ad_ a (-(cl_ b))
theorem sub_f (a b : Int) : scaled_Sub.f a b = some (sb_ a b) := by
  have h := cl_rng b
  unfold scaled_Sub.f scaled_Neg.f scaled_Clamp.f
  simp only [Option.bind_some]
  rw [v64 (x := -mx (-1152921504606846976) (mn 1152921504606846976 b)) (by unfold cl_ at h; omega) (by unfold cl_ at h; omega), add_f]
  rfl
theorem psa_l0 {l : List S89} (hl : l.length ≤ 1000) : ∀ (t : List S89) (i : Nat) (a : Int), l.drop i = t → 0 ≤ a → a ≤ 1000000 →
    Ev (fun k => paint_styleAt.l0 k a l (l.length : Int) (i : Int)) (sa_ t a)
  | [], i, a, h, h0, h1 => by
    have := dropN h
    exact Ev.step (fun k => by rw [paint_styleAt.l0, if_neg (by omega)]; rfl) (Ev.now _)
  | y :: t, i, a, h, h0, h1 => by
    obtain ⟨g1, g2, g3⟩ := d75 h
    unfold sa_
    by_cases c : y.f0 ≤ 0
    · rw [if_pos c]
      refine Ev.step (fun k => ?_) (psa_l0 hl t (i + 1) a g3 h0 h1)
      rw [paint_styleAt.l0, if_pos (by omega), if_pos (by omega), if_pos (by omega), g2, if_pos c, upN (by omega)]
    · rw [if_neg c]
      by_cases d : a < y.f0
      · rw [if_pos d]
        exact Ev.step (fun k => by rw [paint_styleAt.l0, if_pos (by omega), if_pos (by omega), if_pos (by omega), g2, if_neg c, if_pos d]) (Ev.now _)
      · rw [if_neg d]
        refine Ev.step (fun k => ?_) (psa_l0 hl t (i + 1) (a - y.f0) g3 (by omega) (by omega))
        rw [paint_styleAt.l0, if_pos (by omega), if_pos (by omega), if_pos (by omega), g2, if_neg c, if_neg d, upN (by omega), v64 (x := a - y.f0) (by omega) (by omega)]
theorem psa_ev {l : List S89} (hl : l.length ≤ 1000) {a : Int} (h0 : 0 ≤ a) (h1 : a ≤ 1000000) : Ev (fun k => paint_styleAt.f k l a) (sa_ l a) := psa_l0 hl l 0 a rfl h0 h1
def ls_ : List S89 → Int → Int
  | [], a => a
  | y :: t, a => ls_ t (if y.f0 > 0 then y.f1 else a)
theorem pls_l0 {l : List S89} (hl : l.length ≤ 1000) : ∀ (t : List S89) (i : Nat) (a : Int), l.drop i = t → Ev (fun k => paint_lastStyle.l0 k a l (l.length : Int) (i : Int)) (ls_ t a)
  | [], i, a, h => by
    have := dropN h
    exact Ev.step (fun k => by rw [paint_lastStyle.l0, if_neg (by omega)]; rfl) (Ev.now _)
  | y :: t, i, a, h => by
    obtain ⟨g1, g2, g3⟩ := d75 h
    refine Ev.step (fun k => ?_) (pls_l0 hl t (i + 1) (if y.f0 > 0 then y.f1 else a) g3)
    rw [paint_lastStyle.l0, if_pos (by omega), if_pos (by omega), if_pos (by omega), g2, upN (by omega)]
    split <;> rfl
theorem hyp_ev (T : List S87) (i : Int) (k : Nat) : metrics_Table_Hyphen.f [⟨T⟩] i = some ((stg_ T i).f4) := by
  unfold metrics_Table_Hyphen.f
  rw [of_f, Option.bind_some]
  rfl
theorem d99 {l t : List S99} {i : Nat} {n : S99} (h : l.drop i = n :: t) : i < l.length ∧ rd_T99 l (i : Int) = n ∧ l.drop (i + 1) = t := by
  have := dropI z99 h
  unfold rd_T99; rw [Int.toNat_natCast]; exact this
theorem l38 (o : List S38) (m : S38) : rd_T38 (o ++ [m]) (o.length : Int) = m := by
  unfold rd_T38; rw [Int.toNat_natCast]; simp
theorem s38 (o : List S38) (m m' : S38) : (o ++ [m]).set ((o.length : Int)).toNat m' = o ++ [m'] := by
  rw [Int.toNat_natCast]; simp

/-- A mark that begins. -/
def new_ (R : List S89) (Y : Int) (s : ByteArray) (y z : S99) : S38 := ⟨y.f1, Y, sb_ z.f1 y.f1, s.extract y.f0.toNat z.f0.toNat, sa_ R y.f0⟩
def upd_ (s : ByteArray) (m : S38) (y z : S99) : S38 := ⟨m.f0, m.f1, sb_ z.f1 m.f0, m.f3 ++ s.extract y.f0.toNat z.f0.toNat, m.f4⟩
/-- The last mark, and may it go on; one rune more: the mark that is done, the last one then. -/
def stq_ (R : List S89) (Y : Int) (s : ByteArray) (c : Option (S38 × Bool)) (r : Int) (y z : S99) : List S38 × Option (S38 × Bool) :=
  if dr_ r = true then (match c with
    | some (m, true) => if m.f4 = sa_ R y.f0 then ([], some (upd_ s m y z, true)) else ([m], some (new_ R Y s y z, true))
    | some (m, false) => ([m], some (new_ R Y s y z, true))
    | none => ([], some (new_ R Y s y z, true)))
  else ([], c.map fun p => (p.1, p.2 && (z.f1 == y.f1) && !(kd_ r == 1) && !(kd_ r == 2)))
def lst_ : Option (S38 × Bool) → List S38
  | some p => [p.1]
  | none => []
def opn_ : Option (S38 × Bool) → Bool
  | some p => p.2
  | none => false
def drw_ (R : List S89) (Y : Int) (s : ByteArray) : List Int → List S99 → List S38 → Option (S38 × Bool) → List S38
  | r :: rt, y :: z :: st, o, c => drw_ R Y s rt (z :: st) (o ++ (stq_ R Y s c r y z).1) (stq_ R Y s c r y z).2
  | _, _, o, c => o ++ lst_ c
/-- With the hyphen. -/
def hyp_ (T : List S87) (R : List S89) (Y : Int) (b : Bool) (X : Int) (out : List S38) : List S38 := if b = true then out ++ [⟨X, Y, (stg_ T (ls_ R 0)).f4, (⟨#[45]⟩ : ByteArray), ls_ R 0⟩] else out

theorem stl_head {T : List S87} {R : List S89} {sp : Int → Int} {en : Int} {s : ByteArray} {f i : Nat} {x : Int} (h : Rt s f i) (hi : i ≤ s.size) : ∃ st, stl_ T R sp en s f i x = (⟨(i : Int), x⟩ : S99) :: st := by
  cases f with
  | zero => have := h.2; omega
  | succ f =>
    by_cases c : i < s.size
    · exact ⟨_, if_pos c⟩
    · have : i = s.size := by omega
      subst this
      exact ⟨[], if_neg c⟩
theorem stl_step {T : List S87} {R : List S89} {sp : Int → Int} {en : Int} {s : ByteArray} {f i : Nat} {x : Int} (h : Rt s (f + 1) i) (hi : i < s.size) :
    ∃ x2, stl_ T R sp en s (f + 1) i x = (⟨(i : Int), x⟩ : S99) :: stl_ T R sp en s f (i + (rsize_ s (i : Int)).toNat) x2 := ⟨_, if_pos hi⟩
theorem rlq_step {s : ByteArray} {f i : Nat} (h : Rt s (f + 1) i) (hi : i < s.size) : rl_ s (f + 1) (i : Int) = vOf s (i : Int) (rsize_ s (i : Int)) :: rl_ s f ((i + (rsize_ s (i : Int)).toNat : Nat) : Int) := by
  obtain ⟨hz, _, _, e, _⟩ := rt_step h hi
  have : rl_ s (f + 1) (i : Int) = if (i : Int) < (s.size : Int) then (if rsize_ s (i : Int) = 0 then [] else vOf s (i : Int) (rsize_ s (i : Int)) :: rl_ s f ((i : Int) + rsize_ s (i : Int))) else [] := rfl
  rw [this, if_pos (by omega), if_neg hz, show ((i + (rsize_ s (i : Int)).toNat : Nat) : Int) = (i : Int) + rsize_ s (i : Int) by omega]
theorem rlq_end {s : ByteArray} {f i : Nat} (hi : ¬ i < s.size) : rl_ s f (i : Int) = [] := by
  cases f with
  | zero => rfl
  | succ f =>
    have : rl_ s (f + 1) (i : Int) = if (i : Int) < (s.size : Int) then (if rsize_ s (i : Int) = 0 then [] else vOf s (i : Int) (rsize_ s (i : Int)) :: rl_ s f ((i : Int) + rsize_ s (i : Int))) else [] := rfl
    rw [this, if_neg (by omega)]
theorem ext_size (s : ByteArray) (a b : Nat) (hb : b ≤ s.size) : (s.extract a b).size = b - a := by
  rw [ByteArray.size_extract]; omega
theorem stq_ok {R : List S89} {Y : Int} {s : ByteArray} {c : Option (S38 × Bool)} {r : Int} {y z : S99} {a b : Nat} (hy : y.f0 = (a : Int)) (hz : z.f0 = (b : Int)) (hab : a ≤ b) (hb : b ≤ s.size) {o : List S38} (hm : ∀ m ∈ o ++ lst_ c, m.f3.size ≤ a) :
    (o ++ (stq_ R Y s c r y z).1 ++ lst_ (stq_ R Y s c r y z).2).length ≤ (o ++ lst_ c).length + 1 ∧ ∀ m ∈ o ++ (stq_ R Y s c r y z).1 ++ lst_ (stq_ R Y s c r y z).2, m.f3.size ≤ b := by
  have hx : (s.extract y.f0.toNat z.f0.toNat).size = b - a := by
    rw [hy, hz, Int.toNat_natCast, Int.toNat_natCast]; exact ext_size s a b hb
  have hn : (new_ R Y s y z).f3.size ≤ b := by show (s.extract y.f0.toNat z.f0.toNat).size ≤ b; rw [hx]; omega
  have ho : ∀ m ∈ o, m.f3.size ≤ b := fun m h => Nat.le_trans (hm m (List.mem_append_left _ h)) hab
  have fin : ∀ (p q : List S38), (∀ m ∈ p, m.f3.size ≤ b) → (∀ m ∈ q, m.f3.size ≤ b) → ∀ m ∈ o ++ p ++ q, m.f3.size ≤ b := by
    intro p q h1 h2 m h
    rcases List.mem_append.1 h with h | h
    · rcases List.mem_append.1 h with h | h
      · exact ho m h
      · exact h1 m h
    · exact h2 m h
  unfold stq_
  by_cases d : dr_ r = true
  · simp only [if_pos d]
    match c, hm with
    | none, hm => exact ⟨by simp [lst_], fin _ _ (by simp) (by intro m h; simp [lst_] at h; subst h; exact hn)⟩
    | some (m0, false), hm =>
      have h0 : m0.f3.size ≤ a := hm m0 (by simp [lst_])
      exact ⟨by simp [lst_], fin _ _ (by intro m h; simp at h; subst h; omega) (by intro m h; simp [lst_] at h; subst h; exact hn)⟩
    | some (m0, true), hm =>
      have h0 : m0.f3.size ≤ a := hm m0 (by simp [lst_])
      by_cases e : m0.f4 = sa_ R y.f0
      · simp only [if_pos e]
        refine ⟨by simp [lst_], fin _ _ (by simp) (by intro m h; simp [lst_] at h; subst h; show (m0.f3 ++ s.extract y.f0.toNat z.f0.toNat).size ≤ b; rw [ByteArray.size_append, hx]; omega)⟩
      · simp only [if_neg e]
        exact ⟨by simp [lst_], fin _ _ (by intro m h; simp at h; subst h; omega) (by intro m h; simp [lst_] at h; subst h; exact hn)⟩
  · simp only [if_neg d]
    match c, hm with
    | none, hm => exact ⟨by simp [lst_], fin _ _ (by simp) (by simp [lst_])⟩
    | some (m0, q), hm =>
      have h0 : m0.f3.size ≤ a := hm m0 (by simp [lst_])
      exact ⟨by simp [lst_], fin _ _ (by simp) (by intro m h; simp [lst_] at h; subst h; omega)⟩
end Go.Proofs.Ytblmcdpfhdamjaa.PPaintSeen
