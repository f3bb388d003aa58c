/- Our own text: a logic over abstract values for the model of Go (the part of it that the law MarksPlay needs; in 3 texts, this is the one numbered 1). -/
import Derived.Calls
import Derived.Orders
import Derived.Laws.World
import Derived.Laws.Sem
import Derived.Below
import Derived.Laws.Slices
import Derived.Laws.Strings
import Derived.Laws.Pointers
import Derived.Laws.StructEq
import Derived.Laws.Append
import Derived.IntWalk
import Derived.Tactics
import Derived.Deep.LoopGhost
import Derived.ChangeArms
import Derived.OpenShut
import Derived.DataElems
import Derived.WideShapes
import Derived.SizedLaws
import Derived.ScopeJumps
import Derived.Lib.SliceRun
import Derived.Shelf.SlSortCmp.NoneTotal
section
set_option linter.unusedVariables false
set_option linter.unusedSimpArgs false
namespace Go.AL

inductive Pl where
  | t (n : Nat)
  | l (k off : Nat)
  | g (id off : Nat)
  | res
  deriving DecidableEq

inductive AV where
  | int (k : IntKind) (n : Int)
  | bool (b : Bool)
  | str (s : ByteArray)
  | agg (cs : List AV)
  | tup (vs : List AV)
  | sl (l : List (List AV))
  | emp
  | nilp
  | ptrF (cs : List AV)
  | ptr (id off : Nat)
  | fn (f : FuncId) (caps : List AV)
  | lptr (k off : Nat)
  | own (c : Nat) (l : List (List AV))
  | view (q : Pl)
  | sub (q : Pl) (c lo hi : Nat)
  | eptr (q : Pl) (c i off : Nat)
  | iter (s : ByteArray) (pos : Nat)
  | junk

inductive Rv (Fz : Nat → Prop) (D : Nat → Option Nat) (w : World) : AV → Value → Prop
  | int (k : IntKind) (n : Int) : Rv Fz D w (.int k n) (.int k n)
  | bool (b : Bool) : Rv Fz D w (.bool b) (.bool b)
  | str (s : ByteArray) : Rv Fz D w (.str s) (.string s)
  | agg (cs : List AV) (vs : Array Value) (hn : cs.length = vs.size) (hr : ∀ (j : Nat) (x : AV) (v : Value), cs[j]? = some x → vs[j]? = some v → Rv Fz D w x v) : Rv Fz D w (.agg cs) (.agg vs)
  | tup (cs : List AV) (vs : Array Value) (hn : cs.length = vs.size) (hr : ∀ (j : Nat) (x : AV) (v : Value), cs[j]? = some x → vs[j]? = some v → Rv Fz D w x v) : Rv Fz D w (.tup cs) (.tuple vs)
  | emp (a : Option Addr) : Rv Fz D w .emp (.slice a 0 0)
  | sl0 (a : Option Addr) (cap : Nat) : Rv Fz D w (.sl []) (.slice a 0 cap)
  | sl (l : List (List AV)) (b off cap c : Nat) (f : Nat → Value) (hz : Fz b) (hl : l.length ≤ cap) (hw : ∀ es ∈ l, es.length = c)
      (hc : ∀ (k : Nat) (x : AV), l.flatten[k]? = some x → w.cell? ⟨b, off + k, none⟩ = some (f k)) (hr : ∀ (k : Nat) (x : AV), l.flatten[k]? = some x → Rv Fz D w x (f k)) :
      Rv Fz D w (.sl l) (.slice (some ⟨b, off, none⟩) l.length cap)
  | nilp : Rv Fz D w .nilp (.pointer none)
  | ptrF (cs : List AV) (b off : Nat) (f : Nat → Value) (hz : Fz b)
      (hc : ∀ (k : Nat) (x : AV), cs[k]? = some x → w.cell? ⟨b, off + k, none⟩ = some (f k)) (hr : ∀ (k : Nat) (x : AV), cs[k]? = some x → Rv Fz D w x (f k)) :
      Rv Fz D w (.ptrF cs) (.pointer (some ⟨b, off, none⟩))
  | ptr (id off b : Nat) (h : D id = some b) : Rv Fz D w (.ptr id off) (.pointer (some ⟨b, off, none⟩))
  | fn (f : FuncId) (cs : List AV) (vs : Array Value) (hn : cs.length = vs.size) (hr : ∀ (j : Nat) (x : AV) (v : Value), cs[j]? = some x → vs[j]? = some v → Rv Fz D w x v) :
      Rv Fz D w (.fn f cs) (.func (.func f) #[] vs)

theorem cell?_of_heap {w w' : World} {b off : Nat} (h : w'.heap[b]? = w.heap[b]?) : w'.cell? ⟨b, off, none⟩ = w.cell? ⟨b, off, none⟩ := by
  simp [World.cell?, h]

theorem Rv.mono {Fz Fz' : Nat → Prop} {D D' : Nat → Option Nat} {w w' : World} {x : AV} {v : Value} (h : Rv Fz D w x v)
    (hz : ∀ b, Fz b → Fz' b) (hd : ∀ i b, D i = some b → D' i = some b) (hw : ∀ b, Fz b → w'.heap[b]? = w.heap[b]?) : Rv Fz' D' w' x v := by
  induction h with
  | int k n => exact .int k n
  | bool b => exact .bool b
  | str s => exact .str s
  | agg cs vs hn hr ih => exact .agg cs vs hn ih
  | tup cs vs hn hr ih => exact .tup cs vs hn ih
  | emp a => exact .emp a
  | sl0 a cap => exact .sl0 a cap
  | sl l b off cap c f h1 hl hw' hc hr ih => exact .sl l b off cap c f (hz _ h1) hl hw' (fun k x hk => (cell?_of_heap (hw _ h1)).trans (hc k x hk)) ih
  | nilp => exact .nilp
  | ptrF cs b off f h1 hc hr ih => exact .ptrF cs b off f (hz _ h1) (fun k x hk => (cell?_of_heap (hw _ h1)).trans (hc k x hk)) ih
  | ptr i off b h => exact .ptr i off b (hd _ _ h)
  | fn f cs vs hn hr ih => exact .fn f cs vs hn ih

def lk {α : Type} : List (Nat × α) → Nat → Option α
  | [], _ => none
  | (a, x) :: l, t => bif Nat.beq a t then some x else lk l t
def up {α : Type} : List (Nat × α) → Nat → α → List (Nat × α)
  | [], t, v => [(t, v)]
  | (a, x) :: l, t, v => bif Nat.beq a t then (a, v) :: l else (a, x) :: up l t v
def rm {α : Type} : List (Nat × α) → Nat → List (Nat × α)
  | [], _ => []
  | (a, x) :: l, t => bif Nat.beq a t then rm l t else (a, x) :: rm l t

@[simp] theorem lk_nil {α : Type} (t : Nat) : lk ([] : List (Nat × α)) t = none := rfl
theorem lk_cons {α : Type} (a : Nat) (x : α) (l : List (Nat × α)) (t : Nat) : lk ((a, x) :: l) t = if a = t then some x else lk l t := by
  show (bif Nat.beq a t then some x else lk l t) = _
  by_cases h : a = t
  · subst h; simp
  · rw [if_neg h, show Nat.beq a t = false from Bool.eq_false_iff.2 (fun e => h (Nat.eq_of_beq_eq_true e))]; rfl
theorem up_cons {α : Type} (a : Nat) (x : α) (l : List (Nat × α)) (t : Nat) (v : α) : up ((a, x) :: l) t v = if a = t then (a, v) :: l else (a, x) :: up l t v := by
  show (bif Nat.beq a t then (a, v) :: l else (a, x) :: up l t v) = _
  by_cases h : a = t
  · subst h; simp
  · rw [if_neg h, show Nat.beq a t = false from Bool.eq_false_iff.2 (fun e => h (Nat.eq_of_beq_eq_true e))]; rfl
theorem rm_cons {α : Type} (a : Nat) (x : α) (l : List (Nat × α)) (t : Nat) : rm ((a, x) :: l) t = if a = t then rm l t else (a, x) :: rm l t := by
  show (bif Nat.beq a t then rm l t else (a, x) :: rm l t) = _
  by_cases h : a = t
  · subst h; simp
  · rw [if_neg h, show Nat.beq a t = false from Bool.eq_false_iff.2 (fun e => h (Nat.eq_of_beq_eq_true e))]; rfl

theorem lk_up {α : Type} (l : List (Nat × α)) (t u : Nat) (v : α) : lk (up l t v) u = if u = t then some v else lk l u := by
  induction l with
  | nil =>
    show lk [(t, v)] u = _
    rw [lk_cons]
    by_cases h : u = t
    · rw [if_pos h, if_pos h.symm]
    · rw [if_neg h, if_neg (Ne.symm h)]
  | cons p l ih =>
    obtain ⟨a, x⟩ := p
    rw [up_cons]
    by_cases h : a = t
    · subst h
      rw [if_pos rfl, lk_cons, lk_cons]
      by_cases h2 : u = a
      · rw [if_pos h2, if_pos h2.symm]
      · rw [if_neg h2, if_neg (Ne.symm h2), if_neg (Ne.symm h2)]
    · rw [if_neg h, lk_cons, lk_cons, ih]
      by_cases h2 : a = u
      · subst h2; rw [if_pos rfl, if_pos rfl, if_neg h]
      · rw [if_neg h2, if_neg h2]

theorem lk_rm {α : Type} (l : List (Nat × α)) (t u : Nat) : lk (rm l t) u = if u = t then none else lk l u := by
  induction l with
  | nil => show none = _; split <;> rfl
  | cons p l ih =>
    obtain ⟨a, x⟩ := p
    rw [rm_cons]
    by_cases h : a = t
    · subst h
      rw [if_pos rfl, ih, lk_cons]
      by_cases h2 : u = a
      · rw [if_pos h2, if_pos h2]
      · rw [if_neg h2, if_neg h2, if_neg (Ne.symm h2)]
    · rw [if_neg h, lk_cons, lk_cons, ih]
      by_cases h2 : a = u
      · subst h2; rw [if_pos rfl, if_pos rfl, if_neg h]
      · rw [if_neg h2, if_neg h2]

end Go.AL
end
section
set_option linter.unusedVariables false
set_option linter.unusedSimpArgs false
namespace Go.AL

inductive Pw where
  | row (p : Pl)
  | lobj (k : Nat)
  | gobj (id : Nat)
  | it (p : Pl)
  deriving DecidableEq

structure Ctx where
  Fz : Nat → Prop
  D : Nat → Option Nat
  L : Nat → Nat
  O : Nat → Option Pw

abbrev Objs := Nat → Option (List AV)

structure St where
  env : List (Nat × AV)
  loc : List (Nat × List AV)
  G : Objs

def St.get (S : St) (t : Nat) : Option AV := lk S.env t

def AV.refs (q : Pl) : AV → Bool
  | .view p => decide (p = q)
  | .sub p _ _ _ => decide (p = q)
  | .eptr p _ _ _ => decide (p = q)
  | _ => false

def AV.ofObj (k : Nat) : AV → Bool
  | .view (.l k' _) => decide (k' = k)
  | .sub (.l k' _) _ _ _ => decide (k' = k)
  | .eptr (.l k' _) _ _ _ => decide (k' = k)
  | .lptr k' _ => decide (k' = k)
  | _ => false

def kl (r : AV → Bool) : List (Nat × AV) → List (Nat × AV)
  | [] => []
  | (u, x) :: l => if r x then rm (kl r l) u else (u, x) :: kl r l

theorem lk_kl {r : AV → Bool} {l : List (Nat × AV)} {u : Nat} {y : AV} (h : lk (kl r l) u = some y) : lk l u = some y ∧ r y = false := by
  induction l with
  | nil => simp [kl] at h
  | cons p l ih =>
    obtain ⟨a, x⟩ := p
    simp only [kl] at h
    by_cases hr : r x = true
    · rw [if_pos hr, lk_rm] at h
      by_cases hu : u = a
      · rw [if_pos hu] at h; cases h
      · rw [if_neg hu] at h
        have := ih h
        rw [lk_cons, if_neg (Ne.symm hu)]
        exact this
    · rw [if_neg hr, lk_cons] at h
      rw [lk_cons]
      by_cases hu : a = u
      · rw [if_pos hu] at h ⊢
        cases h
        exact ⟨rfl, by simpa using hr⟩
      · rw [if_neg hu] at h ⊢
        exact ih h

def St.ownAt (S : St) : Pl → Option (Nat × List (List AV))
  | .t n => match S.get n with | some (.own c l) => some (c, l) | _ => none
  | .l k off => match lk S.loc k with
    | some cs => match cs[off]? with | some (.own c l) => some (c, l) | _ => none
    | none => none
  | .g id off => match S.G id with
    | some cs => match cs[off]? with | some (.own c l) => some (c, l) | _ => none
    | none => none
  | .res => none

def hdr (X : Ctx) (a : Act) (w : World) : Pl → Value
  | .t n => a.tmps.getD n undef
  | .l k off => (w.cell? ⟨X.L k, off, none⟩).getD undef
  | .g id off => match X.D id with | some b => (w.cell? ⟨b, off, none⟩).getD undef | none => undef
  | .res => undef

def OwnV (X : Ctx) (w : World) (p : Pl) (c : Nat) (l : List (List AV)) (v : Value) : Prop :=
  (l = [] ∧ ∃ a, v = .slice a 0 0) ∨
  ∃ (b off cap : Nat) (vs : Array Value) (T : TypeId), v = .slice (some ⟨b, off, none⟩) l.length cap ∧ X.O b = some (.row p) ∧ w.heap[b]? = some (.cells vs T (0, 0)) ∧
    off + cap * c ≤ vs.size ∧ l.length ≤ cap ∧ (∀ es ∈ l, es.length = c) ∧ ∀ (k : Nat) (x : AV), l.flatten[k]? = some x → ∃ v, vs[off + k]? = some v ∧ Rv X.Fz X.D w x v

def Rc (X : Ctx) (w : World) (p : Pl) : AV → Value → Prop
  | .own c l, v => OwnV X w p c l v
  | .junk, _ => True
  | x, v => Rv X.Fz X.D w x v

def Rp (X : Ctx) (S : St) (a : Act) (w : World) (p : Pl) : AV → Value → Prop
  | .own c l, v => OwnV X w p c l v
  | .view q, v => S.ownAt q ≠ none → v = hdr X a w q
  | .sub q c lo hi, v => S.ownAt q ≠ none → ∃ (A B : Option Addr) (n cap : Nat), hdr X a w q = .slice A n cap ∧ v = .slice B (hi - lo) (cap - lo) ∧ lo ≤ hi ∧ hi ≤ n ∧ n ≤ cap ∧ (lo < cap → B = A.map (·.add (lo * c)))
  | .eptr q c i off, v => S.ownAt q ≠ none → ∃ (b o n cap : Nat), hdr X a w q = .slice (some ⟨b, o, none⟩) n cap ∧ v = .pointer (some ⟨b, o + i * c + off, none⟩)
  | .iter s pos, v => ∃ b, v = .pointer (some ⟨b, 0, none⟩) ∧ X.O b = some (.it p) ∧ w.heap[b]? = some (.stringIter s pos)
  | .lptr k off, v => v = .pointer (some ⟨X.L k, off, none⟩)
  | .junk, _ => True
  | x, v => Rv X.Fz X.D w x v

def ObjR (X : Ctx) (w : World) (pl : Nat → Pl) (cs : List AV) (b : Nat) : Prop :=
  ∃ vs T, w.heap[b]? = some (.cells vs T (0, 0)) ∧ cs.length ≤ vs.size ∧ ∀ (j : Nat) (x : AV), cs[j]? = some x → Rc X w (pl j) x (vs.getD j undef)

structure RX (X : Ctx) (S : St) (a : Act) (w : World) : Prop where
  env : ∀ t x, S.get t = some x → t < a.tmps.size ∧ Rp X S a w (.t t) x (a.tmps.getD t undef)
  loc : ∀ k cs, lk S.loc k = some cs → X.O (X.L k) = some (.lobj k) ∧ ObjR X w (fun j => .l k j) cs (X.L k)
  gob : ∀ id cs, S.G id = some cs → ∃ b, X.D id = some b ∧ X.O b = some (.gobj id) ∧ ObjR X w (fun j => .g id j) cs b
  dis : ∀ b, X.Fz b → X.O b = none
  inh : ∀ b, X.Fz b ∨ X.O b ≠ none → b < w.heap.size

theorem OwnV.world {X : Ctx} {w w' : World} {p : Pl} {c : Nat} {l : List (List AV)} {v : Value} (h : OwnV X w p c l v)
    (hw : ∀ b, X.Fz b ∨ X.O b = some (.row p) → w'.heap[b]? = w.heap[b]?) : OwnV X w' p c l v := by
  rcases h with h | ⟨b, off, cap, vs, T, h1, h2, h3, h4, h5, h6, h7⟩
  · exact .inl h
  · refine .inr ⟨b, off, cap, vs, T, h1, h2, (hw b (.inr h2)).trans h3, h4, h5, h6, fun k x hk => ?_⟩
    obtain ⟨v, g1, g2⟩ := h7 k x hk
    exact ⟨v, g1, g2.mono (fun _ h => h) (fun _ _ h => h) (fun b hb => hw b (.inl hb))⟩

theorem Rc.world {X : Ctx} {w w' : World} {p : Pl} {x : AV} {v : Value} (h : Rc X w p x v)
    (hw : ∀ b, X.Fz b ∨ X.O b = some (.row p) → w'.heap[b]? = w.heap[b]?) : Rc X w' p x v := by
  cases x <;> first
    | exact OwnV.world h hw
    | exact trivial
    | exact Rv.mono h (fun _ h => h) (fun _ _ h => h) (fun b hb => hw b (.inl hb))

theorem ObjR.world {X : Ctx} {w w' : World} {pl : Nat → Pl} {cs : List AV} {b : Nat} (h : ObjR X w pl cs b) (hb : X.O b ≠ none)
    (hw : ∀ b, X.Fz b ∨ X.O b ≠ none → w'.heap[b]? = w.heap[b]?) : ObjR X w' pl cs b := by
  obtain ⟨vs, T, h1, h2, h3⟩ := h
  refine ⟨vs, T, (hw b (.inr hb)).trans h1, h2, fun j x hj => (h3 j x hj).world (fun b' hb' => hw b' (hb'.imp id (fun e => by rw [e]; simp)))⟩

theorem live_t {S : St} {n : Nat} (h : S.ownAt (.t n) ≠ none) : ∃ c l, S.get n = some (.own c l) := by
  simp only [St.ownAt] at h
  split at h
  · rename_i c l e; exact ⟨c, l, e⟩
  · exact absurd rfl h
theorem live_l {S : St} {k off : Nat} (h : S.ownAt (.l k off) ≠ none) : ∃ cs c l, lk S.loc k = some cs ∧ cs[off]? = some (.own c l) := by
  simp only [St.ownAt] at h
  split at h
  · rename_i cs e
    split at h
    · rename_i c l e2; exact ⟨cs, c, l, e, e2⟩
    · exact absurd rfl h
  · exact absurd rfl h
theorem live_g {S : St} {k off : Nat} (h : S.ownAt (.g k off) ≠ none) : ∃ cs c l, S.G k = some cs ∧ cs[off]? = some (.own c l) := by
  simp only [St.ownAt] at h
  split at h
  · rename_i cs e
    split at h
    · rename_i c l e2; exact ⟨cs, c, l, e, e2⟩
    · exact absurd rfl h
  · exact absurd rfl h

theorem RX.hdr_world {X : Ctx} {S : St} {a : Act} {w w' : World} (h : RX X S a w) (hw : ∀ b, X.Fz b ∨ X.O b ≠ none → w'.heap[b]? = w.heap[b]?) {q : Pl}
    (hq : S.ownAt q ≠ none) : hdr X a w' q = hdr X a w q := by
  cases q with
  | t n => rfl
  | l k off =>
    obtain ⟨cs, c, l, e, _⟩ := live_l hq
    have h1 := (h.loc k cs e).1
    simp only [hdr]
    rw [cell?_of_heap (hw _ (.inr (by rw [h1]; simp)))]
  | g k off =>
    obtain ⟨cs, c, l, e, _⟩ := live_g hq
    obtain ⟨b, h1, h2, _⟩ := h.gob k cs e
    simp only [hdr, h1]
    rw [cell?_of_heap (hw _ (.inr (by rw [h2]; simp)))]
  | res => rfl

theorem Rp.congr {X : Ctx} {S S' : St} {a a' : Act} {w w' : World} {p : Pl} {x : AV} {v : Value} (h : Rp X S a w p x v)
    (hw : ∀ b, X.Fz b ∨ X.O b = some (.row p) ∨ X.O b = some (.it p) → w'.heap[b]? = w.heap[b]?)
    (hq : ∀ q, x.refs q = true → S'.ownAt q ≠ none → S.ownAt q ≠ none ∧ hdr X a' w' q = hdr X a w q) : Rp X S' a' w' p x v := by
  cases x with
  | own c l => exact OwnV.world h (fun b hb => hw b (hb.imp id .inl))
  | view q => intro h1; obtain ⟨h2, h3⟩ := hq q (by simp [AV.refs]) h1; rw [h3]; exact h h2
  | sub q c lo hi => intro h1; obtain ⟨h2, h3⟩ := hq q (by simp [AV.refs]) h1; rw [h3]; exact h h2
  | eptr q c i off => intro h1; obtain ⟨h2, h3⟩ := hq q (by simp [AV.refs]) h1; rw [h3]; exact h h2
  | iter s pos => obtain ⟨b, h1, h2, h3⟩ := h; exact ⟨b, h1, h2, (hw b (.inr (.inr h2))).trans h3⟩
  | lptr k off => exact h
  | junk => exact trivial
  | _ => exact Rv.mono h (fun _ h => h) (fun _ _ h => h) (fun b hb => hw b (.inl hb))

theorem RX.world {X : Ctx} {S : St} {a : Act} {w w' : World} (h : RX X S a w) (hs : w.heap.size ≤ w'.heap.size)
    (hw : ∀ b, X.Fz b ∨ X.O b ≠ none → w'.heap[b]? = w.heap[b]?) : RX X S a w' where
  env t x hx := by
    obtain ⟨h1, h2⟩ := h.env t x hx
    exact ⟨h1, h2.congr (fun b hb => hw b (hb.imp id (fun e => by rcases e with e | e <;> (rw [e]; simp)))) (fun q _ hq => ⟨hq, h.hdr_world hw hq⟩)⟩
  loc k cs hk := by
    obtain ⟨h1, h2⟩ := h.loc k cs hk
    exact ⟨h1, h2.world (by rw [h1]; simp) hw⟩
  gob k cs hk := by
    obtain ⟨b, h0, h1, h2⟩ := h.gob k cs hk
    exact ⟨b, h0, h1, h2.world (by rw [h1]; simp) hw⟩
  dis := h.dis
  inh b hb := Nat.lt_of_lt_of_le (h.inh b hb) hs

def St.put (S : St) (t : Nat) (x : AV) : St := { S with env := up (kl (AV.refs (.t t)) S.env) t x }
def St.drop (S : St) (t : Nat) : St := { S with env := rm (kl (AV.refs (.t t)) S.env) t }
def St.puto (S : St) (t : Option Nat) (x : AV) : St := match t with | some t => S.put t x | none => S
theorem getD_put {a : Act} {t u : Nat} {v : Value} (ht : t < a.tmps.size) : (a.put (some t) v).tmps.getD u undef = if u = t then v else a.tmps.getD u undef := by
  simp only [Act.put, Array.getD_eq_getD_getElem?]
  by_cases h : u = t
  · subst h; simp [ht]
  · rw [if_neg h, Array.getElem?_setIfInBounds_ne (Ne.symm h)]

theorem getD_put_ne {a : Act} {t u : Nat} {v : Value} (h : u ≠ t) : (a.put (some t) v).tmps.getD u undef = a.tmps.getD u undef := by
  simp only [Act.put, Array.getD_eq_getD_getElem?]
  rw [Array.getElem?_setIfInBounds_ne (Ne.symm h)]

theorem size_put (a : Act) (t : Option Nat) (v : Value) : (a.put t v).tmps.size = a.tmps.size := by cases t <;> simp [Act.put]

theorem St.get_put {S : St} {t u : Nat} {x y : AV} (h : (S.put t x).get u = some y) : (u = t ∧ y = x) ∨ (u ≠ t ∧ S.get u = some y ∧ y.refs (.t t) = false) := by
  simp only [St.put, St.get, lk_up] at h
  by_cases hu : u = t
  · rw [if_pos hu] at h; cases h; exact .inl ⟨hu, rfl⟩
  · rw [if_neg hu] at h; exact .inr ⟨hu, lk_kl h⟩
theorem kl_lk {r : AV → Bool} {l : List (Nat × AV)} {u : Nat} {y : AV} (h : lk l u = some y) (hr : r y = false) : lk (kl r l) u = some y := by
  induction l with
  | nil => simp at h
  | cons p l ih =>
    obtain ⟨a, x⟩ := p
    rw [lk_cons] at h
    simp only [kl]
    by_cases e : a = u
    · rw [if_pos e] at h
      cases h
      rw [if_neg (by rw [hr]; simp), lk_cons, if_pos e]
    · rw [if_neg e] at h
      by_cases hx : r x = true
      · rw [if_pos hx, lk_rm, if_neg (Ne.symm e)]
        exact ih h
      · rw [if_neg hx, lk_cons, if_neg e]
        exact ih h
theorem St.put_get {S : St} {t u : Nat} {x y : AV} (h : (u = t ∧ y = x) ∨ (u ≠ t ∧ S.get u = some y ∧ y.refs (.t t) = false)) : (S.put t x).get u = some y := by
  simp only [St.put, St.get, lk_up]
  rcases h with ⟨h1, h2⟩ | ⟨h1, h2, h3⟩
  · rw [if_pos h1, h2]
  · rw [if_neg h1]; exact kl_lk h2 h3
theorem St.drop_get {S : St} {t u : Nat} {y : AV} (h1 : u ≠ t) (h2 : S.get u = some y) (h3 : y.refs (.t t) = false) : (S.drop t).get u = some y := by
  simp only [St.drop, St.get, lk_rm]
  rw [if_neg h1]; exact kl_lk h2 h3
theorem St.get_drop {S : St} {t u : Nat} {y : AV} (h : (S.drop t).get u = some y) : u ≠ t ∧ S.get u = some y ∧ y.refs (.t t) = false := by
  simp only [St.drop, St.get, lk_rm] at h
  by_cases hu : u = t
  · rw [if_pos hu] at h; cases h
  · rw [if_neg hu] at h; exact ⟨hu, lk_kl h⟩

theorem St.live_put {S : St} {t : Nat} {x : AV} {q : Pl} (hq : q ≠ .t t) (h : (S.put t x).ownAt q ≠ none) : S.ownAt q ≠ none := by
  cases q with
  | t n =>
    obtain ⟨c, l, e⟩ := live_t h
    rcases St.get_put e with ⟨e1, _⟩ | ⟨_, e2, _⟩
    · exact absurd (by rw [e1]) hq
    · simp [St.ownAt, e2]
  | l k off => exact h
  | g k off => exact h
  | res => exact h
theorem St.live_drop {S : St} {t : Nat} {q : Pl} (h : (S.drop t).ownAt q ≠ none) : q ≠ .t t ∧ S.ownAt q ≠ none := by
  cases q with
  | t n =>
    obtain ⟨c, l, e⟩ := live_t h
    obtain ⟨e1, e2, _⟩ := St.get_drop e
    exact ⟨fun e => e1 (by cases e; rfl), by simp [St.ownAt, e2]⟩
  | l k off => exact ⟨by simp, h⟩
  | g k off => exact ⟨by simp, h⟩
  | res => exact ⟨by simp, h⟩

theorem hdr_put {X : Ctx} {a : Act} {w : World} {t : Nat} {v : Value} {q : Pl} (hq : q ≠ .t t) : hdr X (a.put (some t) v) w q = hdr X a w q := by
  cases q with
  | t n => exact getD_put_ne (fun e => hq (by rw [e]))
  | _ => rfl

theorem RX.put {X : Ctx} {S : St} {a : Act} {w : World} {t : Nat} {x : AV} {v : Value} (h : RX X S a w) (ht : t < a.tmps.size)
    (hx : Rp X (S.put t x) (a.put (some t) v) w (.t t) x v) : RX X (S.put t x) (a.put (some t) v) w where
  env u y hy := by
    rw [size_put]
    rcases St.get_put hy with ⟨e, e2⟩ | ⟨hu, e2, hr⟩
    · subst e; subst e2
      refine ⟨ht, ?_⟩
      rw [getD_put ht, if_pos rfl]
      exact hx
    · obtain ⟨h1, h2⟩ := h.env u y e2
      refine ⟨h1, ?_⟩
      rw [getD_put ht, if_neg hu]
      refine h2.congr (fun _ _ => rfl) (fun q hq hl => ?_)
      have hne : q ≠ .t t := fun e => by rw [e, hr] at hq; cases hq
      exact ⟨St.live_put hne hl, hdr_put hne⟩
  loc := h.loc
  gob := h.gob
  dis := h.dis
  inh := h.inh

theorem RX.drop {X : Ctx} {S : St} {a : Act} {w : World} {t : Nat} {v : Value} (h : RX X S a w) : RX X (S.drop t) (a.put (some t) v) w where
  env u y hy := by
    rw [size_put]
    obtain ⟨hu, e2, hr⟩ := St.get_drop hy
    obtain ⟨h1, h2⟩ := h.env u y e2
    refine ⟨h1, ?_⟩
    rw [getD_put_ne hu]
    refine h2.congr (fun _ _ => rfl) (fun q hq hl => ?_)
    obtain ⟨hne, hl2⟩ := St.live_drop hl
    exact ⟨hl2, hdr_put hne⟩
  loc := h.loc
  gob := h.gob
  dis := h.dis
  inh := h.inh

structure St.Le (S' S : St) : Prop where
  env : ∀ t x, S'.get t = some x → S.get t = some x
  loc : ∀ k x, lk S'.loc k = some x → lk S.loc k = some x
  G : ∀ k x, S'.G k = some x → S.G k = some x

theorem St.Le.live {S' S : St} (h : St.Le S' S) {q : Pl} (hq : S'.ownAt q ≠ none) : S.ownAt q ≠ none := by
  cases q with
  | t n => obtain ⟨c, l, e⟩ := live_t hq; simp [St.ownAt, h.env _ _ e]
  | l k off => obtain ⟨cs, c, l, e, e2⟩ := live_l hq; simp [St.ownAt, h.loc _ _ e, e2]
  | g k off => obtain ⟨cs, c, l, e, e2⟩ := live_g hq; simp [St.ownAt, h.G _ _ e, e2]
  | res => exact absurd rfl hq

theorem RX.weaken {X : Ctx} {S S' : St} {a : Act} {w : World} (h : RX X S a w) (hl : St.Le S' S) : RX X S' a w where
  env t x hx := by
    obtain ⟨h1, h2⟩ := h.env t x (hl.env t x hx)
    exact ⟨h1, h2.congr (fun _ _ => rfl) (fun q _ hq => ⟨hl.live hq, rfl⟩)⟩
  loc k cs hk := h.loc k cs (hl.loc k cs hk)
  gob k cs hk := h.gob k cs (hl.G k cs hk)
  dis := h.dis
  inh := h.inh

theorem St.Le.refl (S : St) : St.Le S S := ⟨fun _ _ h => h, fun _ _ h => h, fun _ _ h => h⟩
theorem St.Le.trans {A B C : St} (h : St.Le A B) (k : St.Le B C) : St.Le A C := ⟨fun t x e => k.env t x (h.env t x e), fun t x e => k.loc t x (h.loc t x e), fun t x e => k.G t x (h.G t x e)⟩
end Go.AL
end
section
set_option linter.unusedVariables false
set_option linter.unusedSimpArgs false
namespace Go.AL

inductive TK where
  | int (k : IntKind)
  | bool
  | str
  | ptr
  | slice (e : Nat)
  | struct (fs : List (Nat × Nat))
  | arr (n e : Nat)
  | fn
  | tup

structure TD where
  k : TK
  size : Nat
  bytes : Nat
  zero : List AV

abbrev Tab := List (Nat × TD)

def TK.fits : TK → TypeDesc → Bool
  | .int k, .int k' => decide (k = k')
  | .bool, .bool => true
  | .str, .string => true
  | .ptr, .pointer _ => true
  | .slice e, .slice e' => decide (e = e')
  | .struct fs, .struct gs => decide (fs = gs.toList.map fun f => (f.offset, f.type)) && gs.toList.all fun f => f.name != "_"
  | .arr n e, .array n' e' => decide (n = n') && decide (e = e')
  | .fn, .func .. => true
  | .tup, .tuple _ => true
  | _, _ => false

def zcell : AV → Value → Bool
  | .int k n, .int k' m => decide (k = k') && decide (n = m)
  | .bool b, .bool c => b == c
  | .str s, .string t => decide (s.size = 0) && decide (t.size = 0)
  | .emp, .slice none 0 0 => true
  | .nilp, .pointer none => true
  | _, _ => false
def zcells : List AV → List Value → Bool
  | [], [] => true
  | x :: xs, v :: vs => zcell x v && zcells xs vs
  | _, _ => false

def TD.okB (P : Program) (t : Nat) (d : TD) : Bool :=
  match P.info? t, P.underlying t with
  | some i, some u => decide (i.size = d.size) && decide (i.bytes = d.bytes) && d.k.fits u && decide (0 < d.size) &&
    ((match d.k with
     | .tup | .fn => true
     | _ => match i.zero with
       | some z => zcells d.zero z.cells.toList
       | none => false) && (match d.k with
     | .struct _ => !P.stoodInHeld t && !P.eqGuardType P.depth t
     | _ => true))
  | _, _ => false
def Tab.okB (P : Program) (Δ : Tab) : Bool := Δ.all fun p => TD.okB P p.1 p.2
def Tab.Ok (P : Program) (Δ : Tab) : Prop := ∀ t d, lk Δ t = some d → TD.okB P t d = true
theorem Tab.ok_of {P : Program} {Δ : Tab} (h : Tab.okB P Δ = true) : Tab.Ok P Δ := by
  intro t d hl
  induction Δ with
  | nil => simp at hl
  | cons p l ih =>
    obtain ⟨a, x⟩ := p
    simp only [Tab.okB, List.all_cons, Bool.and_eq_true] at h
    rw [lk_cons] at hl
    by_cases he : a = t
    · rw [if_pos he] at hl; cases hl; exact he ▸ h.1
    · rw [if_neg he] at hl; exact ih h.2 hl

def TD.agg (d : TD) : Bool := match d.k with | .struct _ | .arr _ _ => true | _ => false

theorem TD.ok_spec {P : Program} {t : Nat} {d : TD} (h : TD.okB P t d = true) :
    ∃ i u, P.info? t = some i ∧ P.underlying t = some u ∧ i.size = d.size ∧ i.bytes = d.bytes ∧ d.k.fits u = true ∧ 0 < d.size := by
  unfold TD.okB at h
  split at h
  · rename_i i u h1 h2
    simp only [Bool.and_eq_true, decide_eq_true_eq] at h
    obtain ⟨⟨⟨⟨h3, h4⟩, h5⟩, h6⟩, _⟩ := h
    exact ⟨i, u, h1, h2, h3, h4, h5, h6⟩
  · cases h
theorem TD.ok_eq {P : Program} {t : Nat} {d : TD} (h : TD.okB P t d = true) {fs : List (Nat × Nat)} (hk : d.k = .struct fs) : P.stoodInHeld t = false ∧ P.eqGuardType P.depth t = false := by
  unfold TD.okB at h
  split at h
  · simp only [Bool.and_eq_true, decide_eq_true_eq] at h
    have h7 := h.2.2
    rw [hk] at h7
    simpa using h7
  · cases h
theorem TD.ok_zero {P : Program} {t : Nat} {d : TD} (h : TD.okB P t d = true) (hk : d.k ≠ .tup) (hf : d.k ≠ .fn) :
    ∃ i z, P.info? t = some i ∧ i.zero = some z ∧ zcells d.zero z.cells.toList = true := by
  unfold TD.okB at h
  split at h
  · rename_i i u h1 h2
    simp only [Bool.and_eq_true, decide_eq_true_eq] at h
    have h7 := h.2.1
    have h8 : (match i.zero with | some z => zcells d.zero z.cells.toList | none => false) = true := by
      revert h7
      generalize d.k = k at hk hf
      cases k <;> first | exact fun h => h | exact absurd rfl hk | exact absurd rfl hf
    cases hz : i.zero with
    | some z => rw [hz] at h8; exact ⟨i, z, h1, hz, h8⟩
    | none => rw [hz] at h8; cases h8
  · cases h

def leafConst : Value → Option AV
  | .int k n => some (.int k n)
  | .bool b => some (.bool b)
  | .string s => some (.str s)
  | .slice none 0 0 => some .emp
  | .pointer none => some .nilp
  | _ => none
def leafConsts : List Value → Option (List AV)
  | [] => some []
  | v :: vs => match leafConst v, leafConsts vs with | some x, some xs => some (x :: xs) | _, _ => none
def ofConst : Value → Option AV
  | .agg cs => match leafConsts cs.toList with | some xs => some (.agg xs) | none => none
  | v => leafConst v

def St.val (S : St) : Operand → Option AV
  | .tmp t => S.get t
  | .const v => ofConst v
  | .func f => some (.fn f [])
  | .global _ => none

def AV.isDeep : AV → Bool
  | .lptr .. | .own .. | .view .. | .sub .. | .eptr .. | .iter .. | .junk => false
  | _ => true
def AV.copyable : AV → Bool
  | .own .. | .iter .. | .junk => false
  | _ => true
def AV.leafNoRef : AV → Bool
  | .int .. | .bool _ | .str _ => true
  | _ => false
def AV.noRef : AV → Bool
  | .tup vs => vs.all AV.leafNoRef
  | .agg vs => vs.all AV.leafNoRef
  | x => x.leafNoRef

def AV.cells : AV → List AV
  | .agg cs => cs
  | x => [x]

def over (z : List AV) (off : Nat) (cs : List AV) : List AV := z.take off ++ cs ++ z.drop (off + cs.length)

def qmove (S : St) (x : Operand) (K : AV → Prop) : Prop :=
  match x, S.val x with
  | .tmp t, some (.own _ _) => K (.view (.t t))
  | _, some v => v.copyable = true ∧ K v
  | _, none => False

def St.slOf (S : St) : AV → Option (List (List AV))
  | .sl l => some l
  | .emp => some []
  | .view q => match S.ownAt q with | some (_, l) => some l | none => none
  | .sub q c lo hi => match S.ownAt q with | some (c', l) => bif Nat.beq c' c then some ((l.take hi).drop lo) else none | none => none
  | .own _ l => some l
  | _ => none

def St.argOf (S : St) (x : Operand) : Option AV :=
  match S.val x with
  | some v => bif v.isDeep then some v else match S.slOf v with | some l => some (.sl l) | none => none
  | none => none
def St.argsOf (S : St) : List Operand → Option (List AV)
  | [] => some []
  | x :: xs => match S.argOf x, S.argsOf xs with | some v, some vs => some (v :: vs) | _, _ => none
def St.deepArgs (S : St) : List Operand → Bool
  | [] => true
  | x :: xs => (match S.val x with | some v => v.isDeep | none => false) && S.deepArgs xs

def qcells (d : TD) (cs : List AV) (K : AV → Prop) : Prop :=
  bif d.agg then d.size ≤ cs.length ∧ K (.agg (cs.take d.size)) else match cs with | x :: _ => K x | [] => False

def qobj (d : TD) (q : Nat → Pl) (off : Nat) (cs : List AV) (K : AV → Prop) : Prop :=
  bif d.agg then (cs.drop off).length ≥ d.size ∧ ((cs.drop off).take d.size).all AV.isDeep = true ∧ K (.agg ((cs.drop off).take d.size))
  else match cs[off]? with
    | some (.own _ _) => K (.view (q off))
    | some v => v.isDeep = true ∧ K v
    | none => False

def qload (Δ : Tab) (S : St) (t : Nat) (x : Operand) (K : AV → Prop) : Prop :=
  match lk Δ t, S.val x with
  | some d, some (.ptrF cs) => qcells d cs K
  | some d, some (.lptr k off) => match lk S.loc k with | some cs => qobj d (fun j => .l k j) off cs K | none => False
  | some d, some (.ptr id off) => ∃ cs, S.G id = some cs ∧ qobj d (fun j => .g id j) off cs K
  | some d, some (.eptr q c i off) => match S.ownAt q with
    | some (c', l) => c' = c ∧ ∃ cs, l[i]? = some cs ∧ qcells d (cs.drop off) K
    | none => False
  | _, _ => False

def qfaddr (Δ : Tab) (S : St) (t : Nat) (x : Operand) (f : Nat) (K : AV → Prop) : Prop :=
  match lk Δ t with
  | some ⟨.struct fs, _, _, _⟩ => match fs[f]? with
    | some (o, ft) => (lk Δ ft).isSome = true ∧ match S.val x with
      | some (.ptrF cs) => K (.ptrF (cs.drop o))
      | some (.lptr k off) => K (.lptr k (off + o))
      | some (.ptr id off) => K (.ptr id (off + o))
      | some (.eptr q c i off) => (S.ownAt q).isSome = true ∧ K (.eptr q c i (off + o))
      | _ => False
    | none => False
  | _ => False

def qfield (Δ : Tab) (S : St) (t : Nat) (x : Operand) (f : Nat) (K : AV → Prop) : Prop :=
  match lk Δ t with
  | some ⟨.struct fs, _, _, _⟩ => match fs[f]? with
    | some (o, ft) => match lk Δ ft, S.val x with
      | some d, some (.agg cs) => qcells d (cs.drop o) K
      | _, _ => False
    | none => False
  | _ => False

def qiaddr (Δ : Tab) (S : St) (t : Nat) (x i : Operand) (K : AV → Prop) : Prop :=
  match lk Δ t, S.val i with
  | some ⟨.slice e, _, _, _⟩, some (.int _ n) => match lk Δ e with
    | some d => match x, S.val x with
      | _, some (.sl l) => 0 ≤ n ∧ ∃ cs, l[n.toNat]? = some cs ∧ cs.length = d.size ∧ K (.ptrF cs)
      | _, some (.view q) => match S.ownAt q with
        | some (c, l) => 0 ≤ n ∧ n.toNat < l.length ∧ c = d.size ∧ K (.eptr q c n.toNat 0)
        | none => False
      | .tmp u, some (.own c l) => 0 ≤ n ∧ n.toNat < l.length ∧ c = d.size ∧ K (.eptr (.t u) c n.toNat 0)
      | _, _ => False
    | none => False
  | some ⟨.arr len e, _, _, _⟩, some (.int _ n) => match lk Δ e with
    | some d => 0 ≤ n ∧ n.toNat < len ∧ match S.val x with
      | some (.ptrF cs) => K (.ptrF (cs.drop (n.toNat * d.size)))
      | some (.lptr k off) => K (.lptr k (off + n.toNat * d.size))
      | some (.ptr id off) => K (.ptr id (off + n.toNat * d.size))
      | some (.eptr q c i off) => (S.ownAt q).isSome = true ∧ K (.eptr q c i (off + n.toNat * d.size))
      | _ => False
    | none => False
  | _, _ => False

def qindex (Δ : Tab) (S : St) (t : Nat) (x i : Operand) (K : AV → Prop) : Prop :=
  match lk Δ t, S.val x, S.val i with
  | some ⟨.str, _, _, _⟩, some (.str s), some (.int _ n) => 0 ≤ n ∧ ∃ b, s[n.toNat]? = some b ∧ K (.int .u8 b.toNat)
  | some ⟨.arr len e, _, _, _⟩, some (.agg cs), some (.int _ n) => match lk Δ e with
    | some d => 0 ≤ n ∧ n.toNat < len ∧ qcells d (cs.drop (n.toNat * d.size)) K
    | none => False
  | _, _, _ => False

def bound (S : St) (dflt : Nat) : Option Operand → (Nat → Prop) → Prop
  | none, K => K dflt
  | some x, K => match S.val x with | some (.int _ n) => 0 ≤ n ∧ K n.toNat | _ => False

def qslice (Δ : Tab) (S : St) (t : Nat) (x : Operand) (lo hi mx : Option Operand) (K : AV → Prop) : Prop :=
  match mx with
  | some _ => False
  | none => match lk Δ t with
    | some ⟨.str, _, _, _⟩ => match S.val x with
      | some (.str s) => bound S s.size hi fun h => bound S 0 lo fun l => h ≤ s.size ∧ l ≤ h ∧ K (.str (s.extract l h))
      | _ => False
    | some ⟨.slice e, _, _, _⟩ => match lk Δ e with
      | some d => match x, S.val x with
        | _, some (.sl es) => bound S es.length hi fun h => bound S 0 lo fun l => h ≤ es.length ∧ l ≤ h ∧ (∀ cs ∈ es, cs.length = d.size) ∧ K (.sl ((es.take h).drop l))
        | _, some .emp => bound S 0 hi fun h => bound S 0 lo fun l => h = 0 ∧ l = 0 ∧ K .emp
        | _, some (.view q) => match S.ownAt q with
          | some (c, es) => bound S es.length hi fun h => bound S 0 lo fun l => h ≤ es.length ∧ l ≤ h ∧ c = d.size ∧ K (.sub q c l h)
          | none => False
        | .tmp u, some (.own c es) => bound S es.length hi fun h => bound S 0 lo fun l => h ≤ es.length ∧ l ≤ h ∧ c = d.size ∧ K (.sub (.t u) c l h)
        | _, _ => False
      | none => False
    | _ => False

def fillB (S : St) (place : Nat → Option (Nat × Nat)) : List AV → List (Nat × Operand) → Option (List AV)
  | z, [] => some z
  | z, (i, x) :: r => match place i, S.val x with
    | some (off, n), some v => bif v.isDeep && Nat.beq v.cells.length n && Nat.ble (off + n) z.length then fillB S place (over z off v.cells) r else none
    | _, _ => none

def places (Δ : Tab) (fs : List (Nat × Nat)) (i : Nat) : Option (Nat × Nat) :=
  match fs[i]? with
  | some (o, ft) => match lk Δ ft with | some d => some (o, d.size) | none => none
  | none => none

def qbuild (Δ : Tab) (S : St) (t : Nat) (parts : List (Nat × Operand)) (K : AV → Prop) : Prop :=
  match lk Δ t with
  | some ⟨.struct fs, _, _, z⟩ => (fs.all fun f => (lk Δ f.2).isSome) = true ∧ match fillB S (places Δ fs) z parts with | some cs => K (.agg cs) | none => False
  | some ⟨.arr n e, _, _, z⟩ => match lk Δ e with
    | some d => match fillB S (fun i => some (i * d.size, d.size)) z parts with | some cs => K (.agg cs) | none => False
    | none => False
  | _ => False

def zeros (z : List AV) : Nat → List AV
  | 0 => []
  | n + 1 => z ++ zeros z n
def chop (c : Nat) : Nat → List AV → List (List AV)
  | 0, _ => []
  | n + 1, l => l.take c :: chop c n (l.drop c)

def qbslice (Δ : Tab) (S : St) (t n : Nat) (parts : List (Nat × Operand)) (K : AV → Prop) : Prop :=
  match lk Δ t with
  | some ⟨.slice e, _, _, _⟩ => match lk Δ e with
    | some d => match n with
      | 0 => parts = [] ∧ K .emp
      | n + 1 => (n + 1) * d.size ≤ 16777216 ∧ d.zero.length = d.size ∧ (match d.k with | .tup | .fn => False | _ => True) ∧
        match fillB S (fun i => some (i * d.size, d.size)) (zeros d.zero (n + 1)) parts with | some cs => K (.sl (chop d.size (n + 1) cs)) | none => False
    | none => False
  | _ => False

def qint (op : BinOp) (k : IntKind) (a b : Int) (K : AV → Prop) : Prop :=
  match op with
  | .add => K (.int k (k.wrap (a + b)))
  | .sub => K (.int k (k.wrap (a - b)))
  | .mul => K (.int k (k.wrap (a * b)))
  | .quo => b ≠ 0 ∧ K (.int k (k.wrap (a.tdiv b)))
  | .rem => b ≠ 0 ∧ K (.int k (a.tmod b))
  | .and => K (.int k (k.wrap (BitVec.ofInt k.bits a &&& BitVec.ofInt k.bits b).toNat))
  | .or => K (.int k (k.wrap (BitVec.ofInt k.bits a ||| BitVec.ofInt k.bits b).toNat))
  | .xor => K (.int k (k.wrap (BitVec.ofInt k.bits a ^^^ BitVec.ofInt k.bits b).toNat))
  | .andNot => K (.int k (k.wrap (BitVec.ofInt k.bits a &&& ~~~BitVec.ofInt k.bits b).toNat))
  | .eql => K (.bool (decide (a = b)))
  | .neq => K (.bool (!decide (a = b)))
  | .lss => K (.bool (decide (a < b)))
  | .leq => K (.bool (decide (a ≤ b)))
  | .gtr => K (.bool (decide (b < a)))
  | .geq => K (.bool (decide (b ≤ a)))
  | _ => False

def qstr (op : BinOp) (a b : ByteArray) (K : AV → Prop) : Prop :=
  match op with
  | .add => a.size + b.size ≤ 9223372036854775807 ∧ K (.str (a ++ b))
  | .eql => K (.bool (decide (a = b)))
  | .neq => K (.bool (!decide (a = b)))
  | .lss => K (.bool (Op.bytesLess a.toList b.toList))
  | _ => False

def eqK : TK → AV → AV → Option Bool
  | .int _, .int k a, .int k' b => bif decide (k = k') then some (decide (a = b)) else none
  | .bool, .bool a, .bool b => some (a == b)
  | .str, .str a, .str b => some (decide (a = b))
  | _, _, _ => none
def eqFs (Δ : Tab) (xs ys : List AV) : List (Nat × Nat) → Option Bool
  | [] => some true
  | (o, ft) :: r => match lk Δ ft, xs[o]?, ys[o]? with
    | some d, some x, some y => match eqK d.k x y, eqFs Δ xs ys r with | some a, some b => some (a && b) | _, _ => none
    | _, _, _ => none

def St.isPtr (S : St) : AV → Bool
  | .ptrF _ | .ptr .. | .lptr .. => true
  | .eptr q _ _ _ => (S.ownAt q).isSome
  | _ => false

def qbin (Δ : Tab) (S : St) (op : BinOp) (t : Nat) (vx vy : Option AV) (K : AV → Prop) : Prop :=
  match vx, vy with
  | some (.int k a), some (.int k' b) => match op with
    | .shl => 0 ≤ b ∧ K (.int k (k.wrap (a * 2 ^ (min b.toNat k.bits))))
    | .shr => 0 ≤ b ∧ K (.int k (a.fdiv (2 ^ (min b.toNat k.bits))))
    | _ => k = k' ∧ qint op k a b K
  | some (.str a), some (.str b) => qstr op a b K
  | some .nilp, some .nilp => match lk Δ t, op with | some ⟨.ptr, _, _, _⟩, .eql => K (.bool true) | some ⟨.ptr, _, _, _⟩, .neq => K (.bool false) | _, _ => False
  | some (.bool a), some (.bool b) => match lk Δ t, op with | some ⟨.bool, _, _, _⟩, .eql => K (.bool (a == b)) | some ⟨.bool, _, _, _⟩, .neq => K (.bool (!(a == b))) | _, _ => False
  | some (.agg xs), some (.agg ys) => match lk Δ t, op with
    | some ⟨.struct fs, _, _, _⟩, .eql => match eqFs Δ xs ys fs with | some b => K (.bool b) | none => False
    | some ⟨.struct fs, _, _, _⟩, .neq => match eqFs Δ xs ys fs with | some b => K (.bool (!b)) | none => False
    | _, _ => False
  | some x, some .nilp => S.isPtr x = true ∧ match lk Δ t, op with | some ⟨.ptr, _, _, _⟩, .eql => K (.bool false) | some ⟨.ptr, _, _, _⟩, .neq => K (.bool true) | _, _ => False
  | _, _ => False

def qlen (Δ : Tab) (S : St) (t : Nat) (x : Operand) (K : AV → Prop) : Prop :=
  match lk Δ t, S.val x with
  | some ⟨.str, _, _, _⟩, some (.str s) => K (.int .i64 s.size)
  | some ⟨.slice _, _, _, _⟩, some v => match S.slOf v with | some l => K (.int .i64 l.length) | none => False
  | _, _ => False

def qmm (mx : Bool) (vs : List (Option AV)) (K : AV → Prop) : Prop :=
  match vs with
  | [some (.int k a)] => K (.int k a)
  | [some (.int k a), some (.int _ b)] => K (.int k (bif mx then max a b else min a b))
  | [some (.int k a), some (.int _ b), some (.int _ c)] => K (.int k (bif mx then max (max a b) c else min (min a b) c))
  | _ => False

def qconv (Δ : Tab) (dst : Nat) (v : Option AV) (K : AV → Prop) : Prop :=
  match lk Δ dst, v with
  | some ⟨.int k, _, _, _⟩, some (.int _ n) => K (.int k (k.wrap n))
  | some ⟨.str, _, _, _⟩, some (.str s) => K (.str s)
  | _, _ => False

def qun (op : UnOp) (v : Option AV) (K : AV → Prop) : Prop :=
  match op, v with
  | .not, some (.bool b) => K (.bool (!b))
  | .neg, some (.int k n) => K (.int k (k.wrap (-n)))
  | _, _ => False
end Go.AL
end
section
set_option linter.unusedVariables false
set_option linter.unusedSimpArgs false
namespace Go.AL

def emptyAct : Act := { tmps := #[], defers := [] }

structure Fr (qt : Bool) (X0 : Ctx) (w0 : World) (X : Ctx) (w : World) : Prop where
  os : w.os = w0.os
  tape : w.tape = w0.tape
  output : w.output = w0.output
  size : w0.heap.size ≤ w.heap.size
  keep : ∀ b, b < w0.heap.size → (qt = true ∨ X0.O b = none) → w.heap[b]? = w0.heap[b]? ∧ X.O b = X0.O b ∧ (X.Fz b → X0.Fz b)
  fz : ∀ b, X0.Fz b → X.Fz b
  D : ∀ i b, X0.D i = some b → X.D i = some b
  fin : ∃ M, ∀ i, M ≤ i → X.D i = none

def Gonly (X : Ctx) : Prop := ∀ b p, X.O b = some p → (∃ id, p = .gobj id) ∨ (∃ id off, p = .row (.g id off))

def Rr (X : Ctx) (w : World) : AV → Value → Prop
  | .own c l, v => OwnV X w .res c l v
  | x, v => Rv X.Fz X.D w x v

structure Does (P : Program) (qt : Bool) (f : FuncId) (args : List AV) (G : Objs) (Post : AV → Objs → Prop) : Prop where
  call : ∀ (vals : Array Value) (w : World), (callFunc f vals).run P w = .ok (.enter f vals) w
  run : ∀ (w : World) (vals : Array Value) (X : Ctx), RX X ⟨[], [], G⟩ emptyAct w → Gonly X → (∃ M, ∀ i, M ≤ i → X.D i = none) → vals.size = args.length →
    (∀ (i : Nat) (x : AV), args[i]? = some x → Rv X.Fz X.D w x (vals.getD i undef)) →
    Calls P f vals w fun e w' => ∃ v r G' X', e = .returned v ∧ Post r G' ∧ (qt = true → G' = G) ∧ Rr X' w' r v ∧ RX X' ⟨[], [], G'⟩ emptyAct w' ∧ Fr qt X w X' w' ∧
      (∀ b p, X'.O b = some p → (∃ id, p = .gobj id) ∨ (∃ id off, p = .row (.g id off)) ∨ (p = .row .res ∧ (w.heap.size ≤ b ∨ X.O b ≠ none)))

theorem Does.mono {P : Program} {qt : Bool} {f : FuncId} {args : List AV} {G : Objs} {Post Post' : AV → Objs → Prop} (h : Does P qt f args G Post) (hp : ∀ r G', Post r G' → Post' r G') :
    Does P qt f args G Post' := ⟨h.call, fun w vals X h1 h2 h3 h4 h5 =>
  (h.run w vals X h1 h2 h3 h4 h5).mono fun e w' ⟨v, r, G', X', e1, e2, e3⟩ => ⟨v, r, G', X', e1, hp _ _ e2, e3⟩⟩

def frzc : AV → AV
  | .own _ l => .sl l
  | x => x
def frzG (G : Objs) : Objs := fun i => match G i with | some cs => some (cs.map frzc) | none => none

def qcall (P : Program) (S : St) (f : FuncId) (args : List Operand) (K : AV → Prop) : Prop :=
  match S.argsOf args with
  | some vs => ∃ r, Does P true f vs (bif S.deepArgs args then S.G else frzG S.G) (fun r' _ => r' = r) ∧ r.copyable = true ∧ (S.deepArgs args = true ∨ r.noRef = true) ∧ K r
  | none => False

def qop (P : Program) (Δ : Tab) (S : St) (op : Op) (K : AV → Prop) : Prop :=
  match op with
  | .move x => qmove S x K
  | .assign x => qmove S x K
  | .pick c a b => match S.val c with
    | some (.bool p) => match S.val a, S.val b with
      | some (.bool x), some (.bool y) => K (.bool (bif p then x else y))
      | _, _ => (p = true → qmove S a K) ∧ (p = false → qmove S b K)
    | _ => False
  | .build t ps => qbuild Δ S t ps.toList K
  | .buildSlice t n ps => qbslice Δ S t n ps.toList K
  | .load t x => qload Δ S t x K
  | .nilCheck x => match S.val x with | some v => S.isPtr v = true ∧ K v | none => False
  | .binOp op t x y _ => qbin Δ S op t (S.val x) (S.val y) K
  | .unOp op _ x => qun op (S.val x) K
  | .convert s d x => (lk Δ s).isSome = true ∧ qconv Δ d (S.val x) K
  | .makeFunc (.func f) fi cs => fi.toList = [] ∧ S.deepArgs cs.toList = true ∧ match S.argsOf cs.toList with | some vs => K (.fn f vs) | none => False
  | .slice t x lo hi mx => qslice Δ S t x lo hi mx K
  | .fieldAddr t x f => qfaddr Δ S t x f K
  | .field t x f => qfield Δ S t x f K
  | .indexAddr t x i => qiaddr Δ S t x i K
  | .index t x i => qindex Δ S t x i K
  | .extract x i => match S.val x with | some (.tup vs) => ∃ v, vs[i]? = some v ∧ K v | _ => False
  | .call c => match c.callee with
    | .builtin .len => match c.args.toList, c.argTypes.toList with | [x], [t] => qlen Δ S t x K | _, _ => False
    | .builtin .max => qmm true (c.args.toList.map S.val) K
    | .builtin .min => qmm false (c.args.toList.map S.val) K
    | .value (.func f) => qcall P S f c.args.toList K
    | _ => False
  | _ => False

theorem qmove_pt {S : St} {x : Operand} {K : AV → Prop} (h : qmove S x K) : ∃ v, K v ∧ qmove S x (· = v) := by
  unfold qmove at *
  split at h
  · exact ⟨_, h, rfl⟩
  · exact ⟨_, h.2, h.1, rfl⟩
  · exact h.elim
theorem qcells_pt {d : TD} {cs : List AV} {K : AV → Prop} (h : qcells d cs K) : ∃ v, K v ∧ qcells d cs (· = v) := by
  unfold qcells at *
  cases hd : d.agg
  · rw [hd] at h
    simp only [cond_false] at *
    split at h
    · exact ⟨_, h, rfl⟩
    · exact h.elim
  · rw [hd] at h
    simp only [cond_true] at *
    exact ⟨_, h.2, h.1, rfl⟩
theorem qobj_pt {d : TD} {q : Nat → Pl} {off : Nat} {cs : List AV} {K : AV → Prop} (h : qobj d q off cs K) : ∃ v, K v ∧ qobj d q off cs (· = v) := by
  unfold qobj at *
  cases hd : d.agg
  · rw [hd] at h
    simp only [cond_false] at *
    split at h
    · exact ⟨_, h, rfl⟩
    · exact ⟨_, h.2, h.1, rfl⟩
    · exact h.elim
  · rw [hd] at h
    simp only [cond_true] at *
    exact ⟨_, h.2.2, h.1, h.2.1, rfl⟩
theorem qload_pt {Δ : Tab} {S : St} {t : Nat} {x : Operand} {K : AV → Prop} (h : qload Δ S t x K) : ∃ v, K v ∧ qload Δ S t x (· = v) := by
  unfold qload at *
  split at h
  · exact qcells_pt h
  · split at h
    · exact qobj_pt h
    · exact h.elim
  · obtain ⟨cs, h1, h2⟩ := h
    obtain ⟨v, g1, g2⟩ := qobj_pt h2
    exact ⟨v, g1, cs, h1, g2⟩
  · split at h
    · obtain ⟨h0, cs, h1, h2⟩ := h
      obtain ⟨v, g1, g2⟩ := qcells_pt h2
      exact ⟨v, g1, h0, cs, h1, g2⟩
    · exact h.elim
  · exact h.elim
theorem bound_pt {S : St} {d : Nat} {x : Option Operand} {K : Nat → Prop} (h : bound S d x K) : ∃ n, K n ∧ ∀ K' : Nat → Prop, K' n → bound S d x K' := by
  unfold bound at *
  split at h
  · exact ⟨_, h, fun _ h => h⟩
  · split at h
    · exact ⟨_, h.2, fun _ h' => ⟨h.1, h'⟩⟩
    · exact h.elim
theorem qslice_pt {Δ : Tab} {S : St} {t : Nat} {x : Operand} {lo hi mx : Option Operand} {K : AV → Prop} (h : qslice Δ S t x lo hi mx K) : ∃ v, K v ∧ qslice Δ S t x lo hi mx (· = v) := by
  unfold qslice at *
  split at h
  · exact h.elim
  · split at h
    · split at h
      · obtain ⟨n, h1, h2⟩ := bound_pt h
        obtain ⟨m, h3, h4⟩ := bound_pt h1
        exact ⟨_, h3.2.2, h2 _ (h4 _ ⟨h3.1, h3.2.1, rfl⟩)⟩
      · exact h.elim
    · split at h
      · split at h
        · obtain ⟨n, h1, h2⟩ := bound_pt h
          obtain ⟨m, h3, h4⟩ := bound_pt h1
          exact ⟨_, h3.2.2.2, h2 _ (h4 _ ⟨h3.1, h3.2.1, h3.2.2.1, rfl⟩)⟩
        · obtain ⟨n, h1, h2⟩ := bound_pt h
          obtain ⟨m, h3, h4⟩ := bound_pt h1
          exact ⟨_, h3.2.2, h2 _ (h4 _ ⟨h3.1, h3.2.1, rfl⟩)⟩
        · split at h
          · obtain ⟨n, h1, h2⟩ := bound_pt h
            obtain ⟨m, h3, h4⟩ := bound_pt h1
            exact ⟨_, h3.2.2.2, h2 _ (h4 _ ⟨h3.1, h3.2.1, h3.2.2.1, rfl⟩)⟩
          · exact h.elim
        · obtain ⟨n, h1, h2⟩ := bound_pt h
          obtain ⟨m, h3, h4⟩ := bound_pt h1
          exact ⟨_, h3.2.2.2, h2 _ (h4 _ ⟨h3.1, h3.2.1, h3.2.2.1, rfl⟩)⟩
        · exact h.elim
      · exact h.elim
    · exact h.elim
theorem qfaddr_pt {Δ : Tab} {S : St} {t : Nat} {x : Operand} {f : Nat} {K : AV → Prop} (h : qfaddr Δ S t x f K) : ∃ v, K v ∧ qfaddr Δ S t x f (· = v) := by
  unfold qfaddr at *
  split at h
  · split at h
    · obtain ⟨h0, h⟩ := h
      split at h <;> first | exact ⟨_, h, h0, rfl⟩ | exact ⟨_, h.2, h0, h.1, rfl⟩ | exact h.elim
    · exact h.elim
  · exact h.elim
theorem qfield_pt {Δ : Tab} {S : St} {t : Nat} {x : Operand} {f : Nat} {K : AV → Prop} (h : qfield Δ S t x f K) : ∃ v, K v ∧ qfield Δ S t x f (· = v) := by
  unfold qfield at *
  split at h
  · split at h
    · split at h
      · exact qcells_pt h
      · exact h.elim
    · exact h.elim
  · exact h.elim
theorem qiaddr_pt {Δ : Tab} {S : St} {t : Nat} {x i : Operand} {K : AV → Prop} (h : qiaddr Δ S t x i K) : ∃ v, K v ∧ qiaddr Δ S t x i (· = v) := by
  unfold qiaddr at *
  split at h
  · split at h
    · split at h
      · obtain ⟨h1, cs, h2, h3, h4⟩ := h; exact ⟨_, h4, h1, cs, h2, h3, rfl⟩
      · split at h
        · obtain ⟨h1, h2, h3, h4⟩ := h; exact ⟨_, h4, h1, h2, h3, rfl⟩
        · exact h.elim
      · obtain ⟨h1, h2, h3, h4⟩ := h; exact ⟨_, h4, h1, h2, h3, rfl⟩
      · exact h.elim
    · exact h.elim
  · split at h
    · obtain ⟨h1, h2, h⟩ := h
      split at h <;> first | exact ⟨_, h, h1, h2, rfl⟩ | exact ⟨_, h.2, h1, h2, h.1, rfl⟩ | exact h.elim
    · exact h.elim
  · exact h.elim
theorem qindex_pt {Δ : Tab} {S : St} {t : Nat} {x i : Operand} {K : AV → Prop} (h : qindex Δ S t x i K) : ∃ v, K v ∧ qindex Δ S t x i (· = v) := by
  unfold qindex at *
  split at h
  · obtain ⟨h1, b, h2, h3⟩ := h; exact ⟨_, h3, h1, b, h2, rfl⟩
  · split at h
    · obtain ⟨h1, h2, h⟩ := h
      obtain ⟨v, g1, g2⟩ := qcells_pt h
      exact ⟨v, g1, h1, h2, g2⟩
    · exact h.elim
  · exact h.elim
theorem qbuild_pt {Δ : Tab} {S : St} {t : Nat} {ps : List (Nat × Operand)} {K : AV → Prop} (h : qbuild Δ S t ps K) : ∃ v, K v ∧ qbuild Δ S t ps (· = v) := by
  unfold qbuild at *
  split at h
  · obtain ⟨h0, h⟩ := h
    split at h
    · exact ⟨_, h, h0, rfl⟩
    · exact h.elim
  · split at h
    · split at h
      · exact ⟨_, h, rfl⟩
      · exact h.elim
    · exact h.elim
  · exact h.elim
theorem qbslice_pt {Δ : Tab} {S : St} {t n : Nat} {ps : List (Nat × Operand)} {K : AV → Prop} (h : qbslice Δ S t n ps K) : ∃ v, K v ∧ qbslice Δ S t n ps (· = v) := by
  unfold qbslice at *
  split at h
  · split at h
    · split at h
      · exact ⟨_, h.2, h.1, rfl⟩
      · obtain ⟨h1, h2, h3, h⟩ := h
        split at h
        · exact ⟨_, h, h1, h2, h3, rfl⟩
        · exact h.elim
    · exact h.elim
  · exact h.elim
theorem qint_pt {op : BinOp} {k : IntKind} {a b : Int} {K : AV → Prop} (h : qint op k a b K) : ∃ v, K v ∧ qint op k a b (· = v) := by
  unfold qint at *
  split at h <;> first | exact ⟨_, h, rfl⟩ | exact ⟨_, h.2, h.1, rfl⟩ | exact h.elim
theorem qstr_pt {op : BinOp} {a b : ByteArray} {K : AV → Prop} (h : qstr op a b K) : ∃ v, K v ∧ qstr op a b (· = v) := by
  unfold qstr at *
  split at h <;> first | exact ⟨_, h, rfl⟩ | exact ⟨_, h.2, h.1, rfl⟩ | exact h.elim
theorem qbin_pt {Δ : Tab} {S : St} {op : BinOp} {t : Nat} {vx vy : Option AV} {K : AV → Prop} (h : qbin Δ S op t vx vy K) : ∃ v, K v ∧ qbin Δ S op t vx vy (· = v) := by
  unfold qbin at *
  split at h
  · split at h
    · exact ⟨_, h.2, h.1, rfl⟩
    · exact ⟨_, h.2, h.1, rfl⟩
    · obtain ⟨h1, h2⟩ := h
      obtain ⟨v, g1, g2⟩ := qint_pt h2
      exact ⟨v, g1, h1, g2⟩
  · exact qstr_pt h
  · split at h <;> first | exact ⟨_, h, rfl⟩ | exact h.elim
  · split at h <;> first | exact ⟨_, h, rfl⟩ | exact h.elim
  · split at h
    · split at h <;> first | exact ⟨_, h, rfl⟩ | exact h.elim
    · split at h <;> first | exact ⟨_, h, rfl⟩ | exact h.elim
    · exact h.elim
  · obtain ⟨h0, h⟩ := h
    split at h <;> first | exact ⟨_, h, h0, rfl⟩ | exact h.elim
  · exact h.elim
theorem qlen_pt {Δ : Tab} {S : St} {t : Nat} {x : Operand} {K : AV → Prop} (h : qlen Δ S t x K) : ∃ v, K v ∧ qlen Δ S t x (· = v) := by
  unfold qlen at *
  split at h
  · exact ⟨_, h, rfl⟩
  · split at h
    · exact ⟨_, h, rfl⟩
    · exact h.elim
  · exact h.elim
theorem qmm_pt {mx : Bool} {vs : List (Option AV)} {K : AV → Prop} (h : qmm mx vs K) : ∃ v, K v ∧ qmm mx vs (· = v) := by
  unfold qmm at *
  split at h <;> first | exact ⟨_, h, rfl⟩ | exact h.elim
theorem qconv_pt {Δ : Tab} {d : Nat} {x : Option AV} {K : AV → Prop} (h : qconv Δ d x K) : ∃ v, K v ∧ qconv Δ d x (· = v) := by
  unfold qconv at *
  split at h <;> first | exact ⟨_, h, rfl⟩ | exact h.elim
theorem qun_pt {op : UnOp} {x : Option AV} {K : AV → Prop} (h : qun op x K) : ∃ v, K v ∧ qun op x (· = v) := by
  unfold qun at *
  split at h <;> first | exact ⟨_, h, rfl⟩ | exact h.elim
theorem qcall_pt {P : Program} {S : St} {f : FuncId} {xs : List Operand} {K : AV → Prop} (h : qcall P S f xs K) : ∃ v, K v ∧ qcall P S f xs (· = v) := by
  unfold qcall at *
  split at h
  · obtain ⟨r, h1, h2, h3, h4⟩ := h; exact ⟨r, h4, r, h1, h2, h3, rfl⟩
  · exact h.elim

theorem qop_pt {P : Program} {Δ : Tab} {S : St} {op : Op} {K : AV → Prop} (h : qop P Δ S op K) : ∃ v, K v ∧ qop P Δ S op (· = v) := by
  unfold qop at *
  split at h
  · exact qmove_pt h
  · exact qmove_pt h
  · split at h
    · rename_i p _
      split at h
      · exact ⟨_, h, rfl⟩
      · cases p
        · obtain ⟨v, g1, g2⟩ := qmove_pt (h.2 rfl); exact ⟨v, g1, fun h => (by cases h), fun _ => g2⟩
        · obtain ⟨v, g1, g2⟩ := qmove_pt (h.1 rfl); exact ⟨v, g1, fun _ => g2, fun h => (by cases h)⟩
    · exact h.elim
  · exact qbuild_pt h
  · exact qbslice_pt h
  · exact qload_pt h
  · split at h
    · exact ⟨_, h.2, h.1, rfl⟩
    · exact h.elim
  · exact qbin_pt h
  · exact qun_pt h
  · obtain ⟨v, g1, g2⟩ := qconv_pt h.2; exact ⟨v, g1, h.1, g2⟩
  · obtain ⟨h1, h2, h⟩ := h
    split at h
    · exact ⟨_, h, h1, h2, rfl⟩
    · exact h.elim
  · exact qslice_pt h
  · exact qfaddr_pt h
  · exact qfield_pt h
  · exact qiaddr_pt h
  · exact qindex_pt h
  · split at h
    · obtain ⟨v, h1, h2⟩ := h; exact ⟨v, h2, v, h1, rfl⟩
    · exact h.elim
  · split at h
    · split at h
      · exact qlen_pt h
      · exact h.elim
    · exact qmm_pt h
    · exact qmm_pt h
    · exact qcall_pt h
    · exact h.elim
  · exact h.elim
end Go.AL
end
section
set_option linter.unusedVariables false
set_option linter.unusedSimpArgs false
set_option linter.unusedSectionVars false
namespace Go.AL

section inv
variable {Fz : Nat → Prop} {D : Nat → Option Nat} {w : World} {u : Value}
theorem Rv.int_inv {k : IntKind} {n : Int} (h : Rv Fz D w (.int k n) u) : u = .int k n := by cases h; rfl
theorem Rv.bool_inv {b : Bool} (h : Rv Fz D w (.bool b) u) : u = .bool b := by cases h; rfl
theorem Rv.str_inv {s : ByteArray} (h : Rv Fz D w (.str s) u) : u = .string s := by cases h; rfl
theorem Rv.nilp_inv (h : Rv Fz D w .nilp u) : u = .pointer none := by cases h; rfl
theorem Rv.emp_inv (h : Rv Fz D w .emp u) : ∃ a, u = .slice a 0 0 := by cases h; exact ⟨_, rfl⟩
theorem Rv.ptr_inv {i off : Nat} (h : Rv Fz D w (.ptr i off) u) : ∃ b, D i = some b ∧ u = .pointer (some ⟨b, off, none⟩) := by cases h; exact ⟨_, by assumption, rfl⟩
theorem Rv.agg_inv {cs : List AV} (h : Rv Fz D w (.agg cs) u) : ∃ vs : Array Value, u = .agg vs ∧ cs.length = vs.size ∧ ∀ (j : Nat) (x : AV) (v : Value), cs[j]? = some x → vs[j]? = some v → Rv Fz D w x v := by
  cases h; exact ⟨_, rfl, by assumption, by assumption⟩
theorem Rv.tup_inv {cs : List AV} (h : Rv Fz D w (.tup cs) u) : ∃ vs : Array Value, u = .tuple vs ∧ cs.length = vs.size ∧ ∀ (j : Nat) (x : AV) (v : Value), cs[j]? = some x → vs[j]? = some v → Rv Fz D w x v := by
  cases h; exact ⟨_, rfl, by assumption, by assumption⟩
theorem Rv.ptrF_inv {cs : List AV} (h : Rv Fz D w (.ptrF cs) u) : ∃ (b off : Nat) (f : Nat → Value), u = .pointer (some ⟨b, off, none⟩) ∧ Fz b ∧
    (∀ (k : Nat) (x : AV), cs[k]? = some x → w.cell? ⟨b, off + k, none⟩ = some (f k)) ∧ ∀ (k : Nat) (x : AV), cs[k]? = some x → Rv Fz D w x (f k) := by
  cases h; exact ⟨_, _, _, rfl, by assumption, by assumption, by assumption⟩
theorem Rv.fn_inv {f : FuncId} {cs : List AV} (h : Rv Fz D w (.fn f cs) u) : ∃ vs : Array Value, u = .func (.func f) #[] vs ∧ cs.length = vs.size ∧ ∀ (j : Nat) (x : AV) (v : Value), cs[j]? = some x → vs[j]? = some v → Rv Fz D w x v := by
  cases h; exact ⟨_, rfl, by assumption, by assumption⟩
def SlV (Fz : Nat → Prop) (D : Nat → Option Nat) (w : World) (l : List (List AV)) (u : Value) : Prop :=
  ∃ (A : Option Addr) (cap : Nat), u = .slice A l.length cap ∧ l.length ≤ cap ∧ (l ≠ [] → ∃ (b off c : Nat) (f : Nat → Value), A = some ⟨b, off, none⟩ ∧ Fz b ∧ (∀ es ∈ l, es.length = c) ∧
    (∀ (k : Nat) (x : AV), l.flatten[k]? = some x → w.cell? ⟨b, off + k, none⟩ = some (f k)) ∧ ∀ (k : Nat) (x : AV), l.flatten[k]? = some x → Rv Fz D w x (f k))
theorem Rv.sl_inv {l : List (List AV)} (h : Rv Fz D w (.sl l) u) : SlV Fz D w l u := by
  cases h with
  | sl0 a cap => exact ⟨a, cap, rfl, Nat.zero_le _, fun h => absurd rfl h⟩
  | sl _ b off cap c f hz hl hw hc hr => exact ⟨_, cap, rfl, hl, fun _ => ⟨b, off, c, f, rfl, hz, hw, hc, hr⟩⟩
theorem SlV.mk {l : List (List AV)} (h : SlV Fz D w l u) : Rv Fz D w (.sl l) u := by
  obtain ⟨A, cap, rfl, hl, h⟩ := h
  by_cases h0 : l = []
  · subst h0; exact .sl0 A cap
  · obtain ⟨b, off, c, f, rfl, hz, hw, hc, hr⟩ := h h0
    exact .sl l b off cap c f hz hl hw hc hr
end inv

theorem Rp.deep {X : Ctx} {S : St} {a : Act} {w : World} {p : Pl} {x : AV} {v : Value} (hd : x.isDeep = true) : Rp X S a w p x v ↔ Rv X.Fz X.D w x v := by
  cases x <;> first | exact Iff.rfl | cases hd
theorem Rp.res {X : Ctx} {S : St} {a : Act} {w : World} {p q : Pl} {x : AV} {v : Value} (hd : x.copyable = true) (h : Rp X S a w p x v) : Rp X S a w q x v := by
  cases x <;> first | exact h | cases hd

theorem leafConst_ok {v : Value} {x : AV} (h : leafConst v = some x) (Fz : Nat → Prop) (D : Nat → Option Nat) (w : World) : Rv Fz D w x v ∧ x.isDeep = true := by
  unfold leafConst at h
  split at h <;> cases h
  · exact ⟨.int _ _, rfl⟩
  · exact ⟨.bool _, rfl⟩
  · exact ⟨.str _, rfl⟩
  · exact ⟨.emp _, rfl⟩
  · exact ⟨.nilp, rfl⟩
theorem leafConsts_ok {vs : List Value} : ∀ {xs : List AV}, leafConsts vs = some xs → ∀ (Fz : Nat → Prop) (D : Nat → Option Nat) (w : World),
    xs.length = vs.length ∧ ∀ (j : Nat) (x : AV) (v : Value), xs[j]? = some x → vs[j]? = some v → Rv Fz D w x v := by
  induction vs with
  | nil => intro xs h Fz D w; simp [leafConsts] at h; subst h; exact ⟨rfl, fun j x v h => by simp at h⟩
  | cons v vs ih =>
    intro xs h Fz D w
    simp only [leafConsts] at h
    split at h
    · rename_i x ys h1 h2
      cases h
      obtain ⟨g1, g2⟩ := ih h2 Fz D w
      refine ⟨by simp [g1], fun j x' v' hx hv => ?_⟩
      cases j with
      | zero => simp at hx hv; subst hx; subst hv; exact (leafConst_ok h1 Fz D w).1
      | succ j => exact g2 j x' v' (by simpa using hx) (by simpa using hv)
    · cases h
theorem ofConst_ok {v : Value} {x : AV} (h : ofConst v = some x) (Fz : Nat → Prop) (D : Nat → Option Nat) (w : World) : Rv Fz D w x v ∧ x.isDeep = true := by
  unfold ofConst at h
  split at h
  · split at h
    · rename_i xs h1
      cases h
      obtain ⟨g1, g2⟩ := leafConsts_ok h1 Fz D w
      exact ⟨.agg _ _ (by simpa using g1) (fun j x v hx hv => g2 j x v hx (by simpa using hv)), rfl⟩
    · cases h
  · exact leafConst_ok h Fz D w

theorem RX.ev {X : Ctx} {S : St} {a : Act} {w : World} (h : RX X S a w) {x : Operand} {v : AV} (hv : S.val x = some v) :
    ∃ p, Rp X S a w p v (a.eval x) ∧ ∀ t, x = .tmp t → p = .t t := by
  cases x with
  | tmp t => exact ⟨.t t, (h.env t v hv).2, fun _ e => by cases e; rfl⟩
  | const c =>
    obtain ⟨h1, h2⟩ := ofConst_ok (hv : ofConst c = some v) X.Fz X.D w
    exact ⟨.res, (Rp.deep h2).2 h1, fun _ e => by cases e⟩
  | global g => cases hv
  | func f =>
    have : v = .fn f [] := by simp [St.val] at hv; exact hv.symm
    subst this
    exact ⟨.res, .fn f [] #[] rfl (fun j x v h => by simp at h), fun _ e => by cases e⟩
theorem RX.evc {X : Ctx} {S : St} {a : Act} {w : World} (h : RX X S a w) {x : Operand} {v : AV} (hv : S.val x = some v) (hc : v.copyable = true) : Rp X S a w .res v (a.eval x) := by
  obtain ⟨p, h1, _⟩ := h.ev hv
  exact h1.res hc
theorem RX.evd {X : Ctx} {S : St} {a : Act} {w : World} (h : RX X S a w) {x : Operand} {v : AV} (hv : S.val x = some v) (hc : v.isDeep = true) : Rv X.Fz X.D w v (a.eval x) := by
  obtain ⟨p, h1, _⟩ := h.ev hv
  exact (Rp.deep hc).1 h1
theorem RX.evo {X : Ctx} {S : St} {a : Act} {w : World} (h : RX X S a w) {t c : Nat} {l : List (List AV)} (hv : S.val (.tmp t) = some (.own c l)) : OwnV X w (.t t) c l (a.eval (.tmp t)) :=
  (h.env t _ hv).2

theorem RX.own {X : Ctx} {S : St} {a : Act} {w : World} (h : RX X S a w) {q : Pl} {c : Nat} {l : List (List AV)} (ho : S.ownAt q = some (c, l)) : OwnV X w q c l (hdr X a w q) := by
  cases q with
  | t n =>
    simp only [St.ownAt] at ho
    split at ho
    · rename_i c' l' e; cases ho; exact (h.env n _ e).2
    · cases ho
  | l k off =>
    simp only [St.ownAt] at ho
    split at ho
    · rename_i cs e
      split at ho
      · rename_i c' l' e2
        cases ho
        obtain ⟨h1, vs, T, h2, h3, h4⟩ := h.loc k cs e
        have h5 := h4 off _ e2
        have hlt : off < vs.size := by
          have := (List.getElem?_eq_some_iff.1 e2).1
          omega
        have : hdr X a w (.l k off) = vs.getD off undef := by
          simp [hdr, World.cell?, h2, hlt]
        rw [this]; exact h5
      · cases ho
    · cases ho
  | g k off =>
    simp only [St.ownAt] at ho
    split at ho
    · rename_i cs e
      split at ho
      · rename_i c' l' e2
        cases ho
        obtain ⟨b, h0, h1, vs, T, h2, h3, h4⟩ := h.gob k cs e
        have h5 := h4 off _ e2
        have hlt : off < vs.size := by
          have := (List.getElem?_eq_some_iff.1 e2).1
          omega
        have : hdr X a w (.g k off) = vs.getD off undef := by
          simp [hdr, h0, World.cell?, h2, hlt]
        rw [this]; exact h5
      · cases ho
    · cases ho
  | res => cases ho

section types
variable {P : Program} {Δ : Tab} (hΔ : Tab.Ok P Δ)
include hΔ
theorem und_ok {t : Nat} {d : TD} (h : lk Δ t = some d) : ∃ u, P.underlying t = some u ∧ d.k.fits u = true := by
  obtain ⟨i, u, _, h2, _, _, h3, _⟩ := TD.ok_spec (hΔ t d h); exact ⟨u, h2, h3⟩
theorem info_ok {t : Nat} {d : TD} (h : lk Δ t = some d) : ∃ i, P.info? t = some i ∧ i.size = d.size ∧ i.bytes = d.bytes := by
  obtain ⟨i, u, h1, h2, h3, h4, _⟩ := TD.ok_spec (hΔ t d h); exact ⟨i, h1, h3, h4⟩
theorem size_pos {t : Nat} {d : TD} (h : lk Δ t = some d) : 0 < d.size := by
  obtain ⟨i, u, _, _, _, _, _, h6⟩ := TD.ok_spec (hΔ t d h); exact h6
theorem run_sizeOf {t : Nat} {d : TD} (h : lk Δ t = some d) (w : World) : (sizeOf t).run P w = .ok d.size w := by
  obtain ⟨i, h1, h2, _⟩ := info_ok hΔ h
  simp [sizeOf, typeInfo, h1, h2]
theorem run_isAgg {t : Nat} {d : TD} (h : lk Δ t = some d) (w : World) : (isAgg t).run P w = .ok d.agg w := by
  obtain ⟨u, h1, h2⟩ := und_ok hΔ h
  obtain ⟨k, sz, by_, z⟩ := d
  simp only [isAgg, underlying, TD.agg]
  cases k <;> cases u <;> simp [TK.fits] at h2 <;> simp [h1]
end types

theorem fits_slice {e : Nat} {u : TypeDesc} (h : (TK.slice e).fits u = true) : u = .slice e := by
  cases u <;> simp [TK.fits] at h; subst h; rfl
theorem fits_arr {n e : Nat} {u : TypeDesc} (h : (TK.arr n e).fits u = true) : u = .array n e := by
  cases u <;> simp [TK.fits] at h; obtain ⟨h1, h2⟩ := h; subst h1; subst h2; rfl
theorem fits_int {k : IntKind} {u : TypeDesc} (h : (TK.int k).fits u = true) : u = .int k := by
  cases u <;> simp [TK.fits] at h; subst h; rfl
theorem fits_str {u : TypeDesc} (h : TK.str.fits u = true) : u = .string := by
  cases u <;> simp [TK.fits] at h; rfl
theorem fits_bool {u : TypeDesc} (h : TK.bool.fits u = true) : u = .bool := by
  cases u <;> simp [TK.fits] at h; rfl
theorem fits_ptr {u : TypeDesc} (h : TK.ptr.fits u = true) : ∃ e, u = .pointer e := by
  cases u <;> simp [TK.fits] at h; exact ⟨_, rfl⟩
theorem fits_struct {fs : List (Nat × Nat)} {u : TypeDesc} (h : (TK.struct fs).fits u = true) : ∃ gs, u = .struct gs ∧ fs = gs.toList.map fun f => (f.offset, f.type) := by
  cases u <;> simp [TK.fits] at h; exact ⟨_, rfl, h.1⟩
theorem fits_struct2 {fs : List (Nat × Nat)} {u : TypeDesc} (h : (TK.struct fs).fits u = true) : ∃ gs, u = .struct gs ∧ fs = gs.toList.map (fun f => (f.offset, f.type)) ∧ ∀ f ∈ gs.toList, f.name ≠ "_" := by
  cases u <;> simp only [TK.fits, Bool.and_eq_true, decide_eq_true_eq, Bool.false_eq_true] at h
  refine ⟨_, rfl, h.1, fun f hf => ?_⟩
  simpa using List.all_eq_true.1 h.2 f hf

theorem run_loadCellsFrom {P : Program} {w : World} {a : Addr} (f : Nat → Value) : ∀ (n i : Nat) (acc : Array Value), (∀ k, i ≤ k → k < i + n → w.cell? (a.add k) = some (f k)) →
    ∃ vs : Array Value, (loadCellsFrom a i n acc).run P w = .ok vs w ∧ vs.size = acc.size + n ∧ (∀ k, k < acc.size → vs[k]? = acc[k]?) ∧ ∀ k, k < n → vs[acc.size + k]? = some (f (i + k))
  | 0, i, acc, _ => ⟨acc, rfl, rfl, fun _ _ => rfl, fun k hk => absurd hk (Nat.not_lt_zero _)⟩
  | n + 1, i, acc, h => by
    obtain ⟨vs, h1, h2, h3, h4⟩ := run_loadCellsFrom f n (i + 1) (acc.push (f i)) (fun k hk hk2 => h k (by omega) (by omega))
    refine ⟨vs, ?_, by simp at h2; omega, fun k hk => ?_, fun k hk => ?_⟩
    · simp only [loadCellsFrom, Sem.run_bind, run_load, h i (Nat.le_refl _) (by omega)]
      exact h1
    · rw [h3 k (by simp; omega), Array.getElem?_push, if_neg (by omega)]
    · cases k with
      | zero => rw [Nat.add_zero, h3 acc.size (by simp), Array.getElem?_push, if_pos rfl]; rfl
      | succ k =>
        have := h4 k (by omega)
        simp only [Array.size_push] at this
        rw [show acc.size + (k + 1) = acc.size + 1 + k from by omega, this, show i + 1 + k = i + (k + 1) from by omega]

theorem add_none (b off n : Nat) : (⟨b, off, none⟩ : Addr).add n = ⟨b, off + n, none⟩ := by
  unfold Addr.add
  split
  · rename_i h; subst h; rfl
  · rfl

section load
variable {P : Program} {Δ : Tab} (hΔ : Tab.Ok P Δ)
include hΔ
theorem run_loadVar_cells {t : Nat} {d : TD} (h : lk Δ t = some d) {w : World} {b off : Nat} {f : Nat → Value} (hc : ∀ k, k < (bif d.agg then d.size else 1) → w.cell? ⟨b, off + k, none⟩ = some (f k)) :
    ∃ u, (loadVar t ⟨b, off, none⟩).run P w = .ok u w ∧ (d.agg = false → u = f 0) ∧ (d.agg = true → ∃ vs : Array Value, u = .agg vs ∧ vs.size = d.size ∧ ∀ k, k < d.size → vs[k]? = some (f k)) := by
  simp only [loadVar, Sem.run_bind, run_isAgg hΔ h, Result.andThen_ok]
  cases hd : d.agg
  · rw [hd] at hc
    have h0 := hc 0 (by simp)
    refine ⟨f 0, ?_, fun _ => rfl, fun h => (by cases h)⟩
    simp only [Bool.false_eq_true, if_false, run_load]
    rw [show off = off + 0 from rfl, h0]
  · rw [hd] at hc
    simp only [cond_true] at hc
    obtain ⟨vs, h1, h2, _, h4⟩ := run_loadCellsFrom (P := P) (w := w) (a := ⟨b, off, none⟩) f d.size 0 #[] (fun k _ hk => by rw [add_none]; exact hc k (by omega))
    refine ⟨.agg vs, ?_, fun h => (by cases h), fun _ => ⟨vs, rfl, by simpa using h2, fun k hk => by simpa using h4 k hk⟩⟩
    simp only [if_true, Sem.run_bind, run_sizeOf hΔ h, Result.andThen_ok, loadCells, h1]
    rfl
end load

end Go.AL
end
section
set_option linter.unusedVariables false
set_option linter.unusedSimpArgs false
set_option linter.unusedSectionVars false
namespace Go.AL

theorem flatten_get {c : Nat} : ∀ {l : List (List AV)}, (∀ es ∈ l, es.length = c) → ∀ {i : Nat} {cs : List AV}, l[i]? = some cs → ∀ {j : Nat} {x : AV}, cs[j]? = some x → l.flatten[i * c + j]? = some x
  | [], _, i, cs, h, _, _, _ => by simp at h
  | e :: l, hw, i, cs, h, j, x, hj => by
    rw [List.flatten_cons]
    have he : e.length = c := hw e (by simp)
    cases i with
    | zero =>
      simp at h; subst h
      have := (List.getElem?_eq_some_iff.1 hj).1
      rw [Nat.zero_mul, Nat.zero_add, List.getElem?_append_left this]
      exact hj
    | succ i =>
      rw [List.getElem?_append_right (by rw [he, Nat.succ_mul]; omega), he]
      have := flatten_get (fun es hes => hw es (by simp [hes])) (by simpa using h) hj (l := l) (i := i)
      rw [← this]; congr 1; rw [Nat.succ_mul]; omega

theorem flatten_len {c : Nat} : ∀ {l : List (List AV)}, (∀ es ∈ l, es.length = c) → l.flatten.length = l.length * c
  | [], _ => by simp
  | e :: l, hw => by
    rw [List.flatten_cons, List.length_append, flatten_len (fun es hes => hw es (by simp [hes])), hw e (by simp), List.length_cons, Nat.succ_mul]; omega

theorem flatten_inv {c : Nat} {l : List (List AV)} (hw : ∀ es ∈ l, es.length = c) {k : Nat} {x : AV} (hk : l.flatten[k]? = some x) :
    ∃ i j cs, k = i * c + j ∧ j < c ∧ l[i]? = some cs ∧ cs[j]? = some x := by
  induction l generalizing k with
  | nil => simp at hk
  | cons e l ih =>
    have he : e.length = c := hw e (by simp)
    rw [List.flatten_cons] at hk
    rcases Nat.lt_or_ge k e.length with h | h
    · rw [List.getElem?_append_left h] at hk
      exact ⟨0, k, e, by simp, by omega, by simp, hk⟩
    · rw [List.getElem?_append_right h] at hk
      obtain ⟨i, j, cs, h1, h2, h3, h4⟩ := ih (fun es hes => hw es (by simp [hes])) hk
      exact ⟨i + 1, j, cs, by rw [Nat.succ_mul]; omega, h2, by simpa using h3, h4⟩

section
variable {P : Program} {Δ : Tab} (hΔ : Tab.Ok P Δ)
include hΔ

theorem load_cells {t : Nat} {d : TD} (h : lk Δ t = some d) {w : World} {Fz : Nat → Prop} {D : Nat → Option Nat} {b off : Nat} {f : Nat → Value} {cs : List AV} {v : AV} (hq : qcells d cs (· = v))
    (hc : ∀ (k : Nat) (x : AV), cs[k]? = some x → w.cell? ⟨b, off + k, none⟩ = some (f k)) (hr : ∀ (k : Nat) (x : AV), cs[k]? = some x → Rv Fz D w x (f k)) :
    ∃ u, (loadVar t ⟨b, off, none⟩).run P w = .ok u w ∧ Rv Fz D w v u := by
  unfold qcells at hq
  cases hd : d.agg
  · rw [hd] at hq
    simp only [cond_false] at hq
    split at hq
    · rename_i x xs
      subst hq
      obtain ⟨u, h1, h2, _⟩ := run_loadVar_cells hΔ h (w := w) (b := b) (off := off) (f := f) (by rw [hd]; intro k hk; simp at hk; subst hk; exact hc 0 x rfl)
      exact ⟨u, h1, by rw [h2 hd]; exact hr 0 x rfl⟩
    · exact hq.elim
  · rw [hd] at hq
    simp only [cond_true] at hq
    obtain ⟨hl, rfl⟩ := hq
    obtain ⟨u, h1, _, h2⟩ := run_loadVar_cells hΔ h (w := w) (b := b) (off := off) (f := f) (by
      rw [hd]; intro k hk; simp only [cond_true] at hk
      exact hc k _ (List.getElem?_eq_getElem (by omega)))
    obtain ⟨vs, rfl, h3, h4⟩ := h2 hd
    refine ⟨_, h1, .agg _ _ (by simp [h3]; omega) (fun j x u hx hu => ?_)⟩
    have hj : j < d.size := by have := (Array.getElem?_eq_some_iff.1 hu).1; omega
    rw [h4 j hj] at hu; cases hu
    rw [List.getElem?_take_of_lt hj] at hx
    exact hr j x hx

theorem RX.lobj {X : Ctx} {S : St} {a : Act} {w : World} (hR : RX X S a w) {k : Nat} {cs : List AV} (h : lk S.loc k = some cs) : ObjR X w (fun j => .l k j) cs (X.L k) := (hR.loc k cs h).2

theorem obj_ok {X : Ctx} {S : St} {a : Act} {w : World} {t : Nat} {d : TD} (h : lk Δ t = some d) {pl : Nat → Pl} {off b : Nat} {cs : List AV} {v : AV} (ho : ObjR X w pl cs b)
    (hh : ∀ j, S.ownAt (pl j) ≠ none → hdr X a w (pl j) = (w.cell? ⟨b, j, none⟩).getD undef) (hq : qobj d pl off cs (· = v)) :
    ∃ u, (loadVar t ⟨b, off, none⟩).run P w = .ok u w ∧ Rp X S a w .res v u ∧ v.copyable = true := by
  obtain ⟨vs, T, h1, h2, h3⟩ := ho
  have hcell : ∀ j, j < vs.size → w.cell? ⟨b, j, none⟩ = some (vs.getD j undef) := by
    intro j hj
    simp [World.cell?, h1, hj]
  unfold qobj at hq
  cases hd : d.agg
  · rw [hd] at hq
    simp only [cond_false] at hq
    split at hq
    · rename_i c l he
      subst hq
      have hlt := (List.getElem?_eq_some_iff.1 he).1
      obtain ⟨u, g1, g2, _⟩ := run_loadVar_cells hΔ h (w := w) (b := b) (off := off) (f := fun k => vs.getD (off + k) undef) (by rw [hd]; intro k hk; simp at hk; subst hk; exact hcell _ (by omega))
      refine ⟨u, g1, fun hl => ?_, rfl⟩
      rw [g2 hd, hh _ hl, hcell _ (by omega)]; rfl
    · rename_i x hx he
      obtain ⟨hdeep, rfl⟩ := hq
      have hlt := (List.getElem?_eq_some_iff.1 he).1
      obtain ⟨u, g1, g2, _⟩ := run_loadVar_cells hΔ h (w := w) (b := b) (off := off) (f := fun k => vs.getD (off + k) undef) (by rw [hd]; intro k hk; simp at hk; subst hk; exact hcell _ (by omega))
      refine ⟨u, g1, ?_, ?_⟩
      · rw [Rp.deep hdeep, g2 hd]
        have := h3 off _ he
        revert this
        cases x <;> first | exact id | cases hdeep
      · cases x <;> first | rfl | cases hdeep
    · exact hq.elim
  · rw [hd] at hq
    simp only [cond_true] at hq
    obtain ⟨hl, hall, rfl⟩ := hq
    rw [List.length_drop] at hl
    obtain ⟨u, g1, _, g2⟩ := run_loadVar_cells hΔ h (w := w) (b := b) (off := off) (f := fun k => vs.getD (off + k) undef) (by rw [hd]; intro k hk; simp only [cond_true] at hk; exact hcell _ (by omega))
    obtain ⟨us, rfl, g3, g4⟩ := g2 hd
    refine ⟨_, g1, .agg _ _ (by simp [g3]; omega) (fun j x u hx hu => ?_), rfl⟩
    have hj : j < d.size := by have := (Array.getElem?_eq_some_iff.1 hu).1; omega
    rw [g4 j hj] at hu; cases hu
    have hdeep : x.isDeep = true := List.all_eq_true.1 hall x (List.mem_of_getElem? hx)
    rw [List.getElem?_take_of_lt hj, List.getElem?_drop] at hx
    have := h3 (off + j) x hx
    revert this
    cases x <;> first | exact id | cases hdeep

theorem qload_ok {X : Ctx} {S : St} {a : Act} {w : World} (hR : RX X S a w) {t : Nat} {x : Operand} {v : AV} (hq : qload Δ S t x (· = v)) :
    ∃ u, (Instr.loadAt t (a.eval x)).run P w = .ok u w ∧ Rp X S a w .res v u ∧ v.copyable = true := by
  unfold qload at hq
  split at hq
  · rename_i d cs h1 h2
    obtain ⟨b, off, f, hb, hz, hc, hr⟩ := (hR.evd h2 rfl).ptrF_inv
    obtain ⟨u, g1, g2⟩ := load_cells hΔ h1 hq hc hr
    have hdeep : v.isDeep = true := by cases g2 <;> rfl
    refine ⟨u, ?_, (Rp.deep hdeep).2 g2, by cases g2 <;> rfl⟩
    rw [hb]; simpa [Instr.loadAt, Instr.sureAddr] using g1
  · rename_i d k off h1 h2
    split at hq
    · rename_i cs h3
      have hv : a.eval x = .pointer (some ⟨X.L k, off, none⟩) := hR.evc h2 rfl
      obtain ⟨u, g1, g2, g3⟩ := obj_ok hΔ (S := S) (a := a) h1 (RX.lobj hΔ hR h3) (fun j _ => rfl) hq
      refine ⟨u, ?_, g2, g3⟩
      rw [hv]; simpa [Instr.loadAt, Instr.sureAddr] using g1
    · exact hq.elim
  · rename_i d k off h1 h2
    obtain ⟨cs, h3, hq⟩ := hq
    obtain ⟨b, hb1, hb2⟩ := (hR.evd h2 rfl).ptr_inv
    obtain ⟨b', e1, e2, e3⟩ := hR.gob k cs h3
    rw [hb1] at e1; cases e1
    obtain ⟨u, g1, g2, g3⟩ := obj_ok hΔ (S := S) (a := a) h1 e3 (fun j _ => by simp [hdr, hb1]) hq
    refine ⟨u, ?_, g2, g3⟩
    rw [hb2]; simpa [Instr.loadAt, Instr.sureAddr] using g1
  · rename_i d q c i off h1 h2
    split at hq
    · rename_i c' l h3
      obtain ⟨rfl, cs, h4, hq⟩ := hq
      have hp := hR.evc h2 rfl
      obtain ⟨b, o, n, cap, e1, e2⟩ := hp (by rw [h3]; simp)
      have ho := hR.own h3
      rcases ho with ⟨rfl, _⟩ | ⟨b', off', cap', vs, T, k1, k2, k3, k4, k5, k6, k7⟩
      · simp at h4
      · rw [e1] at k1; cases k1
        have hcell : ∀ j, j < vs.size → w.cell? ⟨b, j, none⟩ = some (vs.getD j undef) := by
          intro j hj
          simp [World.cell?, k3, hj]
        have key : ∀ (k : Nat) (x : AV), (cs.drop off)[k]? = some x → w.cell? ⟨b, o + i * c' + off + k, none⟩ = some (vs.getD (o + i * c' + off + k) undef) ∧ Rv X.Fz X.D w x (vs.getD (o + i * c' + off + k) undef) := by
          intro k x hx
          rw [List.getElem?_drop] at hx
          obtain ⟨u, r1, r2⟩ := k7 _ _ (flatten_get k6 h4 hx)
          have hlt := (Array.getElem?_eq_some_iff.1 r1).1
          have e : o + (i * c' + (off + k)) = o + i * c' + off + k := by omega
          rw [e] at r1 hlt
          rw [hcell _ hlt]
          refine ⟨rfl, ?_⟩
          rw [Array.getD_eq_getD_getElem?, r1]
          exact r2
        obtain ⟨u, g1, g2⟩ := load_cells hΔ h1 hq (fun k x hx => (key k x hx).1) (fun k x hx => (key k x hx).2) (f := fun k => vs.getD (o + i * c' + off + k) undef)
        have hdeep : v.isDeep = true := by cases g2 <;> rfl
        refine ⟨u, ?_, (Rp.deep hdeep).2 g2, by cases g2 <;> rfl⟩
        rw [e2]; simpa [Instr.loadAt, Instr.sureAddr] using g1
    · exact hq.elim
  · exact hq.elim
end
end Go.AL
end
section
set_option linter.unusedVariables false
set_option linter.unusedSimpArgs false
set_option linter.unusedSectionVars false
namespace Go.AL

theorem deep_copyable {x : AV} (h : x.isDeep = true) : x.copyable = true := by cases x <;> first | rfl | cases h
theorem Rv.isDeep {Fz : Nat → Prop} {D : Nat → Option Nat} {w : World} {x : AV} {v : Value} (h : Rv Fz D w x v) : x.isDeep = true := by cases h <;> rfl

theorem ptrF_drop {Fz : Nat → Prop} {D : Nat → Option Nat} {w : World} {cs : List AV} {b off n : Nat} {f : Nat → Value} (hz : Fz b)
    (hc : ∀ (k : Nat) (x : AV), cs[k]? = some x → w.cell? ⟨b, off + k, none⟩ = some (f k)) (hr : ∀ (k : Nat) (x : AV), cs[k]? = some x → Rv Fz D w x (f k)) :
    Rv Fz D w (.ptrF (cs.drop n)) (.pointer (some ⟨b, off + n, none⟩)) := by
  refine .ptrF _ b (off + n) (fun k => f (n + k)) hz (fun k x hk => ?_) (fun k x hk => ?_)
  · rw [List.getElem?_drop] at hk
    rw [show off + n + k = off + (n + k) from by omega]
    exact hc _ x hk
  · rw [List.getElem?_drop] at hk
    exact hr _ x hk

section
variable {P : Program} {Δ : Tab} (hΔ : Tab.Ok P Δ)
include hΔ

theorem field_desc {t f o ft : Nat} {fs : List (Nat × Nat)} {sz by_ : Nat} {z : List AV} (h : lk Δ t = some ⟨.struct fs, sz, by_, z⟩) (hf : fs[f]? = some (o, ft)) :
    ∃ gs g, P.underlying t = some (.struct gs) ∧ gs[f]? = some g ∧ g.offset = o ∧ g.type = ft := by
  obtain ⟨u, h1, h2⟩ := und_ok hΔ h
  obtain ⟨gs, rfl, h3⟩ := fits_struct h2
  subst h3
  rw [List.getElem?_map] at hf
  simp only [Array.getElem?_toList, Option.map_eq_some_iff] at hf
  obtain ⟨g, h4, h5⟩ := hf
  cases h5
  exact ⟨gs, g, h1, h4, rfl, rfl⟩

theorem qfaddr_ok {X : Ctx} {S : St} {a : Act} {w : World} (hR : RX X S a w) {t : Nat} {x : Operand} {f : Nat} {v : AV} (hq : qfaddr Δ S t x f (· = v)) :
    ∃ u, (Instr.fieldAt t (a.eval x) f).run P w = .ok u w ∧ Rp X S a w .res v u ∧ v.copyable = true := by
  unfold qfaddr at hq
  split at hq
  · rename_i fs sz by_ z h1
    split at hq
    · rename_i o ft h2
      obtain ⟨h3, hq⟩ := hq
      obtain ⟨d, hd⟩ := Option.isSome_iff_exists.1 h3
      obtain ⟨gs, g, g1, g2, g3, g4⟩ := field_desc hΔ h1 h2
      have hpos := size_pos hΔ hd
      have run : ∀ b off, (Instr.fieldAt t (.pointer (some ⟨b, off, none⟩)) f).run P w = .ok (.pointer (some ⟨b, off + o, none⟩)) w := by
        intro b off
        have hs := run_sizeOf hΔ (t := g.type) (by rw [g4]; exact hd) w
        simp [Instr.fieldAt, underlying, g1, g2, Instr.sureAddr, fieldPlace, hs, Nat.ne_of_gt hpos, g3, add_none]
      split at hq
      · rename_i cs h5
        subst hq
        obtain ⟨b, off, ff, hb, hz, hc, hr⟩ := (hR.evd h5 rfl).ptrF_inv
        exact ⟨_, by rw [hb]; exact run b off, ptrF_drop hz hc hr, rfl⟩
      · rename_i k off h5
        subst hq
        have hv : a.eval x = .pointer (some ⟨X.L k, off, none⟩) := hR.evc h5 rfl
        exact ⟨_, by rw [hv]; exact run _ off, rfl, rfl⟩
      · rename_i k off h5
        subst hq
        obtain ⟨b, hb1, hb2⟩ := (hR.evd h5 rfl).ptr_inv
        exact ⟨_, by rw [hb2]; exact run _ off, .ptr _ _ _ hb1, rfl⟩
      · rename_i q c i off h5
        obtain ⟨hl, rfl⟩ := hq
        have hp := hR.evc h5 rfl
        obtain ⟨b, oo, n, cap, e1, e2⟩ := hp (by rw [Option.isSome_iff_ne_none] at hl; exact hl)
        refine ⟨_, by rw [e2]; exact run _ _, fun _ => ⟨b, oo, n, cap, e1, ?_⟩, rfl⟩
        rw [Nat.add_assoc]
      · exact hq.elim
    · exact hq.elim
  · exact hq.elim

theorem part_ok {t : Nat} {d : TD} (h : lk Δ t = some d) {w : World} {Fz : Nat → Prop} {D : Nat → Option Nat} {vs : Array Value} {cs : List AV} {off : Nat} {v : AV} (hn : cs.length = vs.size)
    (hr : ∀ (j : Nat) (x : AV) (v : Value), cs[j]? = some x → vs[j]? = some v → Rv Fz D w x v) (hq : qcells d (cs.drop off) (· = v)) :
    ∃ u, (part t vs off).run P w = .ok u w ∧ Rv Fz D w v u := by
  unfold qcells at hq
  simp only [part, Sem.run_bind, run_isAgg hΔ h, Result.andThen_ok]
  cases hd : d.agg
  · rw [hd] at hq
    simp only [cond_false] at hq
    split at hq
    · rename_i x xs he
      subst hq
      have hx : cs[off]? = some x := by
        have : (cs.drop off)[0]? = some x := by rw [he]; rfl
        rwa [List.getElem?_drop, Nat.add_zero] at this
      have hlt := (List.getElem?_eq_some_iff.1 hx).1
      have hv : vs[off]? = some (vs[off]'(by omega)) := Array.getElem?_eq_getElem (by omega)
      refine ⟨vs[off]'(by omega), ?_, hr off x _ hx hv⟩
      simp [hv]
    · exact hq.elim
  · rw [hd] at hq
    simp only [cond_true] at hq
    obtain ⟨hl, rfl⟩ := hq
    rw [List.length_drop] at hl
    have hpos := size_pos hΔ h
    refine ⟨.agg (vs.extract off (off + d.size)), ?_, .agg _ _ (by simp; omega) (fun j x u hx hu => ?_)⟩
    · simp only [if_true, Sem.run_bind, run_sizeOf hΔ h, Result.andThen_ok]
      rfl
    · have hj : j < d.size := by have := (Array.getElem?_eq_some_iff.1 hu).1; simp at this; omega
      rw [List.getElem?_take_of_lt hj, List.getElem?_drop] at hx
      rw [Array.getElem?_extract_of_lt (by omega)] at hu
      exact hr _ x u hx (by rw [Array.getElem?_eq_getElem (by omega)]; exact hu)

theorem qfield_ok {X : Ctx} {S : St} {a : Act} {w : World} (hR : RX X S a w) {t : Nat} {x : Operand} {f : Nat} {v : AV} (hq : qfield Δ S t x f (· = v)) :
    ∃ u, (Instr.field t (a.eval x) f).run P w = .ok u w ∧ Rp X S a w .res v u ∧ v.copyable = true := by
  unfold qfield at hq
  split at hq
  · rename_i fs sz by_ z h1
    split at hq
    · rename_i o ft h2
      split at hq
      · rename_i d cs hd hv
        obtain ⟨gs, g, g1, g2, g3, g4⟩ := field_desc hΔ h1 h2
        obtain ⟨vs, e1, e2, e3⟩ := (hR.evd hv rfl).agg_inv
        obtain ⟨u, k1, k2⟩ := part_ok hΔ hd e2 e3 hq
        refine ⟨u, ?_, (Rp.deep k2.isDeep).2 k2, deep_copyable k2.isDeep⟩
        rw [e1]
        simp only [Instr.field, underlying, Sem.run_bind, run_program, Result.andThen_ok, g1, g2, asAgg, Sem.run_pure, g3, g4]
        exact k1
      · exact hq.elim
    · exact hq.elim
  · exact hq.elim

theorem elem_und {t e sz by_ : Nat} {z : List AV} (h : lk Δ t = some ⟨.slice e, sz, by_, z⟩) : P.underlying t = some (.slice e) := by
  obtain ⟨u, h1, h2⟩ := und_ok hΔ h
  rw [h1, fits_slice h2]
theorem arr_und {t n e sz by_ : Nat} {z : List AV} (h : lk Δ t = some ⟨.arr n e, sz, by_, z⟩) : P.underlying t = some (.array n e) := by
  obtain ⟨u, h1, h2⟩ := und_ok hΔ h
  rw [h1, fits_arr h2]
theorem str_und {t sz by_ : Nat} {z : List AV} (h : lk Δ t = some ⟨.str, sz, by_, z⟩) : P.underlying t = some .string := by
  obtain ⟨u, h1, h2⟩ := und_ok hΔ h
  rw [h1, fits_str h2]
theorem int_und {t sz by_ : Nat} {k : IntKind} {z : List AV} (h : lk Δ t = some ⟨.int k, sz, by_, z⟩) : P.underlying t = some (.int k) := by
  obtain ⟨u, h1, h2⟩ := und_ok hΔ h
  rw [h1, fits_int h2]

theorem run_indexAt {t e : Nat} {d : TD} (ht : P.underlying t = some (.slice e)) (hd : lk Δ e = some d) {k : IntKind} {n : Int} {b off len cap : Nat} (h0 : 0 ≤ n) (h1 : n.toNat < len) (w : World) :
    (Instr.indexAt t (.slice (some ⟨b, off, none⟩) len cap) (.int k n)).run P w = .ok (.pointer (some ⟨b, off + n.toNat * d.size, none⟩)) w := by
  have hs := run_sizeOf hΔ hd w
  have h2 : 0 ≤ n ∧ n < (len : Int) := ⟨h0, by omega⟩
  simp [Instr.indexAt, asIntOf, underlying, ht, h2, hs, add_none]

theorem run_indexAt_arr {t e : Nat} {d : TD} {len : Nat} (ht : P.underlying t = some (.array len e)) (hd : lk Δ e = some d) {k : IntKind} {n : Int} {b off : Nat} (h0 : 0 ≤ n) (h1 : n.toNat < len) (w : World) :
    (Instr.indexAt t (.pointer (some ⟨b, off, none⟩)) (.int k n)).run P w = .ok (.pointer (some ⟨b, off + n.toNat * d.size, none⟩)) w := by
  have hs := run_sizeOf hΔ hd w
  have h2 : 0 ≤ n ∧ n < (len : Int) := ⟨h0, by omega⟩
  simp [Instr.indexAt, asIntOf, underlying, ht, h2, hs, add_none, Instr.sureAddr]

theorem own_index {X : Ctx} {S : St} {a : Act} {w : World} {q : Pl} {t e c : Nat} {d : TD} {l : List (List AV)} {u : Value} (ho : OwnV X w q c l u) (hh : S.ownAt q ≠ none → u = hdr X a w q)
    (ht : P.underlying t = some (.slice e)) (hd : lk Δ e = some d) {k : IntKind} {n : Int} (h0 : 0 ≤ n) (h1 : n.toNat < l.length) (hc : c = d.size) :
    ∃ u', (Instr.indexAt t u (.int k n)).run P w = .ok u' w ∧ Rp X S a w .res (.eptr q c n.toNat 0) u' := by
  rcases ho with ⟨rfl, _⟩ | ⟨b, off, cap, vs, T, rfl, k2, k3, k4, k5, k6, k7⟩
  · simp at h1
  · refine ⟨_, run_indexAt hΔ ht hd h0 h1 w, fun hl => ⟨b, off, _, cap, (hh hl).symm, ?_⟩⟩
    rw [hc, Nat.add_zero]

theorem qiaddr_ok {X : Ctx} {S : St} {a : Act} {w : World} (hR : RX X S a w) {t : Nat} {x i : Operand} {v : AV} (hq : qiaddr Δ S t x i (· = v)) :
    ∃ u, (Instr.indexAt t (a.eval x) (a.eval i)).run P w = .ok u w ∧ Rp X S a w .res v u ∧ v.copyable = true := by
  unfold qiaddr at hq
  split at hq
  · rename_i e sz by_ z k n h1 h2
    have hi : a.eval i = .int k n := (hR.evd h2 rfl).int_inv
    have ht := elem_und hΔ h1
    split at hq
    · rename_i d hd
      split at hq
      · rename_i l h3
        obtain ⟨h0, cs, h4, h5, rfl⟩ := hq
        obtain ⟨A, cap, e1, e2, e3⟩ := (hR.evd h3 rfl).sl_inv
        have hlt := (List.getElem?_eq_some_iff.1 h4).1
        obtain ⟨b, off, c, f, rfl, hz, hw, hc, hr⟩ := e3 (fun h => by rw [h] at hlt; simp at hlt)
        have hcc : c = d.size := by rw [← h5]; exact (hw cs (List.mem_of_getElem? h4)).symm
        refine ⟨_, by rw [e1, hi]; exact run_indexAt hΔ ht hd h0 hlt w, ?_, rfl⟩
        refine .ptrF cs b _ (fun j => f (n.toNat * d.size + j)) hz (fun j x hj => ?_) (fun j x hj => ?_)
        · have := hc _ _ (flatten_get hw h4 hj)
          rw [hcc] at this
          rw [← this]; congr 2; omega
        · have := hr _ _ (flatten_get hw h4 hj)
          rw [hcc] at this
          exact this
      · rename_i q h3
        split at hq
        · rename_i c l h4
          obtain ⟨h0, h5, h6, rfl⟩ := hq
          have hp := hR.evc h3 rfl
          have hp := hp (by rw [h4]; simp)
          obtain ⟨u', g1, g2⟩ := own_index hΔ (S := S) (a := a) (hR.own h4) (fun _ => rfl) ht hd h0 h5 h6 (k := k)
          exact ⟨u', by rw [hp, hi]; exact g1, g2, rfl⟩
        · exact hq.elim
      · rename_i u c l h3
        obtain ⟨h0, h5, h6, rfl⟩ := hq
        obtain ⟨u', g1, g2⟩ := own_index hΔ (S := S) (a := a) (hR.evo h3) (fun _ => rfl) ht hd h0 h5 h6 (k := k)
        exact ⟨u', by rw [hi]; exact g1, g2, rfl⟩
      · exact hq.elim
    · exact hq.elim
  · rename_i len e sz by_ z k n h1 h2
    have hi : a.eval i = .int k n := (hR.evd h2 rfl).int_inv
    have ht := arr_und hΔ h1
    split at hq
    · rename_i d hd
      obtain ⟨h0, h5, hq⟩ := hq
      split at hq
      · rename_i cs h3
        subst hq
        obtain ⟨b, off, ff, hb, hz, hc, hr⟩ := (hR.evd h3 rfl).ptrF_inv
        exact ⟨_, by rw [hb, hi]; exact run_indexAt_arr hΔ ht hd h0 h5 w, ptrF_drop hz hc hr, rfl⟩
      · rename_i k off h3
        subst hq
        have hv : a.eval x = .pointer (some ⟨X.L k, off, none⟩) := hR.evc h3 rfl
        exact ⟨_, by rw [hv, hi]; exact run_indexAt_arr hΔ ht hd h0 h5 w, rfl, rfl⟩
      · rename_i k off h3
        subst hq
        obtain ⟨b, hb1, hb2⟩ := (hR.evd h3 rfl).ptr_inv
        exact ⟨_, by rw [hb2, hi]; exact run_indexAt_arr hΔ ht hd h0 h5 w, .ptr _ _ _ hb1, rfl⟩
      · rename_i q c i' off h3
        obtain ⟨hl, rfl⟩ := hq
        have hp := hR.evc h3 rfl
        obtain ⟨b, oo, n', cap, e1, e2⟩ := hp (by rw [Option.isSome_iff_ne_none] at hl; exact hl)
        refine ⟨_, by rw [e2, hi]; exact run_indexAt_arr hΔ ht hd h0 h5 w, fun _ => ⟨b, oo, n', cap, e1, ?_⟩, rfl⟩
        rw [Nat.add_assoc]
      · exact hq.elim
    · exact hq.elim
  · exact hq.elim

theorem qindex_ok {X : Ctx} {S : St} {a : Act} {w : World} (hR : RX X S a w) {t : Nat} {x i : Operand} {v : AV} (hq : qindex Δ S t x i (· = v)) :
    ∃ u, (Instr.index t (a.eval x) (a.eval i)).run P w = .ok u w ∧ Rp X S a w .res v u ∧ v.copyable = true := by
  unfold qindex at hq
  split at hq
  · rename_i sz by_ z s k n h1 h2 h3
    obtain ⟨h0, b, h4, rfl⟩ := hq
    have hi : a.eval i = .int k n := (hR.evd h3 rfl).int_inv
    have hx : a.eval x = .string s := (hR.evd h2 rfl).str_inv
    refine ⟨.int .u8 b.toNat, ?_, .int _ _, rfl⟩
    rw [hx, hi]
    simp [Instr.index, asIntOf, underlying, str_und hΔ h1, h0, h4]
  · rename_i len e sz by_ z cs k n h1 h2 h3
    split at hq
    · rename_i d hd
      obtain ⟨h0, h5, hq⟩ := hq
      have hi : a.eval i = .int k n := (hR.evd h3 rfl).int_inv
      obtain ⟨vs, e1, e2, e3⟩ := (hR.evd h2 rfl).agg_inv
      obtain ⟨u, k1, k2⟩ := part_ok hΔ hd e2 e3 hq
      refine ⟨u, ?_, (Rp.deep k2.isDeep).2 k2, deep_copyable k2.isDeep⟩
      rw [e1, hi]
      have h6 : 0 ≤ n ∧ n < (len : Int) := ⟨h0, by omega⟩
      simp [Instr.index, asIntOf, underlying, arr_und hΔ h1, h6, run_sizeOf hΔ hd w, k1]
    · exact hq.elim
  · exact hq.elim
end
end Go.AL
end
section
set_option linter.unusedVariables false
set_option linter.unusedSimpArgs false
set_option linter.unusedSectionVars false
namespace Go.AL

theorem bound_inv {S : St} {d : Nat} {x : Option Operand} {K : Nat → Prop} (h : bound S d x K) :
    ∃ n, K n ∧ ((x = none ∧ n = d) ∨ ∃ o k m, x = some o ∧ S.val o = some (.int k m) ∧ 0 ≤ m ∧ n = m.toNat) := by
  unfold bound at h
  split at h
  · exact ⟨_, h, .inl ⟨rfl, rfl⟩⟩
  · split at h
    · rename_i k m hv
      exact ⟨_, h.2, .inr ⟨_, k, m, rfl, hv, h.1, rfl⟩⟩
    · exact h.elim

theorem run_sb {P : Program} {w : World} {k : IntKind} {m : Int} {y : Nat} {code : BoundsCode} (h0 : 0 ≤ m) (h1 : m.toNat ≤ y) : (Instr.sliceBound (.int k m) y code).run P w = .ok m.toNat w := by
  have h2 : 0 ≤ m ∧ m ≤ (y : Int) := ⟨h0, by omega⟩
  simp [Instr.sliceBound, asIntOf, h2]

theorem run_bounds {P : Program} {X : Ctx} {S : St} {a : Act} {w : World} (hR : RX X S a w) {isS : Bool} {len cap l h : Nat} {lo hi : Option Operand}
    (hh : (hi = none ∧ h = len) ∨ ∃ o k m, hi = some o ∧ S.val o = some (.int k m) ∧ 0 ≤ m ∧ h = m.toNat)
    (hl : (lo = none ∧ l = 0) ∨ ∃ o k m, lo = some o ∧ S.val o = some (.int k m) ∧ 0 ≤ m ∧ l = m.toNat) (h1 : h ≤ cap) (h2 : l ≤ h) :
    (Instr.sliceBounds isS len cap (lo.map a.eval) (hi.map a.eval) none).run P w = .ok (l, h, cap) w := by
  unfold Instr.sliceBounds
  rcases hh with ⟨rfl, rfl⟩ | ⟨o, k, m, rfl, hv, h0, rfl⟩
  · rcases hl with ⟨rfl, rfl⟩ | ⟨o, k, m, rfl, hv, h0, rfl⟩
    · simp
    · have e := (hR.evd hv rfl).int_inv
      simp [e, run_sb h0 h2]
  · have e := (hR.evd hv rfl).int_inv
    rcases hl with ⟨rfl, rfl⟩ | ⟨o', k', m', rfl, hv', h0', rfl⟩
    · simp [e, run_sb h0 h1]
    · have e' := (hR.evd hv' rfl).int_inv
      simp [e, e', run_sb h0 h1, run_sb h0' h2]

theorem flat_take_drop {c : Nat} {es : List (List AV)} (hw : ∀ cs ∈ es, cs.length = c) {l h : Nat} {k : Nat} {x : AV} (hk : ((es.take h).drop l).flatten[k]? = some x) : es.flatten[l * c + k]? = some x := by
  have hw' : ∀ cs ∈ (es.take h).drop l, cs.length = c := fun cs hcs => hw cs (List.mem_of_mem_take (List.mem_of_mem_drop hcs))
  obtain ⟨i, j, cs, rfl, h2, h3, h4⟩ := flatten_inv hw' hk
  rw [List.getElem?_drop] at h3
  have h5 : es[l + i]? = some cs := by
    have := (List.getElem?_eq_some_iff.1 h3).1
    rw [List.length_take] at this
    rwa [List.getElem?_take_of_lt (by omega)] at h3
  have := flatten_get hw h5 h4
  rw [← this]; congr 1; rw [Nat.add_mul]; omega

section
variable {P : Program} {Δ : Tab} (hΔ : Tab.Ok P Δ)
include hΔ

theorem run_sliceAt_sl {X : Ctx} {S : St} {a : Act} {w : World} (hR : RX X S a w) {t e : Nat} {d : TD} (ht : P.underlying t = some (.slice e)) (hd : lk Δ e = some d) {A : Option Addr} {len cap l h : Nat} {lo hi : Option Operand}
    (hh : (hi = none ∧ h = len) ∨ ∃ o k m, hi = some o ∧ S.val o = some (.int k m) ∧ 0 ≤ m ∧ h = m.toNat)
    (hl : (lo = none ∧ l = 0) ∨ ∃ o k m, lo = some o ∧ S.val o = some (.int k m) ∧ 0 ≤ m ∧ l = m.toNat) (h1 : h ≤ cap) (h2 : l ≤ h) :
    (Instr.sliceAt t (.slice A len cap) (lo.map a.eval) (hi.map a.eval) none).run P w = .ok (.slice (if cap = l then A else A.map (·.add (l * d.size))) (h - l) (cap - l)) w := by
  simp only [Instr.sliceAt, underlying, Sem.run_bind, run_program, Result.andThen_ok, ht, Sem.run_pure, Instr.slice]
  rw [run_bounds hR hh hl h1 h2]
  simp only [Result.andThen_ok, run_sizeOf hΔ hd w]

theorem own_sub {X : Ctx} {S : St} {a : Act} {w : World} (hR : RX X S a w) {q : Pl} {t e c : Nat} {d : TD} {es : List (List AV)} {u : Value} (ho : OwnV X w q c es u) (hh : S.ownAt q ≠ none → u = hdr X a w q)
    (ht : P.underlying t = some (.slice e)) (hd : lk Δ e = some d) {lo hi : Option Operand} {v : AV} (hc : c = d.size)
    (hq : bound S es.length hi fun h => bound S 0 lo fun l => h ≤ es.length ∧ l ≤ h ∧ .sub q c l h = v) :
    ∃ u', (Instr.sliceAt t u (lo.map a.eval) (hi.map a.eval) none).run P w = .ok u' w ∧ Rp X S a w .res v u' ∧ v.copyable = true := by
  obtain ⟨h, hq, hh'⟩ := bound_inv hq
  obtain ⟨l, ⟨h1, h2, rfl⟩, hl'⟩ := bound_inv hq
  have hform : ∃ A cap, u = .slice A es.length cap ∧ es.length ≤ cap := by
    rcases ho with ⟨rfl, A, rfl⟩ | ⟨b, off, cap, vs, T, rfl, _, _, _, k5, _⟩
    · exact ⟨A, 0, rfl, Nat.le_refl _⟩
    · exact ⟨_, cap, rfl, k5⟩
  obtain ⟨A, cap, rfl, hcap⟩ := hform
  refine ⟨_, run_sliceAt_sl hΔ hR ht hd hh' hl' (by omega) h2, fun hl => ⟨A, _, _, cap, (hh hl).symm, rfl, h2, h1, hcap, fun hlt => ?_⟩, rfl⟩
  rw [if_neg (by omega), hc]

theorem qslice_ok {X : Ctx} {S : St} {a : Act} {w : World} (hR : RX X S a w) {t : Nat} {x : Operand} {lo hi mx : Option Operand} {v : AV} (hq : qslice Δ S t x lo hi mx (· = v)) :
    ∃ u, (Instr.sliceAt t (a.eval x) (lo.map a.eval) (hi.map a.eval) (mx.map a.eval)).run P w = .ok u w ∧ Rp X S a w .res v u ∧ v.copyable = true := by
  unfold qslice at hq
  split at hq
  · exact hq.elim
  · split at hq
    · rename_i sz by_ z h1
      split at hq
      · rename_i s h2
        obtain ⟨h, hq, hh⟩ := bound_inv hq
        obtain ⟨l, ⟨h3, h4, rfl⟩, hl⟩ := bound_inv hq
        refine ⟨.string (s.extract l h), ?_, .str _, rfl⟩
        rw [(hR.evd h2 rfl).str_inv]
        simp only [Instr.sliceAt, underlying, Sem.run_bind, run_program, Result.andThen_ok, str_und hΔ h1, Sem.run_pure, Instr.slice, Option.map_none, Option.isSome_none, Bool.false_eq_true, if_false]
        rw [run_bounds hR hh hl h3 h4]
        rfl
      · exact hq.elim
    · rename_i e sz by_ z h1
      have ht := elem_und hΔ h1
      split at hq
      · rename_i d hd
        split at hq
        · rename_i es h2
          obtain ⟨h, hq, hh⟩ := bound_inv hq
          obtain ⟨l, ⟨h3, h4, h5, rfl⟩, hl⟩ := bound_inv hq
          obtain ⟨A, cap, e1, e2, e3⟩ := (hR.evd h2 rfl).sl_inv
          refine ⟨_, by rw [e1]; exact run_sliceAt_sl hΔ hR ht hd hh hl (by omega) h4, ?_, rfl⟩
          refine SlV.mk ⟨if cap = l then A else A.map (·.add (l * d.size)), cap - l, ?_, ?_, fun hne => ?_⟩
          · rw [List.length_drop, List.length_take, Nat.min_eq_left h3]
          · simp; omega
          · have hlt : l < es.length := by
              rcases Nat.lt_or_ge l es.length with g | g
              · exact g
              · exact absurd (List.drop_eq_nil_iff.2 (by simp; omega)) hne
            have hlh : l < h := by
              rcases Nat.lt_or_ge l h with g | g
              · exact g
              · exact absurd (List.drop_eq_nil_iff.2 (by simp; omega)) hne
            obtain ⟨b, off, c, f, rfl, hz, hw, hc, hr⟩ := e3 (fun g => by rw [g] at hlt; simp at hlt)
            have hcc : c = d.size := by rw [← hw _ (List.getElem_mem hlt), h5 _ (List.getElem_mem hlt)]
            subst hcc
            refine ⟨b, off + l * d.size, d.size, fun k => f (l * d.size + k), ?_, hz, fun cs hcs => h5 cs (List.mem_of_mem_take (List.mem_of_mem_drop hcs)), fun k x hk => ?_, fun k x hk => ?_⟩
            · rw [if_neg (by omega)]; simp [add_none]
            · rw [← hc _ _ (flat_take_drop h5 hk)]; congr 2; omega
            · exact hr _ _ (flat_take_drop h5 hk)
        · rename_i h2
          obtain ⟨h, hq, hh⟩ := bound_inv hq
          obtain ⟨l, ⟨h3, h4, rfl⟩, hl⟩ := bound_inv hq
          subst h3; subst h4
          obtain ⟨A, e1⟩ := (hR.evd h2 rfl).emp_inv
          refine ⟨_, by rw [e1]; exact run_sliceAt_sl hΔ hR ht hd hh hl (Nat.le_refl _) (Nat.le_refl _), .emp _, rfl⟩
        · rename_i q h2
          split at hq
          · rename_i c es h3
            have hp := hR.evc h2 rfl
            have hp := hp (by rw [h3]; simp)
            have hcc : c = d.size := by
              obtain ⟨h, hq, _⟩ := bound_inv hq
              obtain ⟨l, ⟨_, _, g, _⟩, _⟩ := bound_inv hq
              exact g
            have hq' : bound S es.length hi fun h => bound S 0 lo fun l => h ≤ es.length ∧ l ≤ h ∧ .sub q c l h = v := by
              obtain ⟨h, g1, g2⟩ := bound_pt hq
              obtain ⟨l, g3, g4⟩ := bound_pt g1
              exact g2 _ (g4 _ ⟨g3.1, g3.2.1, g3.2.2.2⟩)
            rw [hp]
            exact own_sub hΔ hR (hR.own h3) (fun _ => rfl) ht hd hcc hq'
          · exact hq.elim
        · rename_i u c es h2
          have hcc : c = d.size := by
            obtain ⟨h, hq, _⟩ := bound_inv hq
            obtain ⟨l, ⟨_, _, g, _⟩, _⟩ := bound_inv hq
            exact g
          have hq' : bound S es.length hi fun h => bound S 0 lo fun l => h ≤ es.length ∧ l ≤ h ∧ .sub (.t u) c l h = v := by
            obtain ⟨h, g1, g2⟩ := bound_pt hq
            obtain ⟨l, g3, g4⟩ := bound_pt g1
            exact g2 _ (g4 _ ⟨g3.1, g3.2.1, g3.2.2.2⟩)
          exact own_sub hΔ hR (hR.evo h2) (fun _ => rfl) ht hd hcc hq'
        · exact hq.elim
      · exact hq.elim
    · exact hq.elim

theorem str_eq (a b : ByteArray) : (a.toList == b.toList) = decide (a = b) := by
  rw [ByteArray.toList_eq, ByteArray.toList_eq, Bool.eq_iff_iff, beq_iff_eq, decide_eq_true_eq]
  constructor
  · intro h; cases a; cases b; simp_all [Array.toList_inj]
  · intro h; rw [h]

theorem qint_ok {op : BinOp} {k : IntKind} {x y : Int} {v : AV} (hs : op ≠ .shl ∧ op ≠ .shr) (hq : qint op k x y (· = v)) (t : TypeId) (Fz : Nat → Prop) (D : Nat → Option Nat) (w : World) :
    ∃ u, (binOp op t (.int k x) (.int k y)).run P w = .ok u w ∧ Rv Fz D w v u := by
  unfold qint at hq
  split at hq <;> first
    | exact hq.elim
    | (subst hq; simp only [binOp, ne_eq, not_true_eq_false, if_false, Op.intArith, Op.intDiv, Op.intBits, Op.intCmp, Sem.run_pure]; exact ⟨_, rfl, by first | exact .int _ _ | exact .bool _⟩)
    | (obtain ⟨h0, rfl⟩ := hq; simp only [binOp, ne_eq, not_true_eq_false, if_false, Op.intDiv, h0, Sem.run_pure]; exact ⟨_, rfl, .int _ _⟩)

theorem qstr_ok {op : BinOp} {x y : ByteArray} {v : AV} (hq : qstr op x y (· = v)) (t : TypeId) (Fz : Nat → Prop) (D : Nat → Option Nat) (w : World) :
    ∃ u, (binOp op t (.string x) (.string y)).run P w = .ok u w ∧ Rv Fz D w v u := by
  unfold qstr at hq
  split at hq
  · obtain ⟨h0, rfl⟩ := hq
    refine ⟨.string (x ++ y), ?_, .str _⟩
    have : ¬ (((x.size + y.size : Nat) : Int) > IntKind.i64.max) := by
      have : IntKind.i64.max = 9223372036854775807 := by decide
      omega
    simp only [binOp, Op.stringOp, if_neg this, Sem.run_pure]
  · subst hq; exact ⟨_, by simp only [binOp, Op.stringOp, str_eq hΔ, Sem.run_pure], .bool _⟩
  · subst hq; exact ⟨_, by simp only [binOp, Op.stringOp, str_eq hΔ, Sem.run_pure], .bool _⟩
  · subst hq; exact ⟨_, by simp only [binOp, Op.stringOp, Sem.run_pure], .bool _⟩
  · exact hq.elim
end
end Go.AL
end
section
set_option linter.unusedVariables false
set_option linter.unusedSimpArgs false
set_option linter.unusedSectionVars false
namespace Go.AL

def plainV : Value → Bool
  | .nilIface | .agg _ => false
  | _ => true
theorem run_eqGuard {P : Program} {op : BinOp} {t : TypeId} {x y : Operand} {u v : Value} {w : World} (hu : plainV u = true) : (eqGuard op t x y u v).run P w = .ok () w := by
  cases u <;> first | (unfold eqGuard; cases op <;> simp; done) | (cases hu; done)

section
variable {P : Program} {Δ : Tab} (hΔ : Tab.Ok P Δ)
include hΔ

theorem ptr_und {t sz by_ : Nat} {z : List AV} (h : lk Δ t = some ⟨.ptr, sz, by_, z⟩) : ∃ e, P.underlying t = some (.pointer e) := by
  obtain ⟨u, h1, h2⟩ := und_ok hΔ h
  obtain ⟨e, rfl⟩ := fits_ptr h2
  exact ⟨e, h1⟩
theorem bool_und {t sz by_ : Nat} {z : List AV} (h : lk Δ t = some ⟨.bool, sz, by_, z⟩) : P.underlying t = some .bool := by
  obtain ⟨u, h1, h2⟩ := und_ok hΔ h
  rw [h1, fits_bool h2]

theorem isPtr_ok {X : Ctx} {S : St} {a : Act} {w : World} (hR : RX X S a w) {x : Operand} {v : AV} (hv : S.val x = some v) (hp : S.isPtr v = true) : ∃ ad, a.eval x = .pointer (some ad) := by
  cases v <;> first | cases hp | skip
  · obtain ⟨b, off, f, e, _⟩ := (hR.evd hv rfl).ptrF_inv; exact ⟨_, e⟩
  · obtain ⟨b, _, e⟩ := (hR.evd hv rfl).ptr_inv; exact ⟨_, e⟩
  · exact ⟨_, hR.evc hv rfl⟩
  · obtain ⟨b, o, n, cap, _, e⟩ := hR.evc hv rfl (Option.isSome_iff_ne_none.1 hp); exact ⟨_, e⟩

omit hΔ in
theorem equal_succ (t : TypeId) (x y : Value) : Op.equal t x y = Op.equalIn (9999 + 1) t x y := rfl
omit hΔ in
theorem equalIn_ptr (d : Nat) {t e : Nat} (ht : P.underlying t = some (.pointer e)) (p : Option Addr) (w : World) : (Op.equalIn (d + 1) t (.pointer p) (.pointer none)).run P w = .ok p.isNone w := by
  cases p <;> simp [Op.equalIn, underlying, ht]
omit hΔ in
theorem equalIn_bool (d : Nat) {t : Nat} (ht : P.underlying t = some .bool) (p q : Bool) (w : World) : (Op.equalIn (d + 1) t (.bool p) (.bool q)).run P w = .ok (p == q) w := by
  simp [Op.equalIn, underlying, ht]
omit hΔ in
theorem run_ptr_nil {t e : Nat} (ht : P.underlying t = some (.pointer e)) (p : Option Addr) (w : World) :
    (binOp .eql t (.pointer p) (.pointer none)).run P w = .ok (.bool p.isNone) w ∧ (binOp .neq t (.pointer p) (.pointer none)).run P w = .ok (.bool (!p.isNone)) w := by
  constructor <;> simp only [binOp, equal_succ, Sem.run_bind, equalIn_ptr _ ht, Result.andThen_ok, Sem.run_pure]
omit hΔ in
theorem run_bool_eq {t : Nat} (ht : P.underlying t = some .bool) (p q : Bool) (w : World) :
    (binOp .eql t (.bool p) (.bool q)).run P w = .ok (.bool (p == q)) w ∧ (binOp .neq t (.bool p) (.bool q)).run P w = .ok (.bool (!(p == q))) w := by
  constructor <;> simp only [binOp, equal_succ, Sem.run_bind, equalIn_bool _ ht, Result.andThen_ok, Sem.run_pure]

theorem eqK_ok {d : Nat} {ft : Nat} {td : TD} (ht : lk Δ ft = some td) {Fz : Nat → Prop} {D : Nat → Option Nat} {w : World} {x y : AV} {u v : Value} {b : Bool} (hx : Rv Fz D w x u) (hy : Rv Fz D w y v) (h : eqK td.k x y = some b) :
    (Op.equalIn (d + 1) ft u v).run P w = .ok b w ∧ td.agg = false := by
  obtain ⟨ty, h1, h2⟩ := und_ok hΔ ht
  obtain ⟨k, sz, by_, z⟩ := td
  simp only at h h2
  unfold eqK at h
  split at h
  · rename_i k0 k1 a1 k2 a2
    have e := fits_int h2
    subst e
    rw [hx.int_inv, hy.int_inv]
    cases hk : decide (k1 = k2)
    · rw [hk] at h; cases h
    · rw [hk] at h
      have hk := of_decide_eq_true hk
      subst hk
      cases h
      exact ⟨run_equalIn_int w d ft _ _ _ _ h1, rfl⟩
  · have e := fits_bool h2
    subst e
    rw [hx.bool_inv, hy.bool_inv]
    cases h
    exact ⟨run_equalIn_bool w d ft _ _ h1, rfl⟩
  · have e := fits_str h2
    subst e
    rw [hx.str_inv, hy.str_inv]
    cases h
    refine ⟨?_, rfl⟩
    rw [run_equalIn_string w d ft _ _ h1]
    congr 1
    rename_i a b
    by_cases hab : a = b
    · subst hab; simp
    · rw [decide_eq_false hab]
      refine beq_eq_false_iff_ne.2 (fun e => hab ?_)
      rw [ByteArray.toList_eq, ByteArray.toList_eq] at e
      exact ByteArray.ext (Array.toList_inj.1 e)
  · cases h

theorem part_leaf {ft : Nat} {td : TD} (ht : lk Δ ft = some td) (hag : td.agg = false) {w : World} {Fz : Nat → Prop} {D : Nat → Option Nat} {vs : Array Value} {cs : List AV} {off : Nat} {x : AV} (hn : cs.length = vs.size)
    (hr : ∀ (j : Nat) (x : AV) (v : Value), cs[j]? = some x → vs[j]? = some v → Rv Fz D w x v) (hx : cs[off]? = some x) : ∃ u, (part ft vs off).run P w = .ok u w ∧ Rv Fz D w x u := by
  refine part_ok hΔ ht hn hr ?_
  unfold qcells
  rw [hag]
  simp only [cond_false]
  obtain ⟨h1, h2⟩ := List.getElem?_eq_some_iff.1 hx
  rw [List.drop_eq_getElem_cons h1]
  exact h2

theorem eqFs_ok {d : Nat} {w : World} {Fz : Nat → Prop} {D : Nat → Option Nat} {xs ys : List AV} {us vs : Array Value} (n1 : xs.length = us.size) (n2 : ys.length = vs.size)
    (r1 : ∀ (j : Nat) (x : AV) (v : Value), xs[j]? = some x → us[j]? = some v → Rv Fz D w x v) (r2 : ∀ (j : Nat) (x : AV) (v : Value), ys[j]? = some x → vs[j]? = some v → Rv Fz D w x v) :
    ∀ (gs : List Field) {b : Bool}, (∀ f ∈ gs, f.name ≠ "_") → eqFs Δ xs ys (gs.map fun f => (f.offset, f.type)) = some b → (Op.eqFields (d + 1) us vs gs).run P w = .ok b w
  | [], b, _, h => by cases h; rfl
  | f :: gs, b, hnm, h => by
    simp only [List.map_cons, eqFs] at h
    split at h
    · rename_i td x y h1 h2 h3
      split at h
      · rename_i a c h4 h5
        cases h
        have hag : td.agg = false := by
          obtain ⟨k, sz, by_, z⟩ := td
          cases k <;> first | rfl | (simp [eqK] at h4)
        obtain ⟨u, p1, q1⟩ := part_leaf hΔ h1 hag n1 r1 h2
        obtain ⟨v, p2, q2⟩ := part_leaf hΔ h1 hag n2 r2 h3
        have ih := eqFs_ok (d := d) n1 n2 r1 r2 gs (fun f hf => hnm f (by simp [hf])) h5
        simp only [Op.eqFields]
        rw [if_pos (hnm f (by simp))]
        simp only [Sem.run_bind, p1, p2, (eqK_ok hΔ h1 q1 q2 h4).1, Result.andThen_ok]
        cases a
        · simp
        · simpa using ih
      · cases h
    · cases h

theorem struct_eq {t : Nat} {fs : List (Nat × Nat)} {sz by_ : Nat} {z : List AV} (ht : lk Δ t = some ⟨.struct fs, sz, by_, z⟩) {w : World} {Fz : Nat → Prop} {D : Nat → Option Nat} {xs ys : List AV} {us vs : Array Value} {b : Bool} (n1 : xs.length = us.size) (n2 : ys.length = vs.size)
    (r1 : ∀ (j : Nat) (x : AV) (v : Value), xs[j]? = some x → us[j]? = some v → Rv Fz D w x v) (r2 : ∀ (j : Nat) (x : AV) (v : Value), ys[j]? = some x → vs[j]? = some v → Rv Fz D w x v) (h : eqFs Δ xs ys fs = some b) :
    (Op.equalIn 10000 t (.agg us) (.agg vs)).run P w = .ok b w ∧ P.eqGuardType P.depth t = false := by
  obtain ⟨ty, h1, h2⟩ := und_ok hΔ ht
  obtain ⟨gs, rfl, rfl, hnm⟩ := fits_struct2 h2
  obtain ⟨s1, s2⟩ := TD.ok_eq (hΔ t _ ht) rfl
  have hf : P.fieldsOf t = gs := by simp only [Program.fieldsOf, h1]
  rw [run_equalIn_agg w 9999 t us vs (by rw [hf]; exact h1) s1, hf]
  exact ⟨eqFs_ok hΔ (d := 9998) n1 n2 r1 r2 gs.toList hnm h, s2⟩

theorem qbin_ok {X : Ctx} {S : St} {a : Act} {w : World} (hR : RX X S a w) {op : BinOp} {t : Nat} {x y : Operand} {v : AV}
    (hq : qbin Δ S op t (S.val x) (S.val y) (· = v)) :
    ∃ u, ((do eqGuard op t x y (a.eval x) (a.eval y); binOp op t (a.eval x) (a.eval y)) : Sem Value).run P w = .ok u w ∧ Rv X.Fz X.D w v u := by
  have step : plainV (a.eval x) = true → (∃ u, (binOp op t (a.eval x) (a.eval y)).run P w = .ok u w ∧ Rv X.Fz X.D w v u) →
      ∃ u, ((do eqGuard op t x y (a.eval x) (a.eval y); binOp op t (a.eval x) (a.eval y)) : Sem Value).run P w = .ok u w ∧ Rv X.Fz X.D w v u := by
    intro hp ⟨u, h1, h2⟩
    exact ⟨u, by simp only [Sem.run_bind, run_eqGuard hp, Result.andThen_ok, h1], h2⟩
  unfold qbin at hq
  split at hq
  · rename_i k m k' n h1 h2
    have e1 := (hR.evd h1 rfl).int_inv
    have e2 := (hR.evd h2 rfl).int_inv
    refine step (by rw [e1]; rfl) ?_
    rw [e1, e2]
    split at hq
    · obtain ⟨h0, rfl⟩ := hq
      exact ⟨_, by simp [binOp, Op.shift, show ¬ n < 0 from by omega], .int _ _⟩
    · obtain ⟨h0, rfl⟩ := hq
      exact ⟨_, by simp [binOp, Op.shift, show ¬ n < 0 from by omega], .int _ _⟩
    · rename_i hs1 hs2
      obtain ⟨rfl, hq⟩ := hq
      exact qint_ok hΔ ⟨hs1, hs2⟩ hq t X.Fz X.D w
  · rename_i s1 s2 h1 h2
    have e1 := (hR.evd h1 rfl).str_inv
    have e2 := (hR.evd h2 rfl).str_inv
    refine step (by rw [e1]; rfl) ?_
    rw [e1, e2]
    exact qstr_ok hΔ hq t X.Fz X.D w
  · rename_i h1 h2
    have e1 := (hR.evd h1 rfl).nilp_inv
    have e2 := (hR.evd h2 rfl).nilp_inv
    refine step (by rw [e1]; rfl) ?_
    rw [e1, e2]
    split at hq
    · rename_i ht
      obtain ⟨e, he⟩ := ptr_und hΔ ht
      subst hq; exact ⟨_, (run_ptr_nil he none w).1, .bool _⟩
    · rename_i ht
      obtain ⟨e, he⟩ := ptr_und hΔ ht
      subst hq; exact ⟨_, (run_ptr_nil he none w).2, .bool _⟩
    · exact hq.elim
  · rename_i b1 b2 h1 h2
    have e1 := (hR.evd h1 rfl).bool_inv
    have e2 := (hR.evd h2 rfl).bool_inv
    refine step (by rw [e1]; rfl) ?_
    rw [e1, e2]
    split at hq
    · rename_i ht
      have hu := bool_und hΔ ht
      subst hq; exact ⟨_, (run_bool_eq hu _ _ w).1, .bool _⟩
    · rename_i ht
      have hu := bool_und hΔ ht
      subst hq; exact ⟨_, (run_bool_eq hu _ _ w).2, .bool _⟩
    · exact hq.elim
  · rename_i xs ys h1 h2
    obtain ⟨us, e1, n1, r1⟩ := (hR.evd h1 rfl).agg_inv
    obtain ⟨vs, e2, n2, r2⟩ := (hR.evd h2 rfl).agg_inv
    rw [e1, e2]
    split at hq
    · rename_i ht
      split at hq
      · rename_i b hb
        subst hq
        obtain ⟨g1, g2⟩ := struct_eq hΔ ht n1 n2 r1 r2 hb
        exact ⟨.bool b, by simp only [Sem.run_bind, run_eqGuard_agg w _ _ _ _ _ _ g2, Result.andThen_ok, run_eql_struct, g1], .bool _⟩
      · exact hq.elim
    · rename_i ht
      split at hq
      · rename_i b hb
        subst hq
        obtain ⟨g1, g2⟩ := struct_eq hΔ ht n1 n2 r1 r2 hb
        exact ⟨.bool (!b), by simp only [Sem.run_bind, run_eqGuard_agg w _ _ _ _ _ _ g2, Result.andThen_ok, run_neq_struct, g1], .bool _⟩
      · exact hq.elim
    · exact hq.elim
  · rename_i x1 _ h2 h3
    obtain ⟨hp, hq⟩ := hq
    obtain ⟨ad, e1⟩ := isPtr_ok hΔ hR h2 hp
    have e2 := (hR.evd h3 rfl).nilp_inv
    refine step (by rw [e1]; rfl) ?_
    rw [e1, e2]
    split at hq
    · rename_i ht
      obtain ⟨e, he⟩ := ptr_und hΔ ht
      subst hq; exact ⟨_, (run_ptr_nil he (some ad) w).1, .bool _⟩
    · rename_i ht
      obtain ⟨e, he⟩ := ptr_und hΔ ht
      subst hq; exact ⟨_, (run_ptr_nil he (some ad) w).2, .bool _⟩
    · exact hq.elim
  · exact hq.elim

theorem slOf_ok {X : Ctx} {S : St} {a : Act} {w : World} (hR : RX X S a w) {x : Operand} {v : AV} {l : List (List AV)} (hv : S.val x = some v) (hs : S.slOf v = some l) : ∃ A cap, a.eval x = .slice A l.length cap ∧ l.length ≤ cap := by
  have own_form : ∀ {p c es u}, OwnV X w p c es u → ∃ A cap, u = .slice A es.length cap ∧ es.length ≤ cap := by
    intro p c es u ho
    rcases ho with ⟨rfl, A, rfl⟩ | ⟨b, off, cap, vs, T, rfl, _, _, _, k5, _⟩
    · exact ⟨A, 0, rfl, Nat.le_refl _⟩
    · exact ⟨_, cap, rfl, k5⟩
  unfold St.slOf at hs
  split at hs
  · cases hs
    obtain ⟨A, cap, e1, e2, _⟩ := (hR.evd hv rfl).sl_inv; exact ⟨A, cap, e1, e2⟩
  · cases hs
    obtain ⟨A, e1⟩ := (hR.evd hv rfl).emp_inv; exact ⟨A, 0, e1, Nat.le_refl _⟩
  · rename_i q
    split at hs
    · rename_i c es h3
      cases hs
      have hp := hR.evc hv rfl (by rw [h3]; simp)
      obtain ⟨A, cap, e1, e2⟩ := own_form (hR.own h3)
      exact ⟨A, cap, by rw [hp, e1], e2⟩
    · cases hs
  · rename_i q c lo hi
    split at hs
    · rename_i c' es h3
      cases hcc : Nat.beq c' c
      · rw [hcc] at hs; cases hs
      rw [hcc] at hs
      cases hs
      obtain ⟨A, B, n, cap, e1, e2, e3, e4, e5, _⟩ := hR.evc hv rfl (by rw [h3]; simp)
      obtain ⟨A', cap', k1, k2⟩ := own_form (hR.own h3)
      rw [e1] at k1; cases k1
      refine ⟨B, cap - lo, ?_, ?_⟩
      · rw [e2]; congr 1; simp; omega
      · simp; omega
    · cases hs
  · rename_i c es
    cases hs
    cases x with
    | tmp t => exact own_form (hR.evo hv)
    | const c => have := (ofConst_ok (hv : ofConst c = _) X.Fz X.D w).2; cases this
    | func f => simp [St.val] at hv
    | global g => simp [St.val] at hv
  · cases hs
end
end Go.AL
end
section
set_option linter.unusedVariables false
set_option linter.unusedSimpArgs false
set_option linter.unusedSectionVars false
namespace Go.AL

def CellsR (Fz : Nat → Prop) (D : Nat → Option Nat) (w : World) (cs : List AV) (vs : Array Value) : Prop :=
  cs.length = vs.size ∧ ∀ (j : Nat) (x : AV) (v : Value), cs[j]? = some x → vs[j]? = some v → Rv Fz D w x v

def laid (off : Nat) (vs : Array Value) (p : Value × Nat) : Array Value := vs.setIfInBounds (off + p.2) p.1

theorem laid_get (off : Nat) : ∀ (l : List Value) (n : Nat) (vs : Array Value) (k : Nat), off + n + l.length ≤ vs.size →
    ((l.zipIdx n).foldl (laid off) vs)[k]? = if off + n ≤ k ∧ k < off + n + l.length then l[k - (off + n)]? else vs[k]?
  | [], n, vs, k, h => by simp only [List.zipIdx_nil, List.foldl_nil, List.length_nil]; rw [if_neg (by omega)]
  | v :: l, n, vs, k, h => by
    simp only [List.length_cons] at h
    rw [List.zipIdx_cons, List.foldl_cons, laid_get off l (n + 1) _ k (by simp only [laid, Array.size_setIfInBounds]; omega)]
    simp only [laid, List.length_cons]
    by_cases h1 : off + (n + 1) ≤ k ∧ k < off + (n + 1) + l.length
    · rw [if_pos h1, if_pos (by omega), show k - (off + n) = (k - (off + (n + 1))) + 1 from by omega, List.getElem?_cons_succ]
    · rw [if_neg h1]
      by_cases h2 : k = off + n
      · subst h2
        rw [if_pos (by omega), Nat.sub_self, List.getElem?_cons_zero, Array.getElem?_setIfInBounds_self_of_lt (by omega)]
      · rw [if_neg (by omega), Array.getElem?_setIfInBounds_ne (by omega)]

theorem laid_size (off : Nat) : ∀ (l : List (Value × Nat)) (vs : Array Value), (l.foldl (laid off) vs).size = vs.size
  | [], _ => rfl
  | p :: l, vs => by rw [List.foldl_cons, laid_size off l, laid, Array.size_setIfInBounds]

theorem foldl_laid (off : Nat) (us vs : Array Value) : us.zipIdx.foldl (fun cs (c, j) => cs.setIfInBounds (off + j) c) vs = (us.toList.zipIdx 0).foldl (laid off) vs := by
  rw [← Array.foldl_toList, Array.toList_zipIdx]
  rfl

theorem over_get {cs xs : List AV} {off k : Nat} (h : off + xs.length ≤ cs.length) : (over cs off xs)[k]? = if off ≤ k ∧ k < off + xs.length then xs[k - off]? else cs[k]? := by
  unfold over
  by_cases h1 : k < off
  · rw [if_neg (by omega), List.append_assoc, List.getElem?_append_left (by simp; omega), List.getElem?_take_of_lt h1]
  · by_cases h2 : k < off + xs.length
    · rw [if_pos (by omega), List.getElem?_append_left (by simp; omega), List.getElem?_append_right (by simp; omega)]
      congr 1; simp; omega
    · rw [if_neg (by omega), List.getElem?_append_right (by simp; omega), List.getElem?_drop]
      congr 1; simp; omega
theorem over_length {cs xs : List AV} {off : Nat} (h : off + xs.length ≤ cs.length) : (over cs off xs).length = cs.length := by
  unfold over; simp; omega

section
variable {Fz : Nat → Prop} {D : Nat → Option Nat} {w : World}
theorem CellsR.over {cs xs : List AV} {vs us : Array Value} {off : Nat} (h : CellsR Fz D w cs vs) (k : CellsR Fz D w xs us) (ho : off + xs.length ≤ cs.length) :
    CellsR Fz D w (AL.over cs off xs) (us.zipIdx.foldl (fun cs (c, j) => cs.setIfInBounds (off + j) c) vs) := by
  rw [foldl_laid]
  refine ⟨by rw [over_length ho, laid_size, h.1], fun j x v hx hv => ?_⟩
  rw [over_get ho] at hx
  rw [laid_get off us.toList 0 vs j (by rw [← h.1]; simp [← k.1]; omega)] at hv
  simp only [Nat.add_zero, Array.length_toList, ← k.1] at hv
  by_cases h1 : off ≤ j ∧ j < off + xs.length
  · rw [if_pos h1] at hx hv
    exact k.2 _ _ _ hx (by simpa using hv)
  · rw [if_neg h1] at hx hv
    exact h.2 _ _ _ hx hv
theorem Rv.cellsR {x : AV} {v : Value} (h : Rv Fz D w x v) : CellsR Fz D w x.cells v.cells := by
  cases h with
  | agg cs vs hn hr => exact ⟨hn, hr⟩
  | _ => exact ⟨rfl, fun j x v hx hv => by
      cases j with
      | zero => simp [AV.cells, Value.cells] at hx hv; subst hx; subst hv; constructor <;> assumption
      | succ j => simp [AV.cells] at hx⟩
theorem zcell_ok {x : AV} {v : Value} (h : zcell x v = true) : Rv Fz D w x v := by
  unfold zcell at h
  split at h <;> simp at h
  · obtain ⟨rfl, rfl⟩ := h; exact .int _ _
  · subst h; exact .bool _
  · rename_i s t
    have : s = t := by
      obtain ⟨h1, h2⟩ := h
      subst h1; subst h2; rfl
    subst this; exact .str _
  · exact .emp _
  · exact .nilp
theorem zcells_ok {xs : List AV} : ∀ {vs : List Value}, zcells xs vs = true → xs.length = vs.length ∧ ∀ (j : Nat) (x : AV) (v : Value), xs[j]? = some x → vs[j]? = some v → Rv Fz D w x v := by
  induction xs with
  | nil => intro vs h; cases vs <;> simp [zcells] at h; exact ⟨rfl, fun j x v h => by simp at h⟩
  | cons x xs ih =>
    intro vs h
    cases vs with
    | nil => simp [zcells] at h
    | cons v vs =>
      simp only [zcells, Bool.and_eq_true] at h
      obtain ⟨g1, g2⟩ := ih h.2
      refine ⟨by simp [g1], fun j x' v' hx hv => ?_⟩
      cases j with
      | zero => simp at hx hv; subst hx; subst hv; exact zcell_ok h.1
      | succ j => exact g2 j x' v' (by simpa using hx) (by simpa using hv)
end

section
variable {P : Program} {Δ : Tab} (hΔ : Tab.Ok P Δ)
include hΔ

theorem zero_ok {t : Nat} {d : TD} (h : lk Δ t = some d) (hk : d.k ≠ .tup) (hf : d.k ≠ .fn) (Fz : Nat → Prop) (D : Nat → Option Nat) (w : World) :
    ∃ z, (zeroValue t).run P w = .ok z w ∧ CellsR Fz D w d.zero z.cells := by
  obtain ⟨i, z, h1, h2, h3⟩ := TD.ok_zero (hΔ t d h) hk hf
  obtain ⟨g1, g2⟩ := zcells_ok (Fz := Fz) (D := D) (w := w) h3
  exact ⟨z, by simp [zeroValue, typeInfo, h1, h2], by simpa using g1, fun j x v hx hv => g2 j x v hx (by simpa using hv)⟩

theorem fill_ok {X : Ctx} {S : St} {a : Act} {w : World} (hR : RX X S a w) {place : Nat → Option (Nat × Nat)} : ∀ (parts : List (Nat × Operand)) {z cs : List AV} {zs : Array Value}, CellsR X.Fz X.D w z zs →
    fillB S place z parts = some cs → ∃ vs, Instr.fill place zs (parts.map fun p => (p.1, a.eval p.2)) = some vs ∧ CellsR X.Fz X.D w cs vs
  | [], z, cs, zs, hz, h => by cases h; exact ⟨zs, rfl, hz⟩
  | (i, x) :: r, z, cs, zs, hz, h => by
    simp only [fillB] at h
    split at h
    · rename_i off n v h1 h2
      cases hc : v.isDeep && Nat.beq v.cells.length n && Nat.ble (off + n) z.length with
      | false => rw [hc] at h; cases h
      | true =>
        rw [hc] at h
        simp only [cond_true] at h
        simp only [Bool.and_eq_true] at hc
        obtain ⟨⟨h3, h4⟩, h5⟩ := hc
        have h4 := Nat.eq_of_beq_eq_true h4
        have h5 := Nat.le_of_ble_eq_true h5
        have hv := (hR.evd h2 h3).cellsR
        obtain ⟨vs, g1, g2⟩ := fill_ok hR r (hz.over hv (by omega)) h
        refine ⟨vs, ?_, g2⟩
        have e1 : (a.eval x).cells.size = n := by rw [← hv.1]; exact h4
        have e2 : zs.size = z.length := hz.1.symm
        simp only [List.map_cons, Instr.fill, h1]
        rw [if_neg (by rw [e1, e2]; simp; omega)]
        exact g1
    · cases h

theorem mapM_places {gs : List Field} {w : World} (hs : ∀ g ∈ gs, (lk Δ g.type).isSome = true) :
    ∃ ps, (gs.mapM fun f => do pure (f.offset, ← sizeOf f.type) : Sem (List (Nat × Nat))).run P w = .ok ps w ∧ ps.length = gs.length ∧ ∀ i : Nat, ps[i]? = places Δ (gs.map fun f => (f.offset, f.type)) i := by
  induction gs with
  | nil => exact ⟨[], by simp, rfl, fun i => by simp [places]⟩
  | cons g gs ih =>
    obtain ⟨ps, h1, h2, h3⟩ := ih (fun g' hg' => hs g' (by simp [hg']))
    obtain ⟨d, hd⟩ := Option.isSome_iff_exists.1 (hs g (by simp))
    refine ⟨(g.offset, d.size) :: ps, ?_, by simp [h2], fun i => ?_⟩
    · simp only [List.mapM_cons, Sem.run_bind, run_sizeOf hΔ hd, Result.andThen_ok, Sem.run_pure, h1]
    · cases i with
      | zero => simp [places, hd]
      | succ i => have := h3 i; simp only [places] at this ⊢; simpa using this

theorem qbuild_ok {X : Ctx} {S : St} {a : Act} {w : World} (hR : RX X S a w) {t : Nat} {ps : Array (Nat × Operand)} {v : AV} (hq : qbuild Δ S t ps.toList (· = v)) :
    ∃ u, (Instr.build t (ps.map fun (i, x) => (i, a.eval x))).run P w = .ok u w ∧ Rp X S a w .res v u ∧ v.copyable = true := by
  unfold qbuild at hq
  split at hq
  · rename_i fs sz by_ z h1
    obtain ⟨h0, hq⟩ := hq
    split at hq
    · rename_i cs h2
      subst hq
      obtain ⟨u, g1, g2⟩ := und_ok hΔ h1
      obtain ⟨gs, rfl, h3⟩ := fits_struct g2
      obtain ⟨zv, k1, k2⟩ := zero_ok hΔ h1 (by simp) (by simp) X.Fz X.D w
      have hs : ∀ g ∈ gs.toList, (lk Δ g.type).isSome = true := by
        intro g hg
        have := List.all_eq_true.1 h0 (g.offset, g.type) (by rw [h3]; exact List.mem_map.2 ⟨g, hg, rfl⟩)
        exact this
      obtain ⟨pl, m1, m2, m3⟩ := mapM_places hΔ (w := w) hs
      obtain ⟨vs, n1, n2⟩ := fill_ok hΔ hR ps.toList k2 h2
      refine ⟨.agg vs, ?_, .agg _ _ n2.1 n2.2, rfl⟩
      have hpl : ((gs.mapM fun f => do pure (f.offset, ← sizeOf f.type)) : Sem (Array (Nat × Nat))).run P w = .ok pl.toArray w := by
        rw [Array.mapM_eq_mapM_toList]
        simp only [Sem.run_map, m1, Result.andThen_ok]
      have hfun : (fun i : Nat => pl.toArray[i]?) = places Δ fs := by
        funext i; rw [h3]; simpa using m3 i
      simp only [Instr.build, Sem.run_bind, k1, Result.andThen_ok, underlying, run_program, g1, Sem.run_pure, hpl]
      have : (ps.map fun (i, x) => (i, a.eval x)).toList = ps.toList.map fun p => (p.1, a.eval p.2) := by simp
      rw [this, hfun, n1]
      rfl
    · exact hq.elim
  · rename_i n e sz by_ z h1
    split at hq
    · rename_i d hd
      split at hq
      · rename_i cs h2
        subst hq
        obtain ⟨zv, k1, k2⟩ := zero_ok hΔ h1 (by simp) (by simp) X.Fz X.D w
        obtain ⟨vs, n1, n2⟩ := fill_ok hΔ hR ps.toList k2 h2
        refine ⟨.agg vs, ?_, .agg _ _ n2.1 n2.2, rfl⟩
        simp only [Instr.build, Sem.run_bind, k1, Result.andThen_ok, underlying, run_program, arr_und hΔ h1, Sem.run_pure, run_sizeOf hΔ hd]
        have : (ps.map fun (i, x) => (i, a.eval x)).toList = ps.toList.map fun p => (p.1, a.eval p.2) := by simp
        rw [this, n1]
        rfl
      · exact hq.elim
    · exact hq.elim
  · exact hq.elim
end
end Go.AL
end
section
set_option linter.unusedVariables false
set_option linter.unusedSimpArgs false
set_option linter.unusedSectionVars false
namespace Go.AL

theorem zeros_length (z : List AV) : ∀ n, (zeros z n).length = n * z.length
  | 0 => by simp [zeros]
  | n + 1 => by rw [zeros, List.length_append, zeros_length z n, Nat.succ_mul]; omega
theorem zeros_get (z : List AV) : ∀ n k, k < n * z.length → (zeros z n)[k]? = z[k % z.length]?
  | 0, k, h => by omega
  | n + 1, k, h => by
    rw [Nat.succ_mul] at h
    by_cases h1 : k < z.length
    · rw [zeros, List.getElem?_append_left h1, Nat.mod_eq_of_lt h1]
    · rw [zeros, List.getElem?_append_right (by omega), zeros_get z n _ (by omega), Nat.mod_eq_sub_mod (a := k) (by omega)]
theorem chop_flatten (c : Nat) : ∀ n (l : List AV), l.length = n * c → (chop c n l).flatten = l
  | 0, l, h => by simp at h; subst h; rfl
  | n + 1, l, h => by
    rw [Nat.succ_mul] at h
    rw [chop, List.flatten_cons, chop_flatten c n (l.drop c) (by simp; omega), List.take_append_drop]
theorem chop_length (c : Nat) : ∀ n (l : List AV), (chop c n l).length = n
  | 0, l => rfl
  | n + 1, l => by rw [chop, List.length_cons, chop_length]
theorem chop_each (c : Nat) : ∀ n (l : List AV), l.length = n * c → ∀ es ∈ chop c n l, es.length = c
  | 0, l, h, es, hes => by simp [chop] at hes
  | n + 1, l, h, es, hes => by
    rw [Nat.succ_mul] at h
    rw [chop] at hes
    rcases List.mem_cons.1 hes with rfl | hes
    · simp; omega
    · exact chop_each c n _ (by simp; omega) es hes

theorem heap_alloc (w : World) (o : Obj) (k : Nat) (h : k < w.heap.size) : (w.alloc o).heap[k]? = w.heap[k]? := Go.RowKit.Below.heap_alloc w o k h
theorem heap_alloc_new (w : World) (o : Obj) : (w.alloc o).heap[w.heap.size]? = some o := by show (w.heap.push o)[w.heap.size]? = _; simp

def Ctx.fz (X : Ctx) (b : Nat) : Ctx := { X with Fz := fun k => X.Fz k ∨ k = b }

section
variable {P : Program} {Δ : Tab} (hΔ : Tab.Ok P Δ)
include hΔ

theorem zeros_ok {Fz : Nat → Prop} {D : Nat → Option Nat} {w : World} {z : List AV} {zs : Array Value} {n c : Nat} (h : CellsR Fz D w z zs) (hc : z.length = c) (hp : 0 < c) :
    CellsR Fz D w (zeros z n) ((Array.range (n * c)).map fun k => zs[k % zs.size]!) := by
  subst hc
  refine ⟨by simp [zeros_length], fun j x v hx hv => ?_⟩
  have hj : j < n * z.length := by have := (Array.getElem?_eq_some_iff.1 hv).1; simpa using this
  rw [zeros_get z n j hj] at hx
  have hm : j % z.length < z.length := Nat.mod_lt _ hp
  simp only [Array.getElem?_map, Array.getElem?_range, hj, if_true, Option.map_some, Option.some.injEq] at hv
  refine h.2 _ x v hx ?_
  rw [← hv, ← h.1, getElem!_pos zs (j % z.length) (by rw [← h.1]; exact hm)]
  exact Array.getElem?_eq_getElem (by rw [← h.1]; exact hm)

theorem qbslice_ok {X : Ctx} {S : St} {a : Act} {w : World} (hR : RX X S a w) {t n : Nat} {ps : Array (Nat × Operand)} {v : AV} (hq : qbslice Δ S t n ps.toList (· = v)) :
    ∃ u o, (Instr.buildSlice t n (ps.map fun (i, x) => (i, a.eval x))).run P w = .ok u (w.alloc o) ∧ Rv (X.fz w.heap.size).Fz X.D (w.alloc o) v u := by
  unfold qbslice at hq
  split at hq
  · rename_i e sz by_ z h1
    split at hq
    · rename_i d hd
      have hpos := size_pos hΔ hd
      split at hq
      · obtain ⟨hps, rfl⟩ := hq
        have : (ps.map fun (i, x) => (i, a.eval x)).toList = [] := by simp [hps]
        refine ⟨.slice (some ⟨w.heap.size, 0, none⟩) 0 0, .cells (Array.map (fun x => default) (Array.range 0)) e, ?_, .emp _⟩
        simp [Instr.buildSlice, underlying, elem_und hΔ h1, run_sizeOf hΔ hd, hps, Instr.fill, newRow]
      · rename_i n
        obtain ⟨h3, h4, h5, hq⟩ := hq
        split at hq
        · rename_i cs h6
          subst hq
          have hk : d.k ≠ .tup := fun e => by rw [e] at h5; exact h5
          have hf : d.k ≠ .fn := fun e => by rw [e] at h5; exact h5
          obtain ⟨zv, k1, k2⟩ := zero_ok hΔ hd hk hf X.Fz X.D w
          have k3 := zeros_ok hΔ (n := n + 1) k2 h4 hpos
          obtain ⟨vs, n1, n2⟩ := fill_ok hΔ hR ps.toList k3 h6
          have hlen : cs.length = (n + 1) * d.size := by
            have : vs.size = (n + 1) * d.size := by
              have hsz : ∀ (l : List (Nat × Value)) (zs vs : Array Value) (place : Nat → Option (Nat × Nat)), Instr.fill place zs l = some vs → vs.size = zs.size := by
                intro l
                induction l with
                | nil => intro zs vs place h; cases h; rfl
                | cons p l ih =>
                  intro zs vs place h
                  obtain ⟨i, x⟩ := p
                  simp only [Instr.fill] at h
                  split at h
                  · cases h
                  · split at h
                    · cases h
                    · rw [ih _ _ _ h, foldl_laid, laid_size]
              rw [hsz _ _ _ _ n1]; simp
            rw [n2.1, this]
          refine ⟨.slice (some ⟨w.heap.size, 0, none⟩) (n + 1) (n + 1), .cells vs e, ?_, ?_⟩
          · have e1 : (ps.map fun (i, x) => (i, a.eval x)).toList = ps.toList.map fun p => (p.1, a.eval p.2) := by simp
            have e2 : ¬ ((n + 1) * d.size > 2 ^ 24) := by omega
            have e3 : ¬ ((n + 1) * d.size = 0) := by
              intro h; rcases Nat.mul_eq_zero.1 h with h | h <;> omega
            simp only [Instr.buildSlice, Sem.run_bind, underlying, run_program, Result.andThen_ok, elem_und hΔ h1, Sem.run_pure, run_sizeOf hΔ hd, Sem.run_ite, if_neg e2, if_neg e3, k1]
            rw [e1, n1]
            rfl
          · refine SlV.mk ⟨some ⟨w.heap.size, 0, none⟩, n + 1, by rw [chop_length], by rw [chop_length]; exact Nat.le_refl _, fun _ => ⟨w.heap.size, 0, d.size, fun k => vs.getD k undef, rfl, .inr rfl, chop_each _ _ _ hlen, ?_, ?_⟩⟩
            · intro k x hk
              rw [chop_flatten _ _ _ hlen] at hk
              have hlt : k < vs.size := by rw [← n2.1]; exact (List.getElem?_eq_some_iff.1 hk).1
              rw [World.cell?_alloc_new, Nat.zero_add]
              simp [hlt]
            · intro k x hk
              rw [chop_flatten _ _ _ hlen] at hk
              have hlt : k < vs.size := by rw [← n2.1]; exact (List.getElem?_eq_some_iff.1 hk).1
              exact (n2.2 k x _ hk (by simp [hlt])).mono (fun b hb => .inl hb) (fun _ _ h => h) (fun b hb => heap_alloc _ _ _ (hR.inh b (.inl hb)))
        · exact hq.elim
    · exact hq.elim
  · exact hq.elim
end
end Go.AL
end
section
set_option linter.unusedVariables false
set_option linter.unusedSimpArgs false
set_option linter.unusedSectionVars false
namespace Go.AL

structure Ext (X : Ctx) (w : World) (X' : Ctx) (w' : World) : Prop where
  os : w'.os = w.os
  tape : w'.tape = w.tape
  output : w'.output = w.output
  size : w.heap.size ≤ w'.heap.size
  heap : ∀ b, b < w.heap.size → w'.heap[b]? = w.heap[b]?
  D : ∀ i b, X.D i = some b → X'.D i = some b
  fin : (∃ M, ∀ i, M ≤ i → X.D i = none) → ∃ M, ∀ i, M ≤ i → X'.D i = none
  L : X'.L = X.L
  O : X'.O = X.O
  fz : ∀ b, X.Fz b → X'.Fz b
  new : ∀ b, X'.Fz b → X.Fz b ∨ (w.heap.size ≤ b ∧ b < w'.heap.size)

theorem Ext.refl (X : Ctx) (w : World) : Ext X w X w := ⟨rfl, rfl, rfl, Nat.le_refl _, fun _ _ => rfl, fun _ _ h => h, fun h => h, rfl, rfl, fun _ h => h, fun _ h => .inl h⟩

theorem RX.ext {X X' : Ctx} {S : St} {a : Act} {w w' : World} (h : RX X S a w) (e : Ext X w X' w') : RX X' S a w' := by
  have h1 := h.world e.size (fun b hb => e.heap b (h.inh b hb))
  have hh : ∀ q, S.ownAt q ≠ none → hdr X' a w' q = hdr X a w' q := by
    intro q hq
    cases q with
    | g k off =>
      obtain ⟨cs, c, l, e1, _⟩ := live_g hq
      obtain ⟨b, g1, _⟩ := h.gob k cs e1
      simp [hdr, g1, e.D _ _ g1]
    | l k off => simp [hdr, e.L]
    | _ => rfl
  have own : ∀ {p c l v}, OwnV X w' p c l v → OwnV X' w' p c l v := by
    intro p c l v h
    rcases h with h | ⟨b, off, cap, vs, T, g1, g2, g3, g4, g5, g6, g7⟩
    · exact .inl h
    · refine .inr ⟨b, off, cap, vs, T, g1, by rw [e.O]; exact g2, g3, g4, g5, g6, fun k x hk => ?_⟩
      obtain ⟨v, k1, k2⟩ := g7 k x hk
      exact ⟨v, k1, k2.mono e.fz e.D (fun _ _ => rfl)⟩
  have rv : ∀ {x v}, Rv X.Fz X.D w' x v → Rv X'.Fz X'.D w' x v := fun h => h.mono e.fz e.D (fun _ _ => rfl)
  have rc : ∀ {p x v}, Rc X w' p x v → Rc X' w' p x v := by
    intro p x v h
    cases x <;> first | exact own h | exact trivial | exact rv h
  refine ⟨fun t x hx => ?_, fun k cs hk => ?_, fun k cs hk => ?_, fun b hb => ?_, fun b hb => ?_⟩
  · obtain ⟨g1, g2⟩ := h1.env t x hx
    refine ⟨g1, ?_⟩
    revert g2
    generalize a.tmps.getD t undef = v
    intro g2
    cases x with
    | own c l => exact own g2
    | view q => intro hl; rw [hh _ hl]; exact g2 hl
    | sub q c lo hi => intro hl; rw [hh _ hl]; exact g2 hl
    | eptr q c i off => intro hl; rw [hh _ hl]; exact g2 hl
    | iter s pos => obtain ⟨b, k1, k2, k3⟩ := g2; exact ⟨b, k1, by rw [e.O]; exact k2, k3⟩
    | lptr k off => show v = _; rw [e.L]; exact g2
    | junk => exact trivial
    | _ => exact rv g2
  · obtain ⟨g1, vs, T, g2, g3, g4⟩ := h1.loc k cs hk
    rw [e.L, e.O]
    exact ⟨g1, vs, T, g2, g3, fun j x hj => rc (g4 j x hj)⟩
  · obtain ⟨b, g0, g1, vs, T, g2, g3, g4⟩ := h1.gob k cs hk
    refine ⟨b, e.D _ _ g0, by rw [e.O]; exact g1, vs, T, g2, g3, fun j x hj => rc (g4 j x hj)⟩
  · rw [e.O]
    rcases e.new b hb with h2 | ⟨h2, _⟩
    · exact h.dis b h2
    · rcases ho : X.O b with _ | p
      · rfl
      · have := h.inh b (.inr (by rw [ho]; simp)); omega
  · rw [e.O] at hb
    rcases hb with hb | hb
    · rcases e.new b hb with h2 | ⟨_, h2⟩
      · exact h1.inh b (.inl h2)
      · exact h2
    · exact h1.inh b (.inr hb)

def Yields (P : Program) (o : Oper) (X : Ctx) (S : St) (a : Act) (w : World) (x : AV) : Prop :=
  ∀ (K : Act → World → Prop) (Q : Exit → Act → World → Prop), (∀ v w' X', Ext X w X' w' → Rp X' S a w' .res x v → K (a.put o.dst v) w') → o.wp P a w K Q

theorem wp_value {P : Program} {o : Oper} {a : Act} {w w' : World} {v : Value} {K : Act → World → Prop} {Q : Exit → Act → World → Prop} (h : (execOp a.eval o).run P w = .ok (.value v) w') (hk : K (a.put o.dst v) w') : o.wp P a w K Q := by
  unfold Oper.wp
  rw [h]
  exact hk

theorem Yields.pure {P : Program} {o : Oper} {X : Ctx} {S : St} {a : Act} {w : World} {x : AV} {u : Value} (h : (execOp a.eval o).run P w = .ok (.value u) w) (hr : Rp X S a w .res x u) : Yields P o X S a w x :=
  fun K Q hk => wp_value h (hk u w X (Ext.refl _ _) hr)

theorem run_v {P : Program} {s : Sem Value} {w w' : World} {u : Value} (h : s.run P w = .ok u w') : ((do pure (.value (← s))) : Sem Next).run P w = .ok (.value u) w' := by
  simp only [Sem.run_bind, h, Result.andThen_ok, Sem.run_pure]

theorem qmove_ok {X : Ctx} {S : St} {a : Act} {w : World} (hR : RX X S a w) {x : Operand} {v : AV} (hq : qmove S x (· = v)) : Rp X S a w .res v (a.eval x) ∧ v.copyable = true := by
  unfold qmove at hq
  split at hq
  · rename_i t c l h; subst hq; exact ⟨fun _ => rfl, rfl⟩
  · rename_i u _ h; obtain ⟨h1, rfl⟩ := hq; exact ⟨hR.evc h h1, h1⟩
  · exact hq.elim

def lent (X : Ctx) (b : Nat) : Prop := X.Fz b ∨ ∃ p, X.O b = some (.row p)

theorem argOf_ok {X : Ctx} {S : St} {a : Act} {w : World} (hR : RX X S a w) {x : Operand} {v : AV} (h : S.argOf x = some v) : Rv (lent X) X.D w v (a.eval x) := by
  unfold St.argOf at h
  split at h
  · rename_i y hy
    cases hd : y.isDeep
    · rw [hd] at h
      simp only [cond_false] at h
      split at h
      · rename_i l hl
        cases h
        have own : ∀ {p c es u}, OwnV X w p c es u → SlV (lent X) X.D w es u := by
          intro p c es u ho
          rcases ho with ⟨rfl, A, rfl⟩ | ⟨b, off, cap, vs, T, rfl, k2, k3, k4, k5, k6, k7⟩
          · exact ⟨A, 0, rfl, Nat.le_refl _, fun h => absurd rfl h⟩
          · refine ⟨_, cap, rfl, k5, fun _ => ⟨b, off, c, fun k => vs.getD (off + k) undef, rfl, .inr ⟨p, k2⟩, k6, fun k x hk => ?_, fun k x hk => ?_⟩⟩
            · obtain ⟨v, g1, g2⟩ := k7 k x hk
              have hlt := (Array.getElem?_eq_some_iff.1 g1).1
              simp [World.cell?, k3, hlt]
            · obtain ⟨v, g1, g2⟩ := k7 k x hk
              show Rv (lent X) X.D w x (vs.getD (off + k) undef)
              rw [Array.getD_eq_getD_getElem?, g1]
              exact g2.mono (fun b hb => .inl hb) (fun _ _ h => h) (fun _ _ => rfl)
        unfold St.slOf at hl
        split at hl
        · cases hd
        · cases hd
        · rename_i q
          split at hl
          · rename_i c es h3
            cases hl
            have hp := hR.evc hy rfl (by rw [h3]; simp)
            rw [hp]
            exact SlV.mk (own (hR.own h3))
          · cases hl
        · rename_i q c lo hi
          split at hl
          · rename_i c' es h3
            cases hcc : Nat.beq c' c
            · rw [hcc] at hl; cases hl
            have hcc := Nat.eq_of_beq_eq_true hcc
            subst hcc
            rw [Nat.beq_refl] at hl
            cases hl
            obtain ⟨A, B, n, cap, e1, e2, e3, e4, e5, e6⟩ := hR.evc hy rfl (by rw [h3]; simp)
            rcases hR.own h3 with ⟨rfl, A', k1⟩ | ⟨b, off, cap', vs, T, k1, k2, k3, k4, k5, k6, k7⟩
            · rw [e1] at k1; cases k1
              rw [e2]
              refine SlV.mk ⟨B, 0 - lo, by congr 1; simp; omega, by simp, fun h => absurd (by simp) h⟩
            · rw [e1] at k1; cases k1
              rw [e2]
              refine SlV.mk ⟨B, cap - lo, by congr 1; simp; omega, by simp; omega, fun hne => ?_⟩
              have hlt : lo < hi := by
                rcases Nat.lt_or_ge lo hi with g | g
                · exact g
                · exact absurd (List.drop_eq_nil_iff.2 (by simp; omega)) hne
              refine ⟨b, off + lo * c', c', fun k => vs.getD (off + (lo * c' + k)) undef, by rw [e6 (by omega)]; simp [add_none], .inr ⟨q, k2⟩, fun cs hcs => k6 cs (List.mem_of_mem_take (List.mem_of_mem_drop hcs)), fun k x hk => ?_, fun k x hk => ?_⟩
              · obtain ⟨v, g1, g2⟩ := k7 _ x (flat_take_drop k6 hk)
                have hlt := (Array.getElem?_eq_some_iff.1 g1).1
                rw [show off + lo * c' + k = off + (lo * c' + k) from by omega]
                simp [World.cell?, k3, hlt]
              · obtain ⟨v, g1, g2⟩ := k7 _ x (flat_take_drop k6 hk)
                show Rv (lent X) X.D w x (vs.getD (off + (lo * c' + k)) undef)
                rw [Array.getD_eq_getD_getElem?, g1]
                exact g2.mono (fun b hb => .inl hb) (fun _ _ h => h) (fun _ _ => rfl)
          · cases hl
        · rename_i c es
          cases hl
          cases x with
          | tmp t => exact SlV.mk (own (hR.evo hy))
          | const c => have := (ofConst_ok (hy : ofConst c = _) X.Fz X.D w).2; cases this
          | func f => simp [St.val] at hy
          | global g => simp [St.val] at hy
        · cases hl
      · cases h
    · rw [hd] at h
      cases h
      exact (hR.evd hy hd).mono (fun b hb => .inl hb) (fun _ _ h => h) (fun _ _ => rfl)
  · cases h
theorem argsOf_ok {X : Ctx} {S : St} {a : Act} {w : World} (hR : RX X S a w) : ∀ {xs : List Operand} {vs : List AV}, S.argsOf xs = some vs →
    vs.length = xs.length ∧ ∀ (i : Nat) (v : AV), vs[i]? = some v → ∃ x, xs[i]? = some x ∧ Rv (lent X) X.D w v (a.eval x)
  | [], vs, h => by cases h; exact ⟨rfl, fun i v h => by simp at h⟩
  | x :: xs, vs, h => by
    simp only [St.argsOf] at h
    split at h
    · rename_i v vs' h1 h2
      cases h
      obtain ⟨g1, g2⟩ := argsOf_ok hR h2
      refine ⟨by simp [g1], fun i u hu => ?_⟩
      cases i with
      | zero => simp at hu; subst hu; exact ⟨x, by simp, argOf_ok hR h1⟩
      | succ i => obtain ⟨y, k1, k2⟩ := g2 i u (by simpa using hu); exact ⟨y, by simpa using k1, k2⟩
    · cases h
theorem deepArgs_ok {X : Ctx} {S : St} {a : Act} {w : World} (hR : RX X S a w) : ∀ {xs : List Operand} {vs : List AV}, S.argsOf xs = some vs → S.deepArgs xs = true →
    ∀ (i : Nat) (v : AV), vs[i]? = some v → ∃ x, xs[i]? = some x ∧ Rv X.Fz X.D w v (a.eval x)
  | [], vs, h, _ => by cases h; exact fun i v h => by simp at h
  | x :: xs, vs, h, hd => by
    simp only [St.argsOf] at h
    simp only [St.deepArgs, Bool.and_eq_true] at hd
    split at h
    · rename_i v vs' h1 h2
      cases h
      refine fun i u hu => ?_
      cases i with
      | zero =>
        simp at hu; subst hu
        refine ⟨x, by simp, ?_⟩
        have hd1 := hd.1
        simp only [St.argOf] at h1
        split at h1
        · rename_i y hy
          rw [hy] at hd1
          rw [show y.isDeep = true from hd1] at h1
          cases h1
          exact hR.evd hy hd1
        · cases h1
      | succ i => obtain ⟨y, k1, k2⟩ := deepArgs_ok hR h2 hd.2 i u (by simpa using hu); exact ⟨y, by simpa using k1, k2⟩
    · cases h

theorem noRef_any {Fz Fz' : Nat → Prop} {D D' : Nat → Option Nat} {w w' : World} {x : AV} {v : Value} (h : Rv Fz D w x v) (hn : x.noRef = true) : Rv Fz' D' w' x v := by
  have leaf : ∀ {x v}, Rv Fz D w x v → x.leafNoRef = true → Rv Fz' D' w' x v := by
    intro x v h hn
    cases h <;> first | exact .int _ _ | exact .bool _ | exact .str _ | cases hn
  cases h with
  | agg cs vs hl hr => exact .agg cs vs hl (fun j x v hx hv => leaf (hr j x v hx hv) (List.all_eq_true.1 hn x (List.mem_of_getElem? hx)))
  | tup cs vs hl hr => exact .tup cs vs hl (fun j x v hx hv => leaf (hr j x v hx hv) (List.all_eq_true.1 hn x (List.mem_of_getElem? hx)))
  | int k n => exact .int _ _
  | bool b => exact .bool _
  | str s => exact .str _
  | _ => cases hn

def gOwn (O : Nat → Option Pw) (b : Nat) : Option Pw := match O b with
  | some (.gobj id) => some (.gobj id)
  | some (.row (.g id off)) => some (.row (.g id off))
  | _ => none
def Ctx.callee (X : Ctx) : Ctx := { X with O := gOwn X.O }
def gObj (O : Nat → Option Pw) (b : Nat) : Option Pw := match O b with | some (.gobj id) => some (.gobj id) | _ => none
def Ctx.lender (X : Ctx) : Ctx := { X with O := gObj X.O, Fz := lent X }

theorem Gonly.callee (X : Ctx) : Gonly X.callee := by
  intro b p h
  simp only [Ctx.callee, gOwn] at h
  split at h <;> cases h
  · exact .inl ⟨_, rfl⟩
  · exact .inr ⟨_, _, rfl⟩
theorem Gonly.lender (X : Ctx) : Gonly X.lender := by
  intro b p h
  simp only [Ctx.lender, gObj] at h
  split at h <;> cases h
  exact .inl ⟨_, rfl⟩

theorem RX.callee {X : Ctx} {S : St} {a : Act} {w : World} (h : RX X S a w) : RX X.callee ⟨[], [], S.G⟩ emptyAct w where
  env t x hx := by simp [St.get] at hx
  loc k cs hk := by simp at hk
  gob id cs hk := by
    obtain ⟨b, g0, g1, vs, T, g2, g3, g4⟩ := h.gob id cs hk
    refine ⟨b, g0, by simp [Ctx.callee, gOwn, g1], vs, T, g2, g3, fun j x hj => ?_⟩
    have := g4 j x hj
    cases x with
    | own c l =>
      rcases this with h | ⟨b, off, cap, vs, T, k1, k2, k3⟩
      · exact .inl h
      · exact .inr ⟨b, off, cap, vs, T, k1, by simp [Ctx.callee, gOwn, k2], k3⟩
    | junk => exact trivial
    | _ => exact this
  dis b hb := by simp [Ctx.callee, gOwn, h.dis b hb]
  inh b hb := h.inh b (hb.imp id (fun hb e => hb (by simp [Ctx.callee, gOwn, e])))

theorem RX.lender {X : Ctx} {S : St} {a : Act} {w : World} (h : RX X S a w) : RX X.lender ⟨[], [], frzG S.G⟩ emptyAct w where
  env t x hx := by simp [St.get] at hx
  loc k cs hk := by simp at hk
  gob id cs hk := by
    simp only [frzG] at hk
    split at hk
    · rename_i cs0 h0
      cases hk
      obtain ⟨b, g0, g1, vs, T, g2, g3, g4⟩ := h.gob id cs0 h0
      refine ⟨b, g0, by simp [Ctx.lender, gObj, g1], vs, T, g2, by simpa using g3, fun j x hj => ?_⟩
      rw [List.getElem?_map, Option.map_eq_some_iff] at hj
      obtain ⟨y, hy, rfl⟩ := hj
      have := g4 j y hy
      have rv : ∀ {x v}, Rv X.Fz X.D w x v → Rv (lent X) X.D w x v := fun h => h.mono (fun b hb => .inl hb) (fun _ _ h => h) (fun _ _ => rfl)
      cases y with
      | own c l =>
        show Rv (lent X) X.D w (.sl l) _
        rcases this with ⟨rfl, A, k1⟩ | ⟨b, off, cap, vs', T', k1, k2, k3, k4, k5, k6, k7⟩
        · show Rv (lent X) X.D w (.sl []) _
          rw [k1]; exact .sl0 _ _
        · show Rv (lent X) X.D w (.sl l) _
          rw [k1]
          refine .sl l b off cap c (fun k => vs'.getD (off + k) undef) (.inr ⟨_, k2⟩) k5 k6 (fun k x hk => ?_) (fun k x hk => ?_)
          · obtain ⟨v, m1, m2⟩ := k7 k x hk
            have hlt := (Array.getElem?_eq_some_iff.1 m1).1
            simp [World.cell?, k3, hlt]
          · obtain ⟨v, m1, m2⟩ := k7 k x hk
            show Rv (lent X) X.D w x (vs'.getD (off + k) undef)
            rw [Array.getD_eq_getD_getElem?, m1]
            exact rv m2
      | junk => exact trivial
      | _ => exact rv this
    · cases hk
  dis b hb := by
    rcases hb with hb | ⟨p, hb⟩
    · simp [Ctx.lender, gObj, h.dis b hb]
    · simp [Ctx.lender, gObj, hb]
  inh b hb := h.inh b (by
    rcases hb with (hb | ⟨p, hb⟩) | hb
    · exact .inl hb
    · exact .inr (by rw [hb]; simp)
    · exact .inr (fun e => hb (by simp [Ctx.lender, gObj, e])))

def Ctx.behind (X X' : Ctx) (n : Nat) : Ctx := { X with D := X'.D, Fz := fun b => X.Fz b ∨ (n ≤ b ∧ X'.Fz b) }

theorem ext_behind {X X0 X' : Ctx} {w w' : World} {G : Objs} (hf : Fr true X0 w X' w') (hD : X0.D = X.D) (hR : RX X' ⟨[], [], G⟩ emptyAct w') : Ext X w (X.behind X' w.heap.size) w' where
  os := hf.os
  tape := hf.tape
  output := hf.output
  size := hf.size
  heap b hb := (hf.keep b hb (.inl rfl)).1
  D i b h := hf.D i b (by rw [hD]; exact h)
  fin _ := hf.fin
  L := rfl
  O := rfl
  fz b h := .inl h
  new b h := h.imp id (fun h => ⟨h.1, hR.inh b (.inl h.2)⟩)

theorem run_call {P : Program} {o : Oper} {c : Call} {a : Act} {w : World} {f : FuncId} (ho : o.op = .call c) (hc : c.callee = .value (.func f)) (h : ∀ vals w, (callFunc f vals).run P w = .ok (.enter f vals) w) :
    (execOp a.eval o).run P w = .ok (.enter f (c.args.map a.eval)) w := by
  simp only [execOp, ho, resolve, hc, Act.eval, Deferred.ofValue, Sem.run_bind, Sem.run_pure, Result.andThen_ok, invoke]
  rw [h]
  simp

theorem qcall_ok {P : Program} {o : Oper} {c : Call} {X : Ctx} {S : St} {a : Act} {w : World} (hR : RX X S a w) (hfin : ∃ M, ∀ i, M ≤ i → X.D i = none) (ho : o.op = .call c) {f : FuncId} (hc : c.callee = .value (.func f)) {v : AV}
    (hq : qcall P S f c.args.toList (· = v)) : Yields P o X S a w v ∧ v.copyable = true := by
  unfold qcall at hq
  split at hq
  · rename_i vs h1
    obtain ⟨r, h2, h3, h4, rfl⟩ := hq
    refine ⟨fun K Q hK => ?_, h3⟩
    unfold Oper.wp
    rw [run_call ho hc h2.call, Oper.upon_enter]
    have hlen : (c.args.map a.eval).size = vs.length := by rw [(argsOf_ok hR h1).1]; simp
    have hdeep : r.isDeep = true ∨ r.isDeep = false := by cases r.isDeep <;> simp
    cases hd : S.deepArgs c.args.toList
    · rw [hd] at h2 h4
      have hn : r.noRef = true := by simpa using h4
      refine (h2.run w _ X.lender hR.lender (Gonly.lender X) hfin hlen (fun i x hx => ?_)).mono ?_
      · obtain ⟨y, k1, k2⟩ := (argsOf_ok hR h1).2 i x hx
        have : (c.args.map a.eval).getD i undef = a.eval y := by
          rw [Array.getElem?_toList] at k1
          simp [k1]
        rw [this]; exact k2
      · rintro e w' ⟨u, r', G', X', rfl, hr', _, hrr, hRX, hfr, _⟩
        obtain rfl : r' = r := hr'
        refine hK u w' _ (ext_behind hfr rfl hRX) ?_
        have hdp : r'.isDeep = true := by cases r' <;> first | rfl | cases hn
        rw [Rp.deep hdp]
        have hrv : Rv X'.Fz X'.D w' r' u := by revert hrr; cases r' <;> first | exact id | cases hn
        exact noRef_any hrv hn
    · rw [hd] at h2
      simp only [cond_true] at h2
      refine (h2.run w _ X.callee hR.callee (Gonly.callee X) hfin hlen (fun i x hx => ?_)).mono ?_
      · obtain ⟨y, k1, k2⟩ := deepArgs_ok hR h1 hd i x hx
        have : (c.args.map a.eval).getD i undef = a.eval y := by
          rw [Array.getElem?_toList] at k1
          simp [k1]
        rw [this]; exact k2
      · rintro e w' ⟨u, r', G', X', rfl, hr', _, hrr, hRX, hfr, _⟩
        obtain rfl : r' = r := hr'
        refine hK u w' _ (ext_behind hfr rfl hRX) ?_
        have hrv : Rv X'.Fz X'.D w' r' u := by revert hrr; cases r' <;> first | exact id | cases h3
        have hdp := hrv.isDeep
        rw [Rp.deep hdp]
        refine hrv.mono (fun b hb => ?_) (fun _ _ h => h) (fun _ _ => rfl)
        rcases Nat.lt_or_ge b w.heap.size with g | g
        · exact .inl ((hfr.keep b g (.inl rfl)).2.2 hb)
        · exact .inr ⟨g, hb⟩
  · exact hq.elim
end Go.AL
end
section
set_option linter.unusedVariables false
set_option linter.unusedSimpArgs false
set_option linter.unusedSectionVars false
namespace Go.AL

theorem arr1 {α : Type} {xs : Array α} {x : α} (h : xs.toList = [x]) : xs = #[x] := by rw [← Array.toArray_toList (xs := xs), h]
section
variable {P : Program} {Δ : Tab} (hΔ : Tab.Ok P Δ)
include hΔ

theorem len_run {X : Ctx} {S : St} {a : Act} {w : World} (hR : RX X S a w) {t ty : Nat} {x : Operand} {v : AV} (hq : qlen Δ S t x (· = v)) :
    ∃ u, (Builtin.len_ #[t] ty #[a.eval x]).run P w = .ok u w ∧ Rv X.Fz X.D w v u := by
  unfold qlen at hq
  split at hq
  · rename_i sz by_ z s h1 h2
    subst hq
    exact ⟨_, by rw [(hR.evd h2 rfl).str_inv]; simp [Builtin.len_, underlying, str_und hΔ h1, goInt], .int _ _⟩
  · rename_i e sz by_ z y h1 h2
    split at hq
    · rename_i l h3
      subst hq
      obtain ⟨A, cap, e1, _⟩ := slOf_ok hΔ hR h2 h3
      exact ⟨_, by rw [e1]; simp [Builtin.len_, underlying, elem_und hΔ h1, goInt], .int _ _⟩
    · exact hq.elim
  · exact hq.elim

omit hΔ in
theorem max2_int' (k k' : IntKind) (x y : Int) (w : World) : (Builtin.max2 (.int k x) (.int k' y)).run P w = .ok (.int k (max x y)) w := by
  simp only [Builtin.max2, Sem.run_pure]
  congr 2
  split <;> omega
omit hΔ in
theorem min2_int' (k k' : IntKind) (x y : Int) (w : World) : (Builtin.min2 (.int k x) (.int k' y)).run P w = .ok (.int k (min x y)) w := by
  simp only [Builtin.min2, Sem.run_pure]
  congr 2
  split <;> omega

omit hΔ in
theorem map1 {α β : Type} {f : α → β} {xs : List α} {y : β} (h : xs.map f = [y]) : ∃ x, xs = [x] ∧ f x = y := by
  cases xs with
  | nil => simp at h
  | cons x r => simp at h; exact ⟨x, by rw [h.2], h.1⟩
omit hΔ in
theorem map2 {α β : Type} {f : α → β} {xs : List α} {y z : β} (h : xs.map f = [y, z]) : ∃ x x', xs = [x, x'] ∧ f x = y ∧ f x' = z := by
  cases xs with
  | nil => simp at h
  | cons x r =>
    rw [List.map_cons, List.cons.injEq] at h
    obtain ⟨x', e1, e2⟩ := map1 h.2
    exact ⟨x, x', by rw [e1], h.1, e2⟩
omit hΔ in
theorem map3 {α β : Type} {f : α → β} {xs : List α} {y z u : β} (h : xs.map f = [y, z, u]) : ∃ x x' x'', xs = [x, x', x''] ∧ f x = y ∧ f x' = z ∧ f x'' = u := by
  cases xs with
  | nil => simp at h
  | cons x r =>
    rw [List.map_cons, List.cons.injEq] at h
    obtain ⟨x', x'', e1, e2⟩ := map2 h.2
    exact ⟨x, x', x'', by rw [e1], h.1, e2⟩

omit hΔ in
theorem mm_run {X : Ctx} {S : St} {a : Act} {w : World} (hR : RX X S a w) {mx : Bool} {ty : Nat} {tys : Array TypeId} {xs : Array Operand} {v : AV} (hq : qmm mx (xs.toList.map S.val) (· = v)) :
    ∃ u, (bif mx then Builtin.max_ tys ty (xs.map a.eval) else Builtin.min_ tys ty (xs.map a.eval)).run P w = .ok u w ∧ Rv X.Fz X.D w v u := by
  unfold qmm at hq
  split at hq
  · rename_i k m h
    subst hq
    obtain ⟨x, hx, h1⟩ := map1 h
    have e := (hR.evd h1 rfl).int_inv
    exact ⟨.int k m, by cases mx <;> simp [Builtin.max_, Builtin.min_, hx, e], .int _ _⟩
  · rename_i k m k' n h
    subst hq
    obtain ⟨x, y, hx, h1, h2⟩ := map2 h
    have e := (hR.evd h1 rfl).int_inv
    have e' := (hR.evd h2 rfl).int_inv
    exact ⟨.int k (bif mx then max m n else min m n), by cases mx <;> simp [Builtin.max_, Builtin.min_, hx, e, e', max2_int', min2_int'], .int _ _⟩
  · rename_i k m k' n k'' p h
    subst hq
    obtain ⟨x, y, z, hx, h1, h2, h3⟩ := map3 h
    have e := (hR.evd h1 rfl).int_inv
    have e' := (hR.evd h2 rfl).int_inv
    have e'' := (hR.evd h3 rfl).int_inv
    exact ⟨.int k (bif mx then max (max m n) p else min (min m n) p), by cases mx <;> simp [Builtin.max_, Builtin.min_, hx, e, e', e'', max2_int', min2_int'], .int _ _⟩
  · exact hq.elim

omit hΔ in
theorem run_builtin {o : Oper} {c : Call} {a : Act} {b : Builtin} (ho : o.op = .call c) (hc : c.callee = .builtin b) :
    execOp a.eval o = builtin b c.argTypes o.type (c.args.map fun | .const _ => true | _ => false) (c.args.map a.eval) := by
  simp only [execOp, ho, resolve, hc, pure_bind, invoke]
  rfl

theorem qop_ok {X : Ctx} {S : St} {a : Act} {w : World} (hR : RX X S a w) (hfin : ∃ M, ∀ i, M ≤ i → X.D i = none) {o : Oper} {v : AV} (hq : qop P Δ S o.op (· = v)) :
    Yields P o X S a w v ∧ v.copyable = true := by
  have out : ∀ {s : Sem Value}, execOp a.eval o = (do pure (.value (← s))) → (∃ u, s.run P w = .ok u w ∧ Rp X S a w .res v u ∧ v.copyable = true) → Yields P o X S a w v ∧ v.copyable = true := by
    rintro s e ⟨u, h1, h2, h3⟩
    exact ⟨.pure (by rw [e]; exact run_v h1) h2, h3⟩
  have outd : ∀ {s : Sem Value}, execOp a.eval o = (do pure (.value (← s))) → (∃ u, s.run P w = .ok u w ∧ Rv X.Fz X.D w v u) → Yields P o X S a w v ∧ v.copyable = true := by
    rintro s e ⟨u, h1, h2⟩
    exact out e ⟨u, h1, (Rp.deep h2.isDeep).2 h2, deep_copyable h2.isDeep⟩
  unfold qop at hq
  split at hq
  · rename_i x ho
    obtain ⟨h1, h2⟩ := qmove_ok hR hq
    exact ⟨.pure (by simp only [execOp, ho]; rfl) h1, h2⟩
  · rename_i x ho
    obtain ⟨h1, h2⟩ := qmove_ok hR hq
    exact ⟨.pure (by simp only [execOp, ho]; rfl) h1, h2⟩
  · rename_i c x y ho
    split at hq
    · rename_i p hp
      have ec := (hR.evd hp rfl).bool_inv
      have run : (execOp a.eval o).run P w = .ok (.value (if p then a.eval x else a.eval y)) w := by
        simp only [execOp, ho, ec, asBool, Sem.run_bind, Sem.run_pure, Result.andThen_ok]
      split at hq
      · rename_i p1 p2 h1 h2
        subst hq
        have e1 := (hR.evd h1 rfl).bool_inv
        have e2 := (hR.evd h2 rfl).bool_inv
        refine ⟨.pure run ?_, rfl⟩
        rw [e1, e2]
        cases p <;> exact .bool _
      · cases p
        · obtain ⟨h1, h2⟩ := qmove_ok hR (hq.2 rfl)
          exact ⟨.pure run h1, h2⟩
        · obtain ⟨h1, h2⟩ := qmove_ok hR (hq.1 rfl)
          exact ⟨.pure run h1, h2⟩
    · exact hq.elim
  · rename_i t ps ho
    exact out (by simp only [execOp, ho]) (qbuild_ok hΔ hR hq)
  · rename_i t n ps ho
    obtain ⟨u, ob, h1, h2⟩ := qbslice_ok hΔ hR hq
    refine ⟨fun K Q hK => wp_value (by simp only [execOp, ho]; exact run_v h1) (hK u _ (X.fz w.heap.size) ?_ ((Rp.deep h2.isDeep).2 h2)), deep_copyable h2.isDeep⟩
    exact ⟨rfl, rfl, rfl, by simp, fun b hb => heap_alloc _ _ _ hb, fun _ _ h => h, fun h => h, rfl, rfl, fun _ h => .inl h, fun b hb => hb.imp id (fun e => by simp; omega)⟩
  · rename_i t x ho
    exact out (by simp only [execOp, ho]) (qload_ok hΔ hR hq)
  · rename_i x ho
    split at hq
    · rename_i y hy
      obtain ⟨h1, rfl⟩ := hq
      obtain ⟨ad, e⟩ := isPtr_ok hΔ hR hy h1
      have hc : y.copyable = true := by cases y <;> first | rfl | cases h1
      refine ⟨.pure (u := a.eval x) ?_ (hR.evc hy hc), hc⟩
      simp only [execOp, ho, e]
      rfl
    · exact hq.elim
  · rename_i op t x y yt ho
    exact outd (by simp only [execOp, ho]) (qbin_ok hΔ hR hq)
  · rename_i op t x ho
    refine outd (s := Op.unary op (a.eval x)) (by simp only [execOp, ho]) ?_
    unfold qun at hq
    split at hq
    · rename_i b h1
      subst hq
      exact ⟨_, by rw [(hR.evd h1 rfl).bool_inv]; rfl, .bool _⟩
    · rename_i k n h1
      subst hq
      exact ⟨_, by rw [(hR.evd h1 rfl).int_inv, show -n = 0 - n from (Int.zero_sub n).symm]; rfl, .int _ _⟩
    · exact hq.elim
  · rename_i s d x ho
    refine outd (s := convert s d (a.eval x)) (by simp only [execOp, ho]) ?_
    obtain ⟨h0, hq⟩ := hq
    obtain ⟨ds, hs⟩ := Option.isSome_iff_exists.1 h0
    obtain ⟨us, hus, _⟩ := und_ok hΔ hs
    unfold qconv at hq
    split at hq
    · rename_i k sz by_ z k' n h1 h2
      subst hq
      refine ⟨.int k (k.wrap n), ?_, .int _ _⟩
      rw [(hR.evd h2 rfl).int_inv]
      simp [convert, underlying, hus, int_und hΔ h1, Conv.intToInt]
    · rename_i sz by_ z s h1 h2
      subst hq
      refine ⟨.string s, ?_, .str _⟩
      rw [(hR.evd h2 rfl).str_inv]
      simp [convert, underlying, hus, str_und hΔ h1]
    · exact hq.elim
  · rename_i f fi cs ho
    obtain ⟨h1, h2, hq⟩ := hq
    split at hq
    · rename_i vs h3
      subst hq
      have e1 : fi = #[] := by rw [← Array.toArray_toList (xs := fi), h1]
      have g1 := (argsOf_ok hR h3).1
      have g2 := deepArgs_ok hR h3 h2
      refine ⟨.pure (u := .func (.func f) #[] (cs.map a.eval)) ?_ ?_, rfl⟩
      · simp only [execOp, ho, Instr.makeFunc, e1, Array.map_empty]; rfl
      · refine .fn f vs _ (by simpa using g1) (fun j x v hx hv => ?_)
        obtain ⟨y, k1, k2⟩ := g2 j x hx
        rw [Array.getElem?_toList] at k1
        rw [Array.getElem?_map, k1] at hv
        cases hv
        exact k2
    · exact hq.elim
  · rename_i t x lo hi mx ho
    exact out (by simp only [execOp, ho]) (qslice_ok hΔ hR hq)
  · rename_i t x f ho
    exact out (by simp only [execOp, ho]) (qfaddr_ok hΔ hR hq)
  · rename_i t x f ho
    exact out (by simp only [execOp, ho]) (qfield_ok hΔ hR hq)
  · rename_i t x i ho
    exact out (by simp only [execOp, ho]) (qiaddr_ok hΔ hR hq)
  · rename_i t x i ho
    exact out (by simp only [execOp, ho]) (qindex_ok hΔ hR hq)
  · rename_i x i ho
    split at hq
    · rename_i vs hv
      obtain ⟨y, h1, rfl⟩ := hq
      obtain ⟨us, e1, e2, e3⟩ := (hR.evd hv rfl).tup_inv
      have hlt := (List.getElem?_eq_some_iff.1 h1).1
      have hu : us[i]? = some (us[i]'(by omega)) := Array.getElem?_eq_getElem (by omega)
      refine outd (s := Instr.extract (a.eval x) i) (by simp only [execOp, ho]) ⟨us[i]'(by omega), ?_, e3 i y _ h1 hu⟩
      rw [e1]
      simp only [Instr.extract, hu, Sem.run_pure]
    · exact hq.elim
  · rename_i c ho
    split at hq
    · rename_i hc
      split at hq
      · rename_i x t h1 h2
        refine outd (run_builtin ho hc) ?_
        rw [arr1 h1, arr1 h2]
        have := len_run hΔ hR hq (ty := o.type)
        simpa using this
      · exact hq.elim
    · rename_i hc
      exact outd (run_builtin ho hc) (mm_run hR (mx := true) (ty := o.type) (tys := c.argTypes) hq)
    · rename_i hc
      exact outd (run_builtin ho hc) (mm_run hR (mx := false) (ty := o.type) (tys := c.argTypes) hq)
    · rename_i f hc
      exact qcall_ok hR hfin ho hc hq
    · exact hq.elim
  · exact hq.elim
end
end Go.AL
end
section
set_option linter.unusedVariables false
set_option linter.unusedSimpArgs false
set_option linter.unusedSectionVars false
namespace Go.AL

def gplace : Option Pw → Prop
  | some (.gobj _) => True
  | some (.row (.g _ _)) => True
  | _ => False

structure Fs (qt : Bool) (X : Ctx) (w : World) (X' : Ctx) (w' : World) : Prop where
  os : w'.os = w.os
  tape : w'.tape = w.tape
  output : w'.output = w.output
  size : w.heap.size ≤ w'.heap.size
  keep : ∀ b, b < w.heap.size → (X.O b = none ∨ (qt = true ∧ gplace (X.O b))) → w'.heap[b]? = w.heap[b]? ∧ X'.O b = X.O b ∧ (X'.Fz b → X.Fz b)
  fz : ∀ b, X.Fz b → X'.Fz b
  D : ∀ i b, X.D i = some b → X'.D i = some b
  fin : (∃ M, ∀ i, M ≤ i → X.D i = none) → ∃ M, ∀ i, M ≤ i → X'.D i = none
  L : ∀ k, 1000000 ≤ k → X'.L k = X.L k

theorem Fs.refl (qt : Bool) (X : Ctx) (w : World) : Fs qt X w X w := ⟨rfl, rfl, rfl, Nat.le_refl _, fun _ _ _ => ⟨rfl, rfl, fun h => h⟩, fun _ h => h, fun _ _ h => h, fun h => h, fun _ _ => rfl⟩
theorem Fs.trans {qt : Bool} {X1 X2 X3 : Ctx} {w1 w2 w3 : World} (h : Fs qt X1 w1 X2 w2) (k : Fs qt X2 w2 X3 w3) : Fs qt X1 w1 X3 w3 :=
  ⟨k.os.trans h.os, k.tape.trans h.tape, k.output.trans h.output, Nat.le_trans h.size k.size, fun b hb hc => by
    obtain ⟨h1, h2, h3⟩ := h.keep b hb hc
    obtain ⟨k1, k2, k3⟩ := k.keep b (Nat.lt_of_lt_of_le hb h.size) (by rw [h2]; exact hc)
    exact ⟨k1.trans h1, k2.trans h2, fun g => h3 (k3 g)⟩, fun b g => k.fz b (h.fz b g), fun i b g => k.D i b (h.D i b g), fun g => k.fin (h.fin g), fun j hj => (k.L j hj).trans (h.L j hj)⟩
theorem Fs.of_ext {qt : Bool} {X X' : Ctx} {w w' : World} (e : Ext X w X' w') : Fs qt X w X' w' :=
  ⟨e.os, e.tape, e.output, e.size, fun b hb _ => ⟨e.heap b hb, by rw [e.O], fun h => (e.new b h).resolve_right (by omega)⟩, e.fz, e.D, e.fin, fun j _ => by rw [e.L]⟩
theorem Fr.step {qt : Bool} {X0 X X' : Ctx} {w0 w w' : World} (h : Fr qt X0 w0 X w) (hg : Gonly X0) (k : Fs qt X w X' w') : Fr qt X0 w0 X' w' :=
  ⟨k.os.trans h.os, k.tape.trans h.tape, k.output.trans h.output, Nat.le_trans h.size k.size, fun b hb hc => by
    obtain ⟨h1, h2, h3⟩ := h.keep b hb hc
    have : X.O b = none ∨ (qt = true ∧ gplace (X.O b)) := by
      rcases hc with hc | hc
      · rw [h2]
        cases ho : X0.O b with
        | none => exact .inl rfl
        | some p =>
          refine .inr ⟨hc, ?_⟩
          rcases hg b p ho with ⟨id, rfl⟩ | ⟨id, off, rfl⟩ <;> trivial
      · exact .inl (h2.trans hc)
    obtain ⟨k1, k2, k3⟩ := k.keep b (Nat.lt_of_lt_of_le hb h.size) this
    exact ⟨k1.trans h1, k2.trans h2, fun g => h3 (k3 g)⟩, fun b g => k.fz b (h.fz b g), fun i b g => k.D i b (h.D i b g), k.fin h.fin⟩

def free (X : Ctx) (S : St) (b : Nat) : Prop := ¬ X.Fz b ∧ (X.O b = none ∨ ∃ q, X.O b = some (.row q) ∧ S.ownAt q = none)

def Ctx.setO (X : Ctx) (b : Nat) (p : Option Pw) : Ctx := { X with O := fun k => if k = b then p else X.O k }

theorem setO_same (X : Ctx) (b : Nat) (p : Option Pw) : (X.setO b p).O b = p := by simp [Ctx.setO]
theorem setO_ne (X : Ctx) {b k : Nat} (p : Option Pw) (h : k ≠ b) : (X.setO b p).O k = X.O k := by simp [Ctx.setO, h]

theorem RX.setO {X : Ctx} {S : St} {a : Act} {w : World} (h : RX X S a w) {b : Nat} (hf : free X S b) {p : Option Pw} (hp : p ≠ none → b < w.heap.size) : RX (X.setO b p) S a w := by
  have ne_of : ∀ {k : Nat} {q : Pw}, X.O k = some q → (∀ r, q = .row r → S.ownAt r ≠ none) → k ≠ b := by
    intro k q hk hq e
    subst e
    rcases hf.2 with h1 | ⟨r, h1, h2⟩
    · rw [h1] at hk; cases hk
    · rw [h1] at hk; cases hk; exact hq r rfl h2
  have own : ∀ {q c l v}, S.ownAt q ≠ none → OwnV X w q c l v → OwnV (X.setO b p) w q c l v := by
    intro q c l v hq ho
    rcases ho with ho | ⟨b', off, cap, vs, T, g1, g2, g3⟩
    · exact .inl ho
    · exact .inr ⟨b', off, cap, vs, T, g1, by rw [setO_ne]; exact g2; exact ne_of g2 (fun r e => by cases e; exact hq), g3⟩
  refine ⟨fun t x hx => ?_, fun k cs hk => ?_, fun k cs hk => ?_, fun k hk => ?_, fun k hk => ?_⟩
  · obtain ⟨g1, g2⟩ := h.env t x hx
    refine ⟨g1, ?_⟩
    revert g2
    generalize a.tmps.getD t undef = v
    intro g2
    cases x with
    | own c l => exact own (by simp [St.ownAt, hx]) g2
    | iter s pos => obtain ⟨b', k1, k2, k3⟩ := g2; exact ⟨b', k1, by rw [setO_ne]; exact k2; exact ne_of k2 (fun r e => by cases e), k3⟩
    | view q => exact g2
    | sub q c lo hi => exact g2
    | eptr q c i off => exact g2
    | lptr k off => exact g2
    | _ => exact g2
  · obtain ⟨g1, vs, T, g2, g3, g4⟩ := h.loc k cs hk
    refine ⟨by show (X.setO b p).O (X.L k) = _; rw [setO_ne]; exact g1; exact ne_of g1 (fun r e => by cases e), vs, T, g2, g3, fun j x hj => ?_⟩
    have := g4 j x hj
    cases x with
    | own c l => exact own (by simp [St.ownAt, hk, hj]) this
    | _ => exact this
  · obtain ⟨b', g0, g1, vs, T, g2, g3, g4⟩ := h.gob k cs hk
    refine ⟨b', g0, by rw [setO_ne]; exact g1; exact ne_of g1 (fun r e => by cases e), vs, T, g2, g3, fun j x hj => ?_⟩
    have := g4 j x hj
    cases x with
    | own c l => exact own (by simp [St.ownAt, hk, hj]) this
    | _ => exact this
  · rw [setO_ne _ _ (fun e => hf.1 (by rw [← e]; exact hk))]
    exact h.dis k hk
  · by_cases e : k = b
    · subst e
      rcases hk with hk | hk
      · exact absurd hk hf.1
      · rw [setO_same] at hk; exact hp hk
    · rw [setO_ne _ _ e] at hk
      exact h.inh k hk

theorem RX.world' {X : Ctx} {S : St} {a : Act} {w w' : World} (h : RX X S a w) {b : Nat} (hf : free X S b) (hs : w.heap.size ≤ w'.heap.size)
    (hw : ∀ k, k ≠ b → k < w.heap.size → w'.heap[k]? = w.heap[k]?) {p : Option Pw} (hp : p ≠ none → b < w'.heap.size) : RX (X.setO b p) S a w' := by
  have h1 := (h.setO hf (p := none) (fun e => absurd rfl e)).world hs (fun k hk => by
    by_cases e : k = b
    · subst e
      rcases hk with hk | hk
      · exact absurd hk hf.1
      · rw [setO_same] at hk; exact absurd rfl hk
    · refine hw k e (h.inh k ?_)
      rw [setO_ne _ _ e] at hk
      exact hk)
  have h2 := h1.setO (b := b) (p := p) ⟨hf.1, .inl (setO_same _ _ _)⟩ hp
  have : (X.setO b none).setO b p = X.setO b p := by
    simp only [Ctx.setO]; congr; funext k; split <;> rfl
  rw [this] at h2
  exact h2

def Objs.set (G : Objs) (id : Nat) (cs : List AV) : Objs := fun i => bif Nat.beq i id then some cs else G i
theorem Objs.set_eq (G : Objs) (id : Nat) (cs : List AV) (i : Nat) : G.set id cs i = if i = id then some cs else G i := by
  simp only [Objs.set]
  by_cases h : i = id
  · subst h; simp
  · rw [if_neg h, show Nat.beq i id = false from Bool.eq_false_iff.2 (fun e => h (Nat.eq_of_beq_eq_true e))]; rfl

def St.setAt (S : St) (q : Pl) (x : AV) : St :=
  match q with
  | .t n => { S with env := up S.env n x }
  | .l k off => match lk S.loc k with | some cs => { S with loc := up S.loc k (cs.set off x) } | none => S
  | .g id off => match S.G id with | some cs => { S with G := S.G.set id (cs.set off x) } | none => S
  | .res => S
def St.kill (S : St) (q : Pl) : St := { S with env := kl (AV.refs q) S.env }
def St.take (S : St) (q : Pl) : St := (S.setAt q .junk).kill q

theorem get_kill {S : St} {q : Pl} {t : Nat} {x : AV} (h : (S.kill q).get t = some x) : S.get t = some x ∧ x.refs q = false := lk_kl h
theorem own_kill {S : St} {q p : Pl} (h : (S.kill q).ownAt p ≠ none) : S.ownAt p ≠ none := by
  cases p with
  | t n => obtain ⟨c, l, e⟩ := live_t h; simp [St.ownAt, (get_kill e).1]
  | _ => exact h

def ownOf : AV → Option (Nat × List (List AV)) | .own c l => some (c, l) | _ => none
theorem ownAt_t (S : St) (n : Nat) : S.ownAt (.t n) = (S.get n).bind ownOf := by
  simp only [St.ownAt]; cases S.get n with
  | none => rfl
  | some x => cases x <;> rfl
theorem ownAt_l (S : St) (k off : Nat) : S.ownAt (.l k off) = (lk S.loc k).bind fun cs => (cs[off]?).bind ownOf := by
  simp only [St.ownAt]; cases lk S.loc k with
  | none => rfl
  | some cs => simp only [Option.bind_some]; cases cs[off]? with
    | none => rfl
    | some x => cases x <;> rfl
theorem ownAt_g (S : St) (k off : Nat) : S.ownAt (.g k off) = (S.G k).bind fun cs => (cs[off]?).bind ownOf := by
  simp only [St.ownAt]; cases S.G k with
  | none => rfl
  | some cs => simp only [Option.bind_some]; cases cs[off]? with
    | none => rfl
    | some x => cases x <;> rfl

theorem get_setAt {S : St} {q : Pl} {x : AV} {t : Nat} : (S.setAt q x).get t = if q = .t t then some x else S.get t := by
  cases q with
  | t n =>
    simp only [St.setAt, St.get, lk_up, Pl.t.injEq]
    by_cases h : t = n
    · subst h; simp
    · rw [if_neg h, if_neg (Ne.symm h)]
  | l k off => simp only [St.setAt]; split <;> simp [St.get]
  | g k off => simp only [St.setAt]; split <;> simp [St.get]
  | res => simp [St.setAt]
theorem loc_setAt {S : St} {q : Pl} {x : AV} {k : Nat} : lk (S.setAt q x).loc k = match q with | .l k' off => if k = k' then (lk S.loc k).map (·.set off x) else lk S.loc k | _ => lk S.loc k := by
  cases q with
  | l k' off =>
    simp only [St.setAt]
    split
    · rename_i cs e
      simp only [lk_up]
      by_cases h : k = k'
      · subst h; simp [e]
      · simp [h]
    · rename_i e
      by_cases h : k = k'
      · subst h; simp [e]
      · simp [h]
  | g k' off => simp only [St.setAt]; split <;> rfl
  | _ => rfl
theorem G_setAt {S : St} {q : Pl} {x : AV} {k : Nat} : (S.setAt q x).G k = match q with | .g k' off => if k = k' then (S.G k).map (·.set off x) else S.G k | _ => S.G k := by
  cases q with
  | g k' off =>
    simp only [St.setAt]
    split
    · rename_i cs e
      simp only [Objs.set_eq]
      by_cases h : k = k'
      · subst h; simp [e]
      · simp [h]
    · rename_i e
      by_cases h : k = k'
      · subst h; simp [e]
      · simp [h]
  | l k' off => simp only [St.setAt]; split <;> rfl
  | _ => rfl

theorem own_setAt_ne {S : St} {q p : Pl} {x : AV} (h : p ≠ q) : (S.setAt q x).ownAt p = S.ownAt p := by
  cases p with
  | t n => rw [ownAt_t, ownAt_t, get_setAt, if_neg (Ne.symm h)]
  | l k off =>
    rw [ownAt_l, ownAt_l, loc_setAt]
    cases q with
    | l k' off' =>
      simp only
      by_cases hk : k = k'
      · subst hk
        have ho : off' ≠ off := fun e => h (by rw [e])
        rw [if_pos rfl]
        cases lk S.loc k with
        | none => rfl
        | some cs => simp [List.getElem?_set_ne ho]
      · rw [if_neg hk]
    | _ => rfl
  | g k off =>
    rw [ownAt_g, ownAt_g, G_setAt]
    cases q with
    | g k' off' =>
      simp only
      by_cases hk : k = k'
      · subst hk
        have ho : off' ≠ off := fun e => h (by rw [e])
        rw [if_pos rfl]
        cases S.G k with
        | none => rfl
        | some cs => simp [List.getElem?_set_ne ho]
      · rw [if_neg hk]
    | _ => rfl
  | res => rfl
theorem own_setAt_junk {S : St} {q : Pl} : (S.setAt q .junk).ownAt q = none := by
  cases q with
  | t n => rw [ownAt_t, get_setAt, if_pos rfl]; rfl
  | l k off =>
    rw [ownAt_l, loc_setAt]
    simp only [if_true]
    cases lk S.loc k with
    | none => rfl
    | some cs =>
      simp only [Option.map_some, Option.bind_some, List.getElem?_set_self']
      cases cs[off]? <;> rfl
  | g k off =>
    rw [ownAt_g, G_setAt]
    simp only [if_true]
    cases S.G k with
    | none => rfl
    | some cs =>
      simp only [Option.map_some, Option.bind_some, List.getElem?_set_self']
      cases cs[off]? <;> rfl
  | res => rfl
theorem own_take {S : St} {q : Pl} : (S.take q).ownAt q = none := by
  rcases h : (S.take q).ownAt q with _ | y
  · rfl
  · exact absurd own_setAt_junk (own_kill (q := q) (by rw [show (S.setAt q .junk).kill q = S.take q from rfl, h]; simp))
theorem own_take_ne {S : St} {q p : Pl} (h : (S.take q).ownAt p ≠ none) : p ≠ q ∧ S.ownAt p ≠ none := by
  have h1 := own_kill h
  have hne : p ≠ q := fun e => by rw [e, own_setAt_junk] at h1; exact h1 rfl
  rw [own_setAt_ne hne] at h1
  exact ⟨hne, h1⟩

theorem RX.take {X : Ctx} {S : St} {a : Act} {w : World} (h : RX X S a w) {q : Pl} (hq : S.ownAt q ≠ none) : RX X (S.take q) a w where
  env t x hx := by
    obtain ⟨h1, h2⟩ := get_kill hx
    rw [get_setAt] at h1
    by_cases e : q = .t t
    · rw [if_pos e] at h1
      cases h1
      subst e
      obtain ⟨c, l, e2⟩ := live_t hq
      exact ⟨(h.env t _ e2).1, trivial⟩
    · rw [if_neg e] at h1
      obtain ⟨g1, g2⟩ := h.env t x h1
      exact ⟨g1, g2.congr (fun _ _ => rfl) (fun p _ hp => ⟨(own_take_ne hp).2, rfl⟩)⟩
  loc k cs hk := by
    have hk' : lk (S.setAt q .junk).loc k = some cs := hk
    rw [loc_setAt] at hk'
    cases q with
    | l k' off =>
      simp only at hk'
      by_cases e : k = k'
      · rw [if_pos e, Option.map_eq_some_iff] at hk'
        obtain ⟨cs0, h1, rfl⟩ := hk'
        obtain ⟨g1, vs, T, g2, g3, g4⟩ := h.loc k cs0 h1
        refine ⟨g1, vs, T, g2, by simpa using g3, fun j x hj => ?_⟩
        by_cases ej : off = j
        · subst ej
          rw [List.getElem?_set_self'] at hj
          cases hc : cs0[off]? with
          | none => rw [hc] at hj; cases hj
          | some y => rw [hc] at hj; cases hj; trivial
        · rw [List.getElem?_set_ne ej] at hj
          exact g4 j x hj
      · rw [if_neg e] at hk'
        exact h.loc k cs hk'
    | _ => exact h.loc k cs hk'
  gob k cs hk := by
    have hk' : (S.setAt q .junk).G k = some cs := hk
    rw [G_setAt] at hk'
    cases q with
    | g k' off =>
      simp only at hk'
      by_cases e : k = k'
      · rw [if_pos e, Option.map_eq_some_iff] at hk'
        obtain ⟨cs0, h1, rfl⟩ := hk'
        obtain ⟨b, g0, g1, vs, T, g2, g3, g4⟩ := h.gob k cs0 h1
        refine ⟨b, g0, g1, vs, T, g2, by simpa using g3, fun j x hj => ?_⟩
        by_cases ej : off = j
        · subst ej
          rw [List.getElem?_set_self'] at hj
          cases hc : cs0[off]? with
          | none => rw [hc] at hj; cases hj
          | some y => rw [hc] at hj; cases hj; trivial
        · rw [List.getElem?_set_ne ej] at hj
          exact g4 j x hj
      · rw [if_neg e] at hk'
        exact h.gob k cs hk'
    | _ => exact h.gob k cs hk'
  dis := h.dis
  inh := h.inh
end Go.AL
end
section
set_option linter.unusedVariables false
set_option linter.unusedSimpArgs false
set_option linter.unusedSectionVars false
namespace Go.AL

structure Wr (w w' : World) (b : Nat) (vs : Array Value) (T : TypeId) : Prop where
  os : w'.os = w.os
  tape : w'.tape = w.tape
  output : w'.output = w.output
  size : w'.heap.size = w.heap.size
  at_ : w'.heap[b]? = some (.cells vs T (0, 0))
  other : ∀ k, k ≠ b → w'.heap[k]? = w.heap[k]?

theorem Wr.refl {w : World} {b : Nat} {vs : Array Value} {T : TypeId} (h : w.heap[b]? = some (.cells vs T (0, 0))) : Wr w w b vs T := ⟨rfl, rfl, rfl, rfl, h, fun _ _ => rfl⟩
theorem Wr.trans {w1 w2 w3 : World} {b : Nat} {vs us : Array Value} {T : TypeId} (h : Wr w1 w2 b vs T) (k : Wr w2 w3 b us T) : Wr w1 w3 b us T :=
  ⟨k.os.trans h.os, k.tape.trans h.tape, k.output.trans h.output, k.size.trans h.size, k.at_, fun i hi => (k.other i hi).trans (h.other i hi)⟩

theorem Wr.setCell {w : World} {b off : Nat} {vs : Array Value} {T : TypeId} {v : Value} (h : w.heap[b]? = some (.cells vs T (0, 0))) : Wr w (w.setCell ⟨b, off, none⟩ v) b (vs.setIfInBounds off v) T where
  os := rfl
  tape := rfl
  output := rfl
  size := by simp
  at_ := by
    simp only [World.setCell, Array.getElem?_modify, if_true, h, Option.map_some, Option.isSome_none, Bool.false_eq_true, if_false]
  other k hk := Go.RowKit.Below.heap_setCell _ _ _ _ hk

def one : Value → Bool | .agg _ | .tuple _ => false | _ => true

theorem run_store1 {P : Program} {w : World} {b off : Nat} {vs : Array Value} {T : TypeId} {v : Value} (h : w.heap[b]? = some (.cells vs T (0, 0))) (ho : off < vs.size) (h1 : one v = true) :
    (store ⟨b, off, none⟩ v).run P w = .ok () (w.setCell ⟨b, off, none⟩ v) := by
  have hc : w.cell? ⟨b, off, none⟩ = some vs[off] := by simp [World.cell?, h, ho]
  have hf : w.frozen? ⟨b, off, none⟩ = false := by simp [World.frozen?, h]
  have hv : v.oneCell' = true := by cases v <;> first | rfl | cases h1
  have := run_store P w ⟨b, off, none⟩ v .plain hv
  rw [hc] at this
  simpa [hf] using this

theorem run_storeCells {P : Program} {b off : Nat} {T : TypeId} : ∀ (us : List Value) (n : Nat) (w : World) (vs : Array Value), w.heap[b]? = some (.cells vs T (0, 0)) → off + n + us.length ≤ vs.size → (∀ u ∈ us, one u = true) →
    ∃ w', (storeCells ⟨b, off, none⟩ us n).run P w = .ok () w' ∧ Wr w w' b ((us.zipIdx n).foldl (laid off) vs) T
  | [], n, w, vs, h, _, _ => ⟨w, rfl, Wr.refl h⟩
  | u :: us, n, w, vs, h, hl, h1 => by
    simp only [List.length_cons] at hl
    have k1 := run_store1 (P := P) h (off := off + n) (by omega) (h1 u (by simp))
    have k2 := Wr.setCell h (off := off + n) (v := u)
    obtain ⟨w', g1, g2⟩ := run_storeCells us (n + 1) (w.setCell ⟨b, off + n, none⟩ u) (vs.setIfInBounds (off + n) u) k2.at_ (by simp; omega) (fun x hx => h1 x (by simp [hx])) (P := P) (off := off)
    refine ⟨w', ?_, ?_⟩
    · simp only [storeCells, Sem.run_bind, add_none, k1, Result.andThen_ok]
      exact g1
    · rw [List.zipIdx_cons, List.foldl_cons]
      exact k2.trans g2

def AV.leaf : AV → Bool
  | .int .. | .bool _ | .str _ | .sl _ | .emp | .nilp | .ptrF _ | .ptr .. | .fn .. => true
  | _ => false

theorem leaf_one {Fz : Nat → Prop} {D : Nat → Option Nat} {w : World} {x : AV} {v : Value} (h : Rv Fz D w x v) (hl : x.leaf = true) : one v = true := by
  cases h <;> first | rfl | cases hl
section
variable {P : Program} {Δ : Tab} (hΔ : Tab.Ok P Δ)
include hΔ
theorem run_storeVar {t : Nat} {d : TD} (h : lk Δ t = some d) {w : World} {b off : Nat} {vs : Array Value} {T : TypeId} {v : Value} (hb : w.heap[b]? = some (.cells vs T (0, 0))) (hs : v.cells.size = d.size) (ho : off + d.size ≤ vs.size)
    (h1 : ∀ u ∈ v.cells.toList, one u = true) : ∃ w', (storeVar t ⟨b, off, none⟩ v).run P w = .ok () w' ∧ Wr w w' b ((v.cells.toList.zipIdx 0).foldl (laid off) vs) T := by
  obtain ⟨w', g1, g2⟩ := run_storeCells (P := P) v.cells.toList 0 w vs hb (off := off) (by simp; omega) h1
  refine ⟨w', ?_, g2⟩
  simp only [storeVar, Sem.run_bind, run_sizeOf hΔ h, Result.andThen_ok, hs, ne_eq, not_true_eq_false, if_false, Sem.run_pure]
  exact g1
end

theorem RX.hdr_row {X : Ctx} {S : St} {a : Act} {w w' : World} (h : RX X S a w) {b : Nat} {q : Pl} (hb : X.O b = some (.row q)) (hw : ∀ k, k ≠ b → w'.heap[k]? = w.heap[k]?) {p : Pl} (hp : S.ownAt p ≠ none) : hdr X a w' p = hdr X a w p := by
  cases p with
  | t n => rfl
  | l k off =>
    obtain ⟨cs, c, l, e, _⟩ := live_l hp
    have h1 := (h.loc k cs e).1
    simp only [hdr]
    rw [cell?_of_heap (hw _ (fun e => by rw [e, hb] at h1; cases h1))]
  | g k off =>
    obtain ⟨cs, c, l, e, _⟩ := live_g hp
    obtain ⟨b', h1, h2, _⟩ := h.gob k cs e
    simp only [hdr, h1]
    rw [cell?_of_heap (hw _ (fun e => by rw [e, hb] at h2; cases h2))]
  | res => rfl

theorem OwnV.other {X : Ctx} {w w' : World} {p q : Pl} {c : Nat} {l : List (List AV)} {v : Value} {b : Nat} (h : OwnV X w p c l v) (hb : X.O b = some (.row q)) (hne : p ≠ q) (hz : ¬ X.Fz b) (hw : ∀ k, k ≠ b → w'.heap[k]? = w.heap[k]?) : OwnV X w' p c l v :=
  h.world (fun k hk => hw k (fun e => by
    subst e
    rcases hk with hk | hk
    · exact hz hk
    · rw [hb] at hk; cases hk; exact hne rfl))

theorem Rv.other {X : Ctx} {w w' : World} {x : AV} {v : Value} {b : Nat} (h : Rv X.Fz X.D w x v) (hz : ¬ X.Fz b) (hw : ∀ k, k ≠ b → w'.heap[k]? = w.heap[k]?) : Rv X.Fz X.D w' x v :=
  h.mono (fun _ h => h) (fun _ _ h => h) (fun k hk => hw k (fun e => hz (by rw [← e]; exact hk)))

theorem RX.setRow {X : Ctx} {S : St} {a : Act} {w w' : World} (h : RX X S a w) {q : Pl} {c : Nat} {l l' : List (List AV)} (ho : S.ownAt q = some (c, l)) {b : Nat} (hb : X.O b = some (.row q)) (hs : w'.heap.size = w.heap.size)
    (hw : ∀ k, k ≠ b → w'.heap[k]? = w.heap[k]?) (hn : OwnV X w' q c l' (hdr X a w q)) : RX X (S.setAt q (.own c l')) a w' := by
  have hz : ¬ X.Fz b := fun hz => by have := h.dis b hz; rw [hb] at this; cases this
  have hrc : ∀ {p x v}, p ≠ q → Rc X w p x v → Rc X w' p x v := by
    intro p x v hp hx
    cases x <;> first | exact OwnV.other hx hb hp hz hw | exact trivial | exact Rv.other hx hz hw
  have hlive : ∀ p, (S.setAt q (.own c l')).ownAt p ≠ none → S.ownAt p ≠ none := by
    intro p hp
    by_cases e : p = q
    · subst e; rw [ho]; simp
    · rwa [own_setAt_ne e] at hp
  refine ⟨fun t x hx => ?_, fun k cs hk => ?_, fun k cs hk => ?_, h.dis, fun b hb => by rw [hs]; exact h.inh b hb⟩
  · rw [get_setAt] at hx
    by_cases e : q = .t t
    · rw [if_pos e] at hx; cases hx
      subst e
      obtain ⟨c0, l0, e2⟩ := live_t (S := S) (n := t) (by rw [ho]; simp)
      exact ⟨(h.env t _ e2).1, hn⟩
    · rw [if_neg e] at hx
      obtain ⟨g1, g2⟩ := h.env t x hx
      refine ⟨g1, ?_⟩
      revert g2
      generalize a.tmps.getD t undef = v
      intro g2
      cases x with
      | own c0 l0 => exact OwnV.other g2 hb (Ne.symm e) hz hw
      | view p => intro hp; rw [h.hdr_row hb hw (hlive p hp)]; exact g2 (hlive p hp)
      | sub p c0 lo hi => intro hp; rw [h.hdr_row hb hw (hlive p hp)]; exact g2 (hlive p hp)
      | eptr p c0 i off => intro hp; rw [h.hdr_row hb hw (hlive p hp)]; exact g2 (hlive p hp)
      | iter s pos => obtain ⟨b', k1, k2, k3⟩ := g2; exact ⟨b', k1, k2, (hw b' (fun e => by rw [e, hb] at k2; cases k2)).trans k3⟩
      | lptr k off => exact g2
      | junk => trivial
      | _ => exact Rv.other g2 hz hw
  · rw [loc_setAt] at hk
    have key : ∀ cs0, lk S.loc k = some cs0 → (∀ j x, cs[j]? = some x → cs0[j]? = some x ∧ (.l k j : Pl) ≠ q ∨ q = .l k j ∧ x = .own c l') → cs.length = cs0.length → X.O (X.L k) = some (.lobj k) ∧ ObjR X w' (fun j => .l k j) cs (X.L k) := by
      intro cs0 h0 hcs hlen
      obtain ⟨g1, vs, T, g2, g3, g4⟩ := h.loc k cs0 h0
      have hne : X.L k ≠ b := fun e => by rw [e, hb] at g1; cases g1
      refine ⟨g1, vs, T, (hw _ hne).trans g2, by omega, fun j x hj => ?_⟩
      rcases hcs j x hj with ⟨e1, e2⟩ | ⟨e1, e2⟩
      · exact hrc e2 (g4 j x e1)
      · subst e1; subst e2
        have hlt := (List.getElem?_eq_some_iff.1 hj).1
        have : hdr X a w (.l k j) = vs.getD j undef := by simp [hdr, World.cell?, g2, show j < vs.size from by omega]
        rw [← this]; exact hn
    cases q with
    | l k' off =>
      simp only at hk
      by_cases e : k = k'
      · subst e
        rw [if_pos rfl, Option.map_eq_some_iff] at hk
        obtain ⟨cs0, h1, rfl⟩ := hk
        refine key cs0 h1 (fun j x hj => ?_) (by simp)
        by_cases ej : off = j
        · subst ej
          rw [List.getElem?_set_self'] at hj
          cases hc : cs0[off]? with
          | none => rw [hc] at hj; cases hj
          | some y => rw [hc] at hj; cases hj; exact .inr ⟨rfl, rfl⟩
        · rw [List.getElem?_set_ne ej] at hj
          exact .inl ⟨hj, fun e => ej (by cases e; rfl)⟩
      · rw [if_neg e] at hk
        exact key cs hk (fun j x hj => .inl ⟨hj, fun e' => e (by cases e'; rfl)⟩) rfl
    | _ => exact key cs hk (fun j x hj => .inl ⟨hj, by simp⟩) rfl
  · rw [G_setAt] at hk
    have key : ∀ cs0, S.G k = some cs0 → (∀ j x, cs[j]? = some x → cs0[j]? = some x ∧ (.g k j : Pl) ≠ q ∨ q = .g k j ∧ x = .own c l') → cs.length = cs0.length → ∃ b', X.D k = some b' ∧ X.O b' = some (.gobj k) ∧ ObjR X w' (fun j => .g k j) cs b' := by
      intro cs0 h0 hcs hlen
      obtain ⟨b', g0, g1, vs, T, g2, g3, g4⟩ := h.gob k cs0 h0
      have hne : b' ≠ b := fun e => by rw [e, hb] at g1; cases g1
      refine ⟨b', g0, g1, vs, T, (hw _ hne).trans g2, by omega, fun j x hj => ?_⟩
      rcases hcs j x hj with ⟨e1, e2⟩ | ⟨e1, e2⟩
      · exact hrc e2 (g4 j x e1)
      · subst e1; subst e2
        have hlt := (List.getElem?_eq_some_iff.1 hj).1
        have : hdr X a w (.g k j) = vs.getD j undef := by simp [hdr, g0, World.cell?, g2, show j < vs.size from by omega]
        rw [← this]; exact hn
    cases q with
    | g k' off =>
      simp only at hk
      by_cases e : k = k'
      · subst e
        rw [if_pos rfl, Option.map_eq_some_iff] at hk
        obtain ⟨cs0, h1, rfl⟩ := hk
        refine key cs0 h1 (fun j x hj => ?_) (by simp)
        by_cases ej : off = j
        · subst ej
          rw [List.getElem?_set_self'] at hj
          cases hc : cs0[off]? with
          | none => rw [hc] at hj; cases hj
          | some y => rw [hc] at hj; cases hj; exact .inr ⟨rfl, rfl⟩
        · rw [List.getElem?_set_ne ej] at hj
          exact .inl ⟨hj, fun e => ej (by cases e; rfl)⟩
      · rw [if_neg e] at hk
        exact key cs hk (fun j x hj => .inl ⟨hj, fun e' => e (by cases e'; rfl)⟩) rfl
    | _ => exact key cs hk (fun j x hj => .inl ⟨hj, by simp⟩) rfl
end Go.AL
end
section
set_option linter.unusedVariables false
set_option linter.unusedSimpArgs false
set_option linter.unusedSectionVars false
namespace Go.AL

def inL (k : Nat) : Pl → Bool | .l k' _ => Nat.beq k' k | _ => false
def inG (k : Nat) : Pl → Bool | .g k' _ => Nat.beq k' k | _ => false
def anyG : Pl → Bool | .g _ _ => true | _ => false
def AV.at_ (r : Pl → Bool) : AV → Bool
  | .view p => r p
  | .sub p _ _ _ => r p
  | .eptr p _ _ _ => r p
  | _ => false
theorem at_refs {r : Pl → Bool} {x : AV} {q : Pl} (h : x.at_ r = false) (hq : x.refs q = true) : r q = false := by
  cases x <;> simp [AV.at_, AV.refs] at h hq
  · rw [← hq]; exact h
  · rw [← hq]; exact h
  · rw [← hq]; exact h

theorem RX.setLoc {X : Ctx} {S : St} {a : Act} {w w' : World} (h : RX X S a w) {k : Nat} {cs cs' : List AV} (hk : lk S.loc k = some cs) (hs : w'.heap.size = w.heap.size)
    (hw : ∀ b, b ≠ X.L k → w'.heap[b]? = w.heap[b]?) (ho : ObjR X w' (fun j => .l k j) cs' (X.L k)) : RX X { S with loc := up S.loc k cs', env := kl (AV.at_ (inL k)) S.env } a w' := by
  have hO := (h.loc k cs hk).1
  have hz : ¬ X.Fz (X.L k) := fun hz => by have := h.dis _ hz; rw [hO] at this; cases this
  have hown : ∀ {p c l v}, OwnV X w p c l v → OwnV X w' p c l v := fun ho => ho.world (fun b hb => hw b (fun e => by
    subst e
    rcases hb with hb | hb
    · exact hz hb
    · rw [hO] at hb; cases hb))
  have hrv : ∀ {x v}, Rv X.Fz X.D w x v → Rv X.Fz X.D w' x v := fun hx => Rv.other hx hz hw
  have hrc : ∀ {p x v}, Rc X w p x v → Rc X w' p x v := by
    intro p x v hx
    cases x <;> first | exact hown hx | exact trivial | exact hrv hx
  have hne : ∀ {k' cs0}, lk S.loc k' = some cs0 → k' ≠ k → X.L k' ≠ X.L k := fun hk' hne e => by
    have := (h.loc _ _ hk').1
    rw [e, hO] at this; cases this; exact hne rfl
  have hlive : ∀ p, inL k p = false → (({ S with loc := up S.loc k cs', env := kl (AV.at_ (inL k)) S.env } : St).ownAt p ≠ none) → S.ownAt p ≠ none ∧ hdr X a w' p = hdr X a w p := by
    intro p hp hl
    cases p with
    | t n =>
      obtain ⟨c, l, e⟩ := live_t hl
      exact ⟨by simp [St.ownAt, St.get, (lk_kl e).1], rfl⟩
    | l k' off =>
      obtain ⟨cs0, c, l, e, e2⟩ := live_l hl
      have hkk : k' ≠ k := fun e => by subst e; simp [inL] at hp
      simp only [lk_up, if_neg hkk] at e
      refine ⟨by simp [St.ownAt, e, e2], ?_⟩
      simp only [hdr]
      rw [cell?_of_heap (hw _ (hne e hkk))]
    | g k' off =>
      have hl' : S.ownAt (.g k' off) ≠ none := hl
      refine ⟨hl', ?_⟩
      obtain ⟨cs0, c, l, e, e2⟩ := live_g hl'
      obtain ⟨b, g1, g2, _⟩ := h.gob k' cs0 e
      simp only [hdr, g1]
      rw [cell?_of_heap (hw _ (fun e => by rw [e, hO] at g2; cases g2))]
    | res => exact absurd rfl hl
  refine ⟨fun t x hx => ?_, fun k' cs0 hk' => ?_, fun k' cs0 hk' => ?_, h.dis, fun b hb => by rw [hs]; exact h.inh b hb⟩
  · obtain ⟨e1, e2⟩ := lk_kl hx
    obtain ⟨g1, g2⟩ := h.env t x e1
    refine ⟨g1, g2.congr (fun b hb => hw b (fun e => ?_)) (fun q hq hl => hlive q (at_refs e2 hq) hl)⟩
    subst e
    rcases hb with hb | hb | hb
    · exact hz hb
    · rw [hO] at hb; cases hb
    · rw [hO] at hb; cases hb
  · simp only [lk_up] at hk'
    by_cases e : k' = k
    · rw [if_pos e] at hk'; cases hk'; subst e; exact ⟨hO, ho⟩
    · rw [if_neg e] at hk'
      obtain ⟨g1, vs, T, g2, g3, g4⟩ := h.loc k' cs0 hk'
      exact ⟨g1, vs, T, (hw _ (hne hk' e)).trans g2, g3, fun j x hj => hrc (g4 j x hj)⟩
  · obtain ⟨b, g0, g1, vs, T, g2, g3, g4⟩ := h.gob k' cs0 hk'
    exact ⟨b, g0, g1, vs, T, (hw _ (fun e => by rw [e, hO] at g1; cases g1)).trans g2, g3, fun j x hj => hrc (g4 j x hj)⟩

theorem RX.setG {X : Ctx} {S : St} {a : Act} {w w' : World} (h : RX X S a w) {k : Nat} {cs cs' : List AV} (hk : S.G k = some cs) {b : Nat} (hb : X.D k = some b) (hs : w'.heap.size = w.heap.size)
    (hw : ∀ i, i ≠ b → w'.heap[i]? = w.heap[i]?) (ho : ObjR X w' (fun j => .g k j) cs' b) : RX X { S with G := S.G.set k cs', env := kl (AV.at_ (inG k)) S.env } a w' := by
  have hO : X.O b = some (.gobj k) := by
    obtain ⟨b', g1, g2, _⟩ := h.gob k cs hk
    rw [hb] at g1; cases g1; exact g2
  have hz : ¬ X.Fz b := fun hz => by have := h.dis _ hz; rw [hO] at this; cases this
  have hown : ∀ {p c l v}, OwnV X w p c l v → OwnV X w' p c l v := fun ho => ho.world (fun i hi => hw i (fun e => by
    subst e
    rcases hi with hi | hi
    · exact hz hi
    · rw [hO] at hi; cases hi))
  have hrv : ∀ {x v}, Rv X.Fz X.D w x v → Rv X.Fz X.D w' x v := fun hx => Rv.other hx hz hw
  have hrc : ∀ {p x v}, Rc X w p x v → Rc X w' p x v := by
    intro p x v hx
    cases x <;> first | exact hown hx | exact trivial | exact hrv hx
  have hne : ∀ {k' cs0 b'}, S.G k' = some cs0 → X.D k' = some b' → k' ≠ k → b' ≠ b := fun hk' hb' hne e => by
    obtain ⟨b2, g1, g2, _⟩ := h.gob _ _ hk'
    rw [hb'] at g1; cases g1
    rw [e, hO] at g2; cases g2; exact hne rfl
  have hlive : ∀ p, inG k p = false → (({ S with G := S.G.set k cs', env := kl (AV.at_ (inG k)) S.env } : St).ownAt p ≠ none) → S.ownAt p ≠ none ∧ hdr X a w' p = hdr X a w p := by
    intro p hp hl
    cases p with
    | t n =>
      obtain ⟨c, l, e⟩ := live_t hl
      exact ⟨by simp [St.ownAt, St.get, (lk_kl e).1], rfl⟩
    | g k' off =>
      obtain ⟨cs0, c, l, e, e2⟩ := live_g hl
      have hkk : k' ≠ k := fun e => by subst e; simp [inG] at hp
      simp only [Objs.set_eq, if_neg hkk] at e
      refine ⟨by simp [St.ownAt, e, e2], ?_⟩
      obtain ⟨b', g1, g2, _⟩ := h.gob k' cs0 e
      simp only [hdr, g1]
      rw [cell?_of_heap (hw _ (hne e g1 hkk))]
    | l k' off =>
      have hl' : S.ownAt (.l k' off) ≠ none := hl
      refine ⟨hl', ?_⟩
      obtain ⟨cs0, c, l, e, e2⟩ := live_l hl'
      have g2 := (h.loc k' cs0 e).1
      simp only [hdr]
      rw [cell?_of_heap (hw _ (fun e => by rw [e, hO] at g2; cases g2))]
    | res => exact absurd rfl hl
  refine ⟨fun t x hx => ?_, fun k' cs0 hk' => ?_, fun k' cs0 hk' => ?_, h.dis, fun b hb => by rw [hs]; exact h.inh b hb⟩
  · obtain ⟨e1, e2⟩ := lk_kl hx
    obtain ⟨g1, g2⟩ := h.env t x e1
    refine ⟨g1, g2.congr (fun i hi => hw i (fun e => ?_)) (fun q hq hl => hlive q (at_refs e2 hq) hl)⟩
    subst e
    rcases hi with hi | hi | hi
    · exact hz hi
    · rw [hO] at hi; cases hi
    · rw [hO] at hi; cases hi
  · obtain ⟨g1, vs, T, g2, g3, g4⟩ := h.loc k' cs0 hk'
    exact ⟨g1, vs, T, (hw _ (fun e => by rw [e, hO] at g1; cases g1)).trans g2, g3, fun j x hj => hrc (g4 j x hj)⟩
  · simp only [Objs.set_eq] at hk'
    by_cases e : k' = k
    · rw [if_pos e] at hk'; cases hk'; subst e; exact ⟨b, hb, hO, ho⟩
    · rw [if_neg e] at hk'
      obtain ⟨b', g0, g1, vs, T, g2, g3, g4⟩ := h.gob k' cs0 hk'
      exact ⟨b', g0, g1, vs, T, (hw _ (hne hk' g0 e)).trans g2, g3, fun j x hj => hrc (g4 j x hj)⟩

theorem ObjR.over {X : Ctx} {w w' : World} {pl : Nat → Pl} {cs xs : List AV} {b off : Nat} {vs us : Array Value} {T : TypeId} (hb : w.heap[b]? = some (.cells vs T (0, 0))) (h3 : ∀ (j : Nat) (x : AV), cs[j]? = some x → Rc X w (pl j) x (vs.getD j undef))
    (hlen : cs.length ≤ vs.size) (hu : xs.length = us.size) (hoff : off + xs.length ≤ cs.length) (hW : Wr w w' b ((us.toList.zipIdx 0).foldl (laid off) vs) T)
    (hrc : ∀ {p x v}, Rc X w p x v → Rc X w' p x v) (hx : ∀ (j : Nat) (x : AV), xs[j]? = some x → Rc X w' (pl (off + j)) x (us.getD j undef)) : ObjR X w' pl (AL.over cs off xs) b := by
  refine ⟨_, T, hW.at_, by rw [over_length hoff, laid_size]; exact hlen, fun j x hj => ?_⟩
  rw [over_get hoff] at hj
  rw [Array.getD_eq_getD_getElem?, laid_get off us.toList 0 vs j (by simp; omega)]
  simp only [Nat.add_zero, Array.length_toList, ← hu, Array.getElem?_toList]
  by_cases h1 : off ≤ j ∧ j < off + xs.length
  · rw [if_pos h1] at hj ⊢
    have := hx _ _ hj
    rw [Array.getD_eq_getD_getElem?, show off + (j - off) = j from by omega] at this
    exact this
  · rw [if_neg h1] at hj ⊢
    have := hrc (h3 j x hj)
    rw [Array.getD_eq_getD_getElem?] at this
    exact this

theorem mul_add_uniq {i j i' j' c : Nat} (hj : j < c) (hj' : j' < c) (h : i * c + j = i' * c + j') : i = i' ∧ j = j' := by
  rcases Nat.lt_trichotomy i i' with g | g | g
  · exfalso
    have : (i + 1) * c ≤ i' * c := Nat.mul_le_mul_right c g
    rw [Nat.succ_mul] at this; omega
  · subst g; exact ⟨rfl, by omega⟩
  · exfalso
    have : (i' + 1) * c ≤ i * c := Nat.mul_le_mul_right c g
    rw [Nat.succ_mul] at this; omega

theorem OwnV.over {X : Ctx} {w w' : World} {q : Pl} {c : Nat} {l : List (List AV)} {b o cap i off : Nat} {vs us : Array Value} {T : TypeId} {cs xs : List AV} {v : Value}
    (hv : v = .slice (some ⟨b, o, none⟩) l.length cap) (hO : X.O b = some (.row q)) (hb : w.heap[b]? = some (.cells vs T (0, 0))) (h4 : o + cap * c ≤ vs.size) (h5 : l.length ≤ cap) (h6 : ∀ es ∈ l, es.length = c)
    (h7 : ∀ (k : Nat) (x : AV), l.flatten[k]? = some x → ∃ v, vs[o + k]? = some v ∧ Rv X.Fz X.D w x v) (hz : ¬ X.Fz b) (hi : l[i]? = some cs) (hoff : off + xs.length ≤ cs.length) (hu : CellsR X.Fz X.D w xs us)
    (hW : Wr w w' b ((us.toList.zipIdx 0).foldl (laid (o + i * c + off)) vs) T) : OwnV X w' q c (l.set i (AL.over cs off xs)) v := by
  have hlt := (List.getElem?_eq_some_iff.1 hi).1
  have hcs : cs.length = c := h6 cs (List.mem_of_getElem? hi)
  have hmul : (i + 1) * c ≤ l.length * c := Nat.mul_le_mul_right c hlt
  have hmul2 : l.length * c ≤ cap * c := Nat.mul_le_mul_right c h5
  rw [Nat.succ_mul] at hmul
  have h6' : ∀ es ∈ l.set i (AL.over cs off xs), es.length = c := by
    intro es hes
    rcases List.mem_or_eq_of_mem_set hes with hes | hes
    · exact h6 es hes
    · rw [hes, over_length hoff, hcs]
  refine .inr ⟨b, o, cap, _, T, by rw [hv]; simp, hO, hW.at_, by rw [laid_size]; exact h4, by simpa using h5, h6', fun k x hk => ?_⟩
  obtain ⟨i', j, es, rfl, hj, e1, e2⟩ := flatten_inv h6' hk
  have hrv : ∀ {x v}, Rv X.Fz X.D w x v → Rv X.Fz X.D w' x v := fun hx => Rv.other hx hz hW.other
  rw [laid_get _ us.toList 0 vs _ (by simp [← hu.1]; omega)]
  simp only [Nat.add_zero, Array.length_toList, ← hu.1, Array.getElem?_toList]
  by_cases hii : i = i'
  · subst hii
    rw [List.getElem?_set_self (by simpa using hlt)] at e1
    cases e1
    rw [over_get hoff] at e2
    by_cases h1 : off ≤ j ∧ j < off + xs.length
    · rw [if_pos h1] at e2
      rw [if_pos (by omega)]
      have hlt2 := (List.getElem?_eq_some_iff.1 e2).1
      have hus : us[j - off]? = some (us[j - off]'(by rw [← hu.1]; exact hlt2)) := Array.getElem?_eq_getElem (by rw [← hu.1]; exact hlt2)
      refine ⟨_, by rw [show o + (i * c + j) - (o + i * c + off) = j - off from by omega]; exact hus, hrv (hu.2 _ _ _ e2 hus)⟩
    · rw [if_neg h1] at e2
      rw [if_neg (by omega)]
      obtain ⟨v, g1, g2⟩ := h7 _ x (flatten_get h6 hi e2)
      exact ⟨v, g1, hrv g2⟩
  · rw [List.getElem?_set_ne hii] at e1
    have hno : ¬ (o + i * c + off ≤ o + (i' * c + j) ∧ o + (i' * c + j) < o + i * c + off + xs.length) := by
      intro hh
      have := mul_add_uniq (i := i') (j := j) (i' := i) (j' := i' * c + j - i * c) (c := c) hj (by omega) (by omega)
      exact hii this.1.symm
    rw [if_neg hno]
    obtain ⟨v, g1, g2⟩ := h7 _ x (flatten_get h6 e1 e2)
    exact ⟨v, g1, hrv g2⟩
end Go.AL
end
section
set_option linter.unusedVariables false
set_option linter.unusedSimpArgs false
set_option linter.unusedSectionVars false
namespace Go.AL

theorem act_put_self {a : Act} {t : Nat} (h : t < a.tmps.size) : a.put (some t) (a.tmps.getD t undef) = a := by
  cases a with
  | mk tmps defers =>
    simp only [Act.put] at h ⊢
    congr 1
    apply Array.ext
    · simp
    · intro i h1 h2
      by_cases e : i = t
      · subst e; simp [h2]
      · rw [Array.getElem_setIfInBounds_ne _ (Ne.symm e)]

theorem RX.freeze {X : Ctx} {S : St} {a : Act} {w : World} (h : RX X S a w) {q : Pl} {c : Nat} {l : List (List AV)} (ho : S.ownAt q = some (c, l)) :
    ∃ X', RX X' ((S.setAt q (.sl l)).kill q) a w ∧ Rv X'.Fz X'.D w (.sl l) (hdr X a w q) ∧ X'.D = X.D ∧ X'.L = X.L ∧ (∀ b, X.Fz b → X'.Fz b) ∧
      ∀ b, (X'.O b = X.O b ∧ (X'.Fz b → X.Fz b)) ∨ X.O b = some (.row q) := by
  have hlive : ∀ p, ((S.setAt q (.sl l)).kill q).ownAt p ≠ none → p ≠ q ∧ S.ownAt p ≠ none := by
    intro p hp
    have h1 := own_kill hp
    have hne : p ≠ q := by
      intro e; subst e
      apply h1
      cases p with
      | t n => rw [ownAt_t, get_setAt, if_pos rfl]; rfl
      | l k off =>
        rw [ownAt_l, loc_setAt]; simp only [if_true]
        cases lk S.loc k with
        | none => rfl
        | some cs => simp only [Option.map_some, Option.bind_some, List.getElem?_set_self']; cases cs[off]? <;> rfl
      | g k off =>
        rw [ownAt_g, G_setAt]; simp only [if_true]
        cases S.G k with
        | none => rfl
        | some cs => simp only [Option.map_some, Option.bind_some, List.getElem?_set_self']; cases cs[off]? <;> rfl
      | res => rfl
    rw [own_setAt_ne hne] at h1
    exact ⟨hne, h1⟩
  -- whatever the new context is, if it only frees the row of q
  have main : ∀ X' : Ctx, X'.D = X.D → X'.L = X.L → (∀ b, X.Fz b → X'.Fz b) → (∀ b, (X'.O b = X.O b ∧ (X'.Fz b → X.Fz b)) ∨ X.O b = some (.row q)) → (∀ b, X'.Fz b → X'.O b = none) → (∀ b, X'.Fz b ∨ X'.O b ≠ none → b < w.heap.size) →
      Rv X'.Fz X'.D w (.sl l) (hdr X a w q) → RX X' ((S.setAt q (.sl l)).kill q) a w := by
    intro X' hD hL hF hO hd hi hv
    have rv : ∀ {x v}, Rv X.Fz X.D w x v → Rv X'.Fz X'.D w x v := fun hx => hx.mono hF (fun i b e => by rw [hD]; exact e) (fun _ _ => rfl)
    have keepO : ∀ {b p}, X.O b = some p → p ≠ .row q → X'.O b = some p := by
      intro b p hb hp
      rcases hO b with ⟨e, _⟩ | e
      · rw [e]; exact hb
      · rw [hb] at e; cases e; exact absurd rfl hp
    have own : ∀ {p c l v}, p ≠ q → OwnV X w p c l v → OwnV X' w p c l v := by
      intro p c l v hp hv
      rcases hv with hv | ⟨b, off, cap, vs, T, g1, g2, g3, g4, g5, g6, g7⟩
      · exact .inl hv
      · refine .inr ⟨b, off, cap, vs, T, g1, keepO g2 (fun e => by cases e; exact hp rfl), g3, g4, g5, g6, fun k x hk => ?_⟩
        obtain ⟨v, k1, k2⟩ := g7 k x hk
        exact ⟨v, k1, rv k2⟩
    have rc : ∀ {p x v}, p ≠ q → Rc X w p x v → Rc X' w p x v := by
      intro p x v hp hx
      cases x <;> first | exact own hp hx | exact trivial | exact rv hx
    have hh : ∀ p, hdr X' a w p = hdr X a w p := by intro p; cases p <;> simp [hdr, hD, hL]
    refine ⟨fun t x hx => ?_, fun k cs hk => ?_, fun k cs hk => ?_, hd, hi⟩
    · obtain ⟨e1, e2⟩ := get_kill hx
      rw [get_setAt] at e1
      by_cases e : q = .t t
      · rw [if_pos e] at e1
        cases e1
        subst e
        obtain ⟨c0, l0, e3⟩ := live_t (S := S) (n := t) (by rw [ho]; simp)
        exact ⟨(h.env t _ e3).1, hv⟩
      · rw [if_neg e] at e1
        obtain ⟨g1, g2⟩ := h.env t x e1
        refine ⟨g1, ?_⟩
        revert g2
        generalize a.tmps.getD t undef = v
        intro g2
        cases x with
        | own c0 l0 => exact own (Ne.symm e) g2
        | view p => intro hp; rw [hh]; exact g2 (hlive p hp).2
        | sub p c0 lo hi => intro hp; rw [hh]; exact g2 (hlive p hp).2
        | eptr p c0 i off => intro hp; rw [hh]; exact g2 (hlive p hp).2
        | iter s pos => obtain ⟨b', k1, k2, k3⟩ := g2; exact ⟨b', k1, keepO k2 (by simp), k3⟩
        | lptr k off => show v = _; rw [hL]; exact g2
        | junk => trivial
        | _ => exact rv g2
    · have hk' : lk (S.setAt q (.sl l)).loc k = some cs := hk
      rw [loc_setAt] at hk'
      have key : ∀ cs0, lk S.loc k = some cs0 → (∀ j x, cs[j]? = some x → cs0[j]? = some x ∧ (.l k j : Pl) ≠ q ∨ q = .l k j ∧ x = .sl l) → cs.length = cs0.length → X'.O (X'.L k) = some (.lobj k) ∧ ObjR X' w (fun j => .l k j) cs (X'.L k) := by
        intro cs0 h0 hcs hlen
        obtain ⟨g1, vs, T, g2, g3, g4⟩ := h.loc k cs0 h0
        rw [hL]
        refine ⟨keepO g1 (by simp), vs, T, g2, by omega, fun j x hj => ?_⟩
        rcases hcs j x hj with ⟨e1, e2⟩ | ⟨e1, e2⟩
        · exact rc e2 (g4 j x e1)
        · subst e1; subst e2
          have hlt := (List.getElem?_eq_some_iff.1 hj).1
          have : hdr X a w (.l k j) = vs.getD j undef := by simp [hdr, World.cell?, g2, show j < vs.size from by omega]
          rw [← this]; exact hv
      cases q with
      | l k' off =>
        simp only at hk'
        by_cases e : k = k'
        · subst e
          rw [if_pos rfl, Option.map_eq_some_iff] at hk'
          obtain ⟨cs0, h1, rfl⟩ := hk'
          refine key cs0 h1 (fun j x hj => ?_) (by simp)
          by_cases ej : off = j
          · subst ej
            rw [List.getElem?_set_self'] at hj
            cases hc : cs0[off]? with
            | none => rw [hc] at hj; cases hj
            | some y => rw [hc] at hj; cases hj; exact .inr ⟨rfl, rfl⟩
          · rw [List.getElem?_set_ne ej] at hj
            exact .inl ⟨hj, fun e => ej (by cases e; rfl)⟩
        · rw [if_neg e] at hk'
          exact key cs hk' (fun j x hj => .inl ⟨hj, fun e' => e (by cases e'; rfl)⟩) rfl
      | _ => exact key cs hk' (fun j x hj => .inl ⟨hj, by simp⟩) rfl
    · have hk' : (S.setAt q (.sl l)).G k = some cs := hk
      rw [G_setAt] at hk'
      have key : ∀ cs0, S.G k = some cs0 → (∀ j x, cs[j]? = some x → cs0[j]? = some x ∧ (.g k j : Pl) ≠ q ∨ q = .g k j ∧ x = .sl l) → cs.length = cs0.length → ∃ b', X'.D k = some b' ∧ X'.O b' = some (.gobj k) ∧ ObjR X' w (fun j => .g k j) cs b' := by
        intro cs0 h0 hcs hlen
        obtain ⟨b', g0, g1, vs, T, g2, g3, g4⟩ := h.gob k cs0 h0
        refine ⟨b', by rw [hD]; exact g0, keepO g1 (by simp), vs, T, g2, by omega, fun j x hj => ?_⟩
        rcases hcs j x hj with ⟨e1, e2⟩ | ⟨e1, e2⟩
        · exact rc e2 (g4 j x e1)
        · subst e1; subst e2
          have hlt := (List.getElem?_eq_some_iff.1 hj).1
          have : hdr X a w (.g k j) = vs.getD j undef := by simp [hdr, g0, World.cell?, g2, show j < vs.size from by omega]
          rw [← this]; exact hv
      cases q with
      | g k' off =>
        simp only at hk'
        by_cases e : k = k'
        · subst e
          rw [if_pos rfl, Option.map_eq_some_iff] at hk'
          obtain ⟨cs0, h1, rfl⟩ := hk'
          refine key cs0 h1 (fun j x hj => ?_) (by simp)
          by_cases ej : off = j
          · subst ej
            rw [List.getElem?_set_self'] at hj
            cases hc : cs0[off]? with
            | none => rw [hc] at hj; cases hj
            | some y => rw [hc] at hj; cases hj; exact .inr ⟨rfl, rfl⟩
          · rw [List.getElem?_set_ne ej] at hj
            exact .inl ⟨hj, fun e => ej (by cases e; rfl)⟩
        · rw [if_neg e] at hk'
          exact key cs hk' (fun j x hj => .inl ⟨hj, fun e' => e (by cases e'; rfl)⟩) rfl
      | _ => exact key cs hk' (fun j x hj => .inl ⟨hj, by simp⟩) rfl
  rcases h.own ho with ⟨rfl, A, hA⟩ | ⟨b, off, cap, vs, T, k1, k2, k3, k4, k5, k6, k7⟩
  · have hv : Rv X.Fz X.D w (.sl []) (hdr X a w q) := by rw [hA]; exact .sl0 _ _
    exact ⟨X, main X rfl rfl (fun _ h => h) (fun b => .inl ⟨rfl, fun h => h⟩) h.dis h.inh hv, hv, rfl, rfl, fun _ h => h, fun b => .inl ⟨rfl, fun h => h⟩⟩
  · let X' : Ctx := { X with Fz := fun k => X.Fz k ∨ k = b, O := fun k => if k = b then none else X.O k }
    have hO : ∀ k, (X'.O k = X.O k ∧ (X'.Fz k → X.Fz k)) ∨ X.O k = some (.row q) := by
      intro k
      by_cases e : k = b
      · subst e; exact .inr k2
      · exact .inl ⟨by simp [X', e], fun hk => hk.resolve_right e⟩
    have hv : Rv X'.Fz X'.D w (.sl l) (hdr X a w q) := by
      rw [k1]
      refine .sl l b off cap c (fun k => vs.getD (off + k) undef) (.inr rfl) k5 k6 (fun k x hk => ?_) (fun k x hk => ?_)
      · obtain ⟨v, m1, m2⟩ := k7 k x hk
        have hlt := (Array.getElem?_eq_some_iff.1 m1).1
        simp [World.cell?, k3, hlt]
      · obtain ⟨v, m1, m2⟩ := k7 k x hk
        show Rv X'.Fz X'.D w x (vs.getD (off + k) undef)
        rw [Array.getD_eq_getD_getElem?, m1]
        exact m2.mono (fun b hb => .inl hb) (fun _ _ h => h) (fun _ _ => rfl)
    refine ⟨X', main X' rfl rfl (fun _ h => .inl h) hO (fun k hk => ?_) (fun k hk => ?_) hv, hv, rfl, rfl, fun _ h => .inl h, hO⟩
    · by_cases e : k = b
      · simp [X', e]
      · simp only [X', if_neg e]; exact h.dis k (hk.resolve_right e)
    · by_cases e : k = b
      · subst e; exact h.inh k (.inr (by rw [k2]; simp))
      · refine h.inh k (hk.imp (fun hk => hk.resolve_right e) (fun hk => ?_))
        simpa [X', e] using hk
end Go.AL
end
section
set_option linter.unusedVariables false
set_option linter.unusedSimpArgs false
set_option linter.unusedSectionVars false
namespace Go.AL

def frz1 (S : St) (q : Pl) : St := match S.ownAt q with | some (_, l) => (S.setAt q (.sl l)).kill q | none => S
def St.frzCells (S : St) (pl : Nat → Pl) (off : Nat) : Nat → St
  | 0 => S
  | n + 1 => frz1 (S.frzCells pl off n) (pl (off + n))
def St.fobj (S : St) (t k off : Nat) (cs : List AV) : St := { S with env := up (kl (AV.ofObj k) S.env) t (.ptrF (cs.drop off)), loc := rm S.loc k }
def St.frzPtr (S : St) (t k off : Nat) : St :=
  match lk S.loc k with
  | some cs0 => match lk (S.frzCells (fun j => .l k j) 0 cs0.length).loc k, (S.frzCells (fun j => .l k j) 0 cs0.length).get t with
    | some cs, some (.lptr k' off') => bif cs.all AV.isDeep && Nat.beq k' k && Nat.beq off' off then (S.frzCells (fun j => .l k j) 0 cs0.length).fobj t k off cs else S
    | _, _ => S
  | none => S
def St.frz (S : St) (x : Operand) : St :=
  match x with
  | .tmp t => match S.get t with
    | some (.own _ l) => (S.setAt (.t t) (.sl l)).kill (.t t)
    | some (.view q) => match S.ownAt q with
      | some (_, l) => ((S.setAt q (.sl l)).kill q).put t (.sl l)
      | none => S
    | some (.sub q c lo hi) => match S.ownAt q with
      | some (c', l) => bif Nat.beq c' c then ((S.setAt q (.sl l)).kill q).put t (.sl ((l.take hi).drop lo)) else S
      | none => S
    | some (.lptr k off) => S.frzPtr t k off
    | _ => S
  | _ => S
def St.frzOk (S : St) (qt : Bool) (x : Operand) : Bool :=
  match x with
  | .tmp t => match S.get t with
    | some (.view q) => !(qt && anyG q)
    | some (.sub q _ _ _) => !(qt && anyG q)
    | _ => true
  | _ => true

theorem fs_of_freeze {qt : Bool} {X X' : Ctx} {w : World} {q : Pl} (hq : (qt && anyG q) = false) (hD : X'.D = X.D) (hF : ∀ b, X.Fz b → X'.Fz b) (hO : ∀ b, (X'.O b = X.O b ∧ (X'.Fz b → X.Fz b)) ∨ X.O b = some (.row q)) (hL : X'.L = X.L := by rfl) : Fs qt X w X' w := by
  refine ⟨rfl, rfl, rfl, Nat.le_refl _, fun b hb hc => ?_, hF, fun i b h => by rw [hD]; exact h, fun h => by rw [hD]; exact h, fun _ _ => by rw [hL]⟩
  rcases hO b with ⟨h1, h2⟩ | h1
  · exact ⟨rfl, h1, h2⟩
  · exfalso
    rcases hc with hc | ⟨hc, hg⟩
    · rw [h1] at hc; cases hc
    · rw [h1] at hg
      cases q <;> simp [gplace, anyG, hc] at hg hq

theorem SlV.sub {Fz : Nat → Prop} {D : Nat → Option Nat} {w : World} {l : List (List AV)} {A B : Option Addr} {n cap c lo hi : Nat} (h : SlV Fz D w l (.slice A n cap)) (hc : ∀ es ∈ l, es.length = c) (h1 : lo ≤ hi) (h2 : hi ≤ n)
    (hB : lo < cap → B = A.map (·.add (lo * c))) : SlV Fz D w ((l.take hi).drop lo) (.slice B (hi - lo) (cap - lo)) := by
  obtain ⟨A', cap', e, hl, hh⟩ := h
  cases e
  refine ⟨B, cap - lo, by congr 1; simp; omega, by simp; omega, fun hne => ?_⟩
  have hlt : lo < hi := by
    rcases Nat.lt_or_ge lo hi with g | g
    · exact g
    · exact absurd (List.drop_eq_nil_iff.2 (by simp; omega)) hne
  have hl0 : l ≠ [] := fun e => by subst e; simp at h2; omega
  obtain ⟨b, off, c', f, rfl, hz, hw, hcell, hr⟩ := hh hl0
  have hcc : c' = c := by
    obtain ⟨e, r, rfl⟩ := List.exists_cons_of_ne_nil hl0
    rw [← hw e (by simp), hc e (by simp)]
  subst hcc
  refine ⟨b, off + lo * c', c', fun k => f (lo * c' + k), by rw [hB (by omega)]; simp [add_none], hz, fun cs hcs => hw cs (List.mem_of_mem_take (List.mem_of_mem_drop hcs)), fun k x hk => ?_, fun k x hk => ?_⟩
  · rw [← hcell _ _ (flat_take_drop hw hk)]; congr 2; omega
  · exact hr _ _ (flat_take_drop hw hk)

theorem RX.frz1 {X : Ctx} {S : St} {a : Act} {w : World} (h : RX X S a w) {q : Pl} {qt : Bool} (hq : (qt && anyG q) = false) : ∃ X', RX X' (AL.frz1 S q) a w ∧ Fs qt X w X' w := by
  unfold AL.frz1
  split
  · rename_i c l e
    obtain ⟨X', g1, g2, g3, g4, g5, g6⟩ := h.freeze e
    exact ⟨X', g1, fs_of_freeze hq g3 g5 g6 g4⟩
  · exact ⟨X, h, Fs.refl _ _ _⟩
theorem RX.frzCells {X : Ctx} {S : St} {a : Act} {w : World} (h : RX X S a w) {pl : Nat → Pl} {off : Nat} {qt : Bool} (hq : ∀ j, (qt && anyG (pl j)) = false) : ∀ n, ∃ X', RX X' (S.frzCells pl off n) a w ∧ Fs qt X w X' w
  | 0 => ⟨X, h, Fs.refl _ _ _⟩
  | n + 1 => by
    obtain ⟨X1, h1, f1⟩ := RX.frzCells h hq n
    obtain ⟨X2, h2, f2⟩ := h1.frz1 (hq (off + n))
    exact ⟨X2, h2, f1.trans f2⟩
theorem RX.fobj {X : Ctx} {S : St} {a : Act} {w : World} (h : RX X S a w) {t k off : Nat} {cs : List AV} {qt : Bool} (ht : S.get t = some (.lptr k off)) (hk : lk S.loc k = some cs) (hd : cs.all AV.isDeep = true) :
    ∃ X', RX X' (S.fobj t k off cs) a w ∧ Fs qt X w X' w := by
  obtain ⟨o1, vs, T, o2, o3, o4⟩ := h.loc k cs hk
  have hOk : ∀ {b p}, X.O b = some p → p ≠ .lobj k → b ≠ X.L k := fun hb hp e => by rw [e, o1] at hb; cases hb; exact hp rfl
  let X' : Ctx := { X with Fz := fun b => X.Fz b ∨ b = X.L k, O := fun b => if b = X.L k then none else X.O b }
  have rv : ∀ {x v}, Rv X.Fz X.D w x v → Rv X'.Fz X'.D w x v := fun hx => hx.mono (fun _ h => .inl h) (fun _ _ e => e) (fun _ _ => rfl)
  have own : ∀ {p c l v}, OwnV X w p c l v → OwnV X' w p c l v := by
    intro p c l v hv
    rcases hv with hv | ⟨b, off, cap, vs, T, g1, g2, g3, g4, g5, g6, g7⟩
    · exact .inl hv
    · refine .inr ⟨b, off, cap, vs, T, g1, ?_, g3, g4, g5, g6, fun k x hk => ?_⟩
      · show (if b = X.L _ then none else X.O b) = _
        rw [if_neg (hOk g2 (by simp))]; exact g2
      · obtain ⟨v, k1, k2⟩ := g7 k x hk
        exact ⟨v, k1, rv k2⟩
  have rc : ∀ {p x v}, Rc X w p x v → Rc X' w p x v := by
    intro p x v hx
    cases x <;> first | exact own hx | exact trivial | exact rv hx
  have live : ∀ q, (S.fobj t k off cs).ownAt q ≠ none → S.ownAt q ≠ none ∧ ∀ j, q ≠ .l k j := by
    intro q hq
    cases q with
    | t u =>
      refine ⟨?_, fun j => by simp⟩
      obtain ⟨c, l, e⟩ := live_t hq
      simp only [St.fobj, St.get, lk_up] at e
      by_cases hu : u = t
      · rw [if_pos hu] at e; cases e
      · rw [if_neg hu] at e
        have := (lk_kl e).1
        simp [St.ownAt, St.get, this]
    | l k' off' =>
      obtain ⟨cs', c, l, e, e2⟩ := live_l hq
      simp only [St.fobj, lk_rm] at e
      by_cases hk' : k' = k
      · rw [if_pos hk'] at e; cases e
      · rw [if_neg hk'] at e
        exact ⟨by simp [St.ownAt, e, e2], fun j e => hk' (by cases e; rfl)⟩
    | g id off' => exact ⟨hq, fun j => by simp⟩
    | res => exact ⟨hq, fun j => by simp⟩
  refine ⟨X', ⟨fun u y hy => ?_, fun k' cs' hk' => ?_, fun id cs' hid => ?_, fun b hb => ?_, fun b hb => ?_⟩, ?_⟩
  · simp only [St.fobj, St.get, lk_up] at hy
    by_cases hu : u = t
    · rw [if_pos hu] at hy
      cases hy
      subst hu
      obtain ⟨g1, g2⟩ := h.env u _ ht
      refine ⟨g1, ?_⟩
      have g2 : a.tmps.getD u undef = .pointer (some ⟨X.L k, off, none⟩) := g2
      rw [g2]
      refine Rv.ptrF _ _ _ (fun j => vs.getD (off + j) undef) (.inr rfl) (fun j x hj => ?_) (fun j x hj => ?_)
      · rw [List.getElem?_drop] at hj
        have hlt := (List.getElem?_eq_some_iff.1 hj).1
        simp only [World.cell?, o2, Option.isSome_none, Bool.false_eq_true, if_false]
        rw [Array.getD_eq_getD_getElem?, Array.getElem?_eq_getElem (by omega)]
        rfl
      · rw [List.getElem?_drop] at hj
        have hx := o4 (off + j) x hj
        have hdx := List.all_eq_true.1 hd x (List.mem_of_getElem? hj)
        exact rv (by cases x <;> first | exact hx | cases hdx)
    · rw [if_neg hu] at hy
      obtain ⟨e1, e2⟩ := lk_kl hy
      obtain ⟨g1, g2⟩ := h.env u y e1
      refine ⟨g1, ?_⟩
      have hh : ∀ q, (S.fobj t k off cs).ownAt q ≠ none → hdr X' a w q = hdr X a w q := fun q _ => by cases q <;> rfl
      cases y with
      | own c l => exact own g2
      | view q => exact fun hl => by rw [hh q hl]; exact g2 (live q hl).1
      | sub q c lo hi => exact fun hl => by rw [hh q hl]; exact g2 (live q hl).1
      | eptr q c i o => exact fun hl => by rw [hh q hl]; exact g2 (live q hl).1
      | iter s pos =>
        obtain ⟨b, k1, k2, k3⟩ := g2
        refine ⟨b, k1, ?_, k3⟩
        show (if b = X.L k then none else X.O b) = _
        rw [if_neg (hOk k2 (by simp))]; exact k2
      | lptr k' o => exact g2
      | junk => exact trivial
      | _ => exact rv g2
  · simp only [St.fobj, lk_rm] at hk'
    by_cases e : k' = k
    · rw [if_pos e] at hk'; cases hk'
    · rw [if_neg e] at hk'
      obtain ⟨g1, vs', T', g2, g3, g4⟩ := h.loc k' cs' hk'
      refine ⟨?_, vs', T', g2, g3, fun j x hj => rc (g4 j x hj)⟩
      show (if X.L k' = X.L k then none else X.O (X.L k')) = _
      rw [if_neg (hOk g1 (fun e' => by cases e'; exact e rfl))]; exact g1
  · obtain ⟨b, g0, g1, vs', T', g2, g3, g4⟩ := h.gob id cs' hid
    refine ⟨b, g0, ?_, vs', T', g2, g3, fun j x hj => rc (g4 j x hj)⟩
    show (if b = X.L k then none else X.O b) = _
    rw [if_neg (hOk g1 (by simp))]; exact g1
  · show (if b = X.L k then none else X.O b) = none
    split
    · rfl
    · rename_i hb'
      rcases hb with hb | hb
      · exact h.dis b hb
      · exact absurd hb hb'
  · rcases hb with (hb | hb) | hb
    · exact h.inh b (.inl hb)
    · rw [hb]; exact h.inh _ (.inr (by rw [o1]; simp))
    · have hb : (if b = X.L k then none else X.O b) ≠ none := hb
      split at hb
      · exact absurd rfl hb
      · exact h.inh b (.inr hb)
  · refine ⟨rfl, rfl, rfl, Nat.le_refl _, fun b hb hc => ?_, fun b hb => .inl hb, fun i b e => e, fun h => h, fun _ _ => rfl⟩
    have hne : b ≠ X.L k := by
      intro e
      rcases hc with hc | ⟨_, hc⟩
      · rw [e, o1] at hc; cases hc
      · rw [e, o1] at hc; exact hc
    refine ⟨rfl, ?_, fun hz => hz.elim id (fun e => absurd e hne)⟩
    show (if b = X.L k then none else X.O b) = X.O b
    rw [if_neg hne]

theorem RX.frzPtr {X : Ctx} {S : St} {a : Act} {w : World} (h : RX X S a w) {t k off : Nat} {qt : Bool} : ∃ X', RX X' (S.frzPtr t k off) a w ∧ Fs qt X w X' w := by
  have triv : ∃ X', RX X' S a w ∧ Fs qt X w X' w := ⟨X, h, Fs.refl _ _ _⟩
  unfold St.frzPtr
  split
  · rename_i cs0 _
    split
    · rename_i cs k' off' h1 h2
      cases hb : (cs.all AV.isDeep && Nat.beq k' k && Nat.beq off' off)
      · exact triv
      · simp only [Bool.and_eq_true] at hb
        obtain rfl := Nat.eq_of_beq_eq_true hb.1.2
        obtain rfl := Nat.eq_of_beq_eq_true hb.2
        obtain ⟨X1, r1, f1⟩ := h.frzCells (pl := fun j => .l k' j) (off := 0) (qt := qt) (by simp [anyG]) cs0.length
        obtain ⟨X2, r2, f2⟩ := r1.fobj (qt := qt) h2 h1 hb.1.1
        exact ⟨X2, r2, f1.trans f2⟩
    · exact triv
  · exact triv

theorem RX.frz {X : Ctx} {S : St} {a : Act} {w : World} (h : RX X S a w) {x : Operand} {qt : Bool} (hq : S.frzOk qt x = true) : ∃ X', RX X' (S.frz x) a w ∧ Fs qt X w X' w := by
  have triv : ∃ X', RX X' S a w ∧ Fs qt X w X' w := ⟨X, h, Fs.refl _ _ _⟩
  unfold St.frz
  cases x with
  | tmp t =>
    simp only
    simp only [St.frzOk] at hq
    split
    · rename_i c l e
      obtain ⟨X', g1, g2, g3, g4, g5, g6⟩ := h.freeze (q := .t t) (c := c) (l := l) (by simp [St.ownAt, e])
      exact ⟨X', g1, fs_of_freeze (q := .t t) (by simp [anyG]) g3 g5 g6 g4⟩
    · rename_i q e
      rw [e] at hq
      have hqq : (qt && anyG q) = false := by
        have hq : (!(qt && anyG q)) = true := hq
        cases h1 : (qt && anyG q) with | false => rfl | true => rw [h1] at hq; cases hq
      split
      · rename_i c l e2
        obtain ⟨X', g1, g2, g3, g4, g5, g6⟩ := h.freeze e2
        have hv := (h.env t _ e).2 (by rw [e2]; simp)
        have ht := (h.env t _ e).1
        refine ⟨X', ?_, fs_of_freeze (q := q) hqq g3 g5 g6 g4⟩
        have := g1.put (t := t) (x := .sl l) (v := a.tmps.getD t undef) ht (by rw [hv]; exact g2)
        rwa [act_put_self ht] at this
      · exact triv
    · rename_i q c lo hi e
      rw [e] at hq
      have hqq : (qt && anyG q) = false := by
        have hq : (!(qt && anyG q)) = true := hq
        cases h1 : (qt && anyG q) with | false => rfl | true => rw [h1] at hq; cases hq
      split
      · rename_i c' l e2
        cases hcc : Nat.beq c' c
        · exact triv
        have hcc := Nat.eq_of_beq_eq_true hcc
        subst hcc
        simp only [cond_true]
        obtain ⟨X', g1, g2, g3, g4, g5, g6⟩ := h.freeze e2
        obtain ⟨A, B, n, cap, k1, k2, k3, k4, k5, k6⟩ := (h.env t _ e).2 (by rw [e2]; simp)
        have ht := (h.env t _ e).1
        refine ⟨X', ?_, fs_of_freeze (q := q) hqq g3 g5 g6 g4⟩
        have hw : ∀ es ∈ l, es.length = c' := by
          rcases h.own e2 with ⟨rfl, _⟩ | ⟨b, off, cap', vs, T, _, _, _, _, _, m6, _⟩
          · intro es hes; simp at hes
          · exact m6
        rw [k1] at g2
        have := g1.put (t := t) (x := .sl ((l.take hi).drop lo)) (v := a.tmps.getD t undef) ht (by rw [k2]; exact SlV.mk (g2.sl_inv.sub hw k3 k4 k6))
        rwa [act_put_self ht] at this
      · exact triv
    · exact h.frzPtr
    · exact triv
  | const c => exact triv
  | global g => exact triv
  | func f => exact triv

def ownize (Δ : Tab) (d : TD) (xs : List AV) : List AV :=
  match d.k, xs with
  | .slice e, [.emp] => match lk Δ e with | some de => [.own de.size []] | none => xs
  | _, _ => xs

def wstoreV (Δ : Tab) (d : TD) (off : Nat) (cs : List AV) (v : AV) (K : List AV → Prop) : Prop :=
  v.cells.all AV.leaf = true ∧ v.isDeep = true ∧ v.cells.length = d.size ∧ off + d.size ≤ cs.length ∧ K (over cs off (ownize Δ d v.cells))

def wstore (Δ : Tab) (qt : Bool) (S : St) (t : Nat) (ad x : Operand) (K : St → Prop) : Prop :=
  match lk Δ t, S.val ad with
  | some d, some (.lptr k off) => match lk S.loc k with
    | some cs => match x, S.val x with
      | .tmp u, some (.own c l) => d.size = 1 ∧ off < cs.length ∧ K ({ S with loc := up S.loc k (cs.set off (.own c l)), env := kl (AV.at_ (inL k)) (kl (AV.refs (.t u)) (up S.env u .junk)) })
      | _, some v => wstoreV Δ d off cs v fun cs' => K { S with loc := up S.loc k cs', env := kl (AV.at_ (inL k)) S.env }
      | _, none => False
    | none => False
  | some d, some (.ptr id off) => qt = false ∧ ∃ cs, S.G id = some cs ∧ match x, S.val x with
      | .tmp u, some (.own c l) => d.size = 1 ∧ off < cs.length ∧ K ({ S with G := S.G.set id (cs.set off (.own c l)), env := kl (AV.at_ (inG id)) (kl (AV.refs (.t u)) (up S.env u .junk)) })
      | _, some v => wstoreV Δ d off cs v fun cs' => K { S with G := S.G.set id cs', env := kl (AV.at_ (inG id)) S.env }
      | _, none => False
  | some d, some (.eptr q c i off) => (qt && anyG q) = false ∧ match S.ownAt q, S.val x with
    | some (c', l), some v => c' = c ∧ v.cells.all AV.leaf = true ∧ v.isDeep = true ∧ v.cells.length = d.size ∧ ∃ cs, l[i]? = some cs ∧ off + d.size ≤ cs.length ∧ K (S.setAt q (.own c (l.set i (over cs off v.cells))))
    | _, _ => False
  | _, _ => False

theorem Fs.wr {qt : Bool} {X : Ctx} {w w' : World} {b : Nat} {vs : Array Value} {T : TypeId} (h : Wr w w' b vs T) {p : Pw} (hp : X.O b = some p) (hq : qt = true → ¬ gplace (some p)) : Fs qt X w X w' :=
  ⟨h.os, h.tape, h.output, by rw [h.size]; exact Nat.le_refl _, fun k hk hc => ⟨h.other k (fun e => by
    subst e
    rcases hc with hc | ⟨hc, hg⟩
    · rw [hp] at hc; cases hc
    · rw [hp] at hg; exact hq hc hg), rfl, fun h => h⟩, fun _ h => h, fun _ _ h => h, fun h => h, fun _ _ => rfl⟩

theorem all_one {Fz : Nat → Prop} {D : Nat → Option Nat} {w : World} {xs : List AV} {us : Array Value} (h : CellsR Fz D w xs us) (hl : xs.all AV.leaf = true) : ∀ u ∈ us.toList, one u = true := by
  intro u hu
  obtain ⟨j, hj⟩ := List.getElem?_of_mem hu
  have hj' : us[j]? = some u := by simpa using hj
  have hlt := (Array.getElem?_eq_some_iff.1 hj').1
  have hx : xs[j]? = some (xs[j]'(by rw [h.1]; exact hlt)) := List.getElem?_eq_getElem _
  exact leaf_one (h.2 j _ u hx hj') (List.all_eq_true.1 hl _ (List.getElem_mem _))

theorem ownize_length {P : Program} {Δ : Tab} {d : TD} {xs : List AV} : (ownize Δ d xs).length = xs.length := by
  unfold ownize
  split
  · split <;> rfl
  · rfl
theorem ownize_rc {Δ : Tab} {d : TD} {xs : List AV} {us : Array Value} {X : Ctx} {w : World} {pl : Nat → Pl} (h : CellsR X.Fz X.D w xs us) : ∀ (j : Nat) (x : AV), (ownize Δ d xs)[j]? = some x → Rc X w (pl j) x (us.getD j undef) := by
  intro j x hj
  have plain : ∀ y, xs[j]? = some y → Rc X w (pl j) y (us.getD j undef) := by
    intro y hy
    have hlt := (List.getElem?_eq_some_iff.1 hy).1
    have hu : us[j]? = some (us[j]'(by rw [← h.1]; exact hlt)) := Array.getElem?_eq_getElem _
    have := h.2 j y _ hy hu
    rw [Array.getD_eq_getD_getElem?, hu]
    have hd := this.isDeep
    revert this
    cases y <;> first | exact id | cases hd
  unfold ownize at hj
  split at hj
  · split at hj
    · rename_i de _
      cases j with
      | zero =>
        simp at hj; subst hj
        have := plain .emp (by simp)
        obtain ⟨A, e⟩ := Rv.emp_inv (this : Rv X.Fz X.D w .emp (us.getD 0 undef))
        exact .inl ⟨rfl, A, e⟩
      | succ j => simp at hj
    · exact plain x hj
  · exact plain x hj
end Go.AL
end
section
set_option linter.unusedVariables false
set_option linter.unusedSimpArgs false
set_option linter.unusedSectionVars false
namespace Go.AL

theorem over_one {cs : List AV} {off : Nat} {x : AV} (h : off < cs.length) : over cs off [x] = cs.set off x := by
  apply List.ext_getElem?
  intro j
  rw [over_get (by simp; omega), List.getElem?_set]
  simp only [List.length_singleton]
  by_cases h1 : off = j
  · subst h1; rw [if_pos (by omega), if_pos rfl, if_pos h, Nat.sub_self]; rfl
  · rw [if_neg (by omega), if_neg h1]

section
variable {P : Program} {Δ : Tab} (hΔ : Tab.Ok P Δ)
include hΔ

theorem storeL {X : Ctx} {S : St} {a : Act} {w : World} (h : RX X S a w) {t k off : Nat} {d : TD} (hd : lk Δ t = some d) {cs xs : List AV} {v : Value} (hk : lk S.loc k = some cs) (hx : ∀ (j : Nat) (x : AV), xs[j]? = some x → Rc X w (.l k (off + j)) x (v.cells.getD j undef))
    (hn : xs.length = v.cells.size) (hs : v.cells.size = d.size) (h1 : ∀ u ∈ v.cells.toList, one u = true) (hoff : off + xs.length ≤ cs.length) (qt : Bool) :
    ∃ w', (storeVar t ⟨X.L k, off, none⟩ v).run P w = .ok () w' ∧ RX X { S with loc := up S.loc k (over cs off xs), env := kl (AV.at_ (inL k)) S.env } a w' ∧ Fs qt X w X w' := by
  obtain ⟨hO, vs, T, g2, g3, g4⟩ := h.loc k cs hk
  have hz : ¬ X.Fz (X.L k) := fun hz => by have := h.dis _ hz; rw [hO] at this; cases this
  obtain ⟨w', r1, r2⟩ := run_storeVar hΔ hd (v := v) g2 hs (off := off) (by omega) h1
  have hrc : ∀ {p x v}, Rc X w p x v → Rc X w' p x v := fun hx => hx.world (fun i hi => r2.other i (fun e => by
    subst e
    rcases hi with hi | hi
    · exact hz hi
    · rw [hO] at hi; cases hi))
  refine ⟨w', r1, h.setLoc hk r2.size r2.other (ObjR.over g2 g4 g3 hn hoff r2 hrc (fun j x hj => hrc (hx j x hj))), Fs.wr r2 hO (fun _ hg => hg)⟩

theorem storeG {X : Ctx} {S : St} {a : Act} {w : World} (h : RX X S a w) {t k off b : Nat} {d : TD} (hd : lk Δ t = some d) {cs xs : List AV} {v : Value} (hk : S.G k = some cs) (hb : X.D k = some b) (hx : ∀ (j : Nat) (x : AV), xs[j]? = some x → Rc X w (.g k (off + j)) x (v.cells.getD j undef))
    (hn : xs.length = v.cells.size) (hs : v.cells.size = d.size) (h1 : ∀ u ∈ v.cells.toList, one u = true) (hoff : off + xs.length ≤ cs.length) :
    ∃ w', (storeVar t ⟨b, off, none⟩ v).run P w = .ok () w' ∧ RX X { S with G := S.G.set k (over cs off xs), env := kl (AV.at_ (inG k)) S.env } a w' ∧ Fs false X w X w' := by
  obtain ⟨b', e1, hO, vs, T, g2, g3, g4⟩ := h.gob k cs hk
  rw [hb] at e1; cases e1
  have hz : ¬ X.Fz b := fun hz => by have := h.dis _ hz; rw [hO] at this; cases this
  obtain ⟨w', r1, r2⟩ := run_storeVar hΔ hd (v := v) g2 hs (off := off) (by omega) h1
  have hrc : ∀ {p x v}, Rc X w p x v → Rc X w' p x v := fun hx => hx.world (fun i hi => r2.other i (fun e => by
    subst e
    rcases hi with hi | hi
    · exact hz hi
    · rw [hO] at hi; cases hi))
  refine ⟨w', r1, h.setG hk hb r2.size r2.other (ObjR.over g2 g4 g3 hn hoff r2 hrc (fun j x hj => hrc (hx j x hj))), Fs.wr r2 hO (fun h => by cases h)⟩

theorem RX.reown {X : Ctx} {S : St} {a : Act} {w : World} (h : RX X S a w) {q p : Pl} {c : Nat} {l : List (List AV)} (ho : S.ownAt q = some (c, l)) (hq : ∀ id off, q ≠ .g id off) (qt : Bool) :
    ∃ X', RX X' (S.take q) a w ∧ OwnV X' w p c l (hdr X a w q) ∧ Fs qt X w X' w ∧ X'.D = X.D ∧ X'.L = X.L := by
  have ht := h.take (q := q) (by rw [ho]; simp)
  rcases h.own ho with hn | ⟨b, off, cap, vs, T, k1, k2, k3, k4, k5, k6, k7⟩
  · exact ⟨X, ht, .inl hn, Fs.refl _ _ _, rfl, rfl⟩
  · have hz : ¬ X.Fz b := fun hz => by have := h.dis _ hz; rw [k2] at this; cases this
    have hlt : b < w.heap.size := h.inh b (.inr (by rw [k2]; simp))
    refine ⟨X.setO b (some (.row p)), ht.setO ⟨hz, .inr ⟨q, k2, own_take⟩⟩ (fun _ => hlt), .inr ⟨b, off, cap, vs, T, k1, setO_same _ _ _, k3, k4, k5, k6, k7⟩, ?_, rfl, rfl⟩
    refine ⟨rfl, rfl, rfl, Nat.le_refl _, fun i hi hc => ⟨rfl, setO_ne _ _ (fun e => ?_), fun h => h⟩, fun _ h => h, fun _ _ h => h, fun h => h, fun _ _ => rfl⟩
    subst e
    rcases hc with hc | ⟨hc, hg⟩
    · rw [k2] at hc; cases hc
    · rw [k2] at hg
      cases q with
      | g id off => exact hq id off rfl
      | _ => exact hg

theorem wstore_ok {X : Ctx} {S : St} {a : Act} {w : World} (h : RX X S a w) {qt : Bool} {t : Nat} {ad x : Operand} {K : St → Prop} (hq : wstore Δ qt S t ad x K) :
    ∃ S' X' w', K S' ∧ (Instr.storeAt t (a.eval ad) (a.eval x)).run P w = .ok () w' ∧ RX X' S' a w' ∧ Fs qt X w X' w' := by
  have own1 : ∀ {p c l u}, OwnV X w p c l u → u.cells = #[u] ∧ ∀ u' ∈ u.cells.toList, one u' = true := by
    intro p c l u ho
    rcases ho with ⟨_, A, rfl⟩ | ⟨b, off, cap, vs, T, rfl, _⟩ <;> exact ⟨rfl, by simp [Value.cells, one]⟩
  unfold wstore at hq
  split at hq
  · rename_i d k off h1 h2
    have hv : a.eval ad = .pointer (some ⟨X.L k, off, none⟩) := h.evc h2 rfl
    split at hq
    · rename_i cs h3
      split at hq
      · rename_i u c l hu
        obtain ⟨hsz, hlt, hK⟩ := hq
        obtain ⟨X', r1, r2, r3, r4, r5⟩ := h.reown hΔ (q := .t u) (p := .l k off) (c := c) (l := l) (by show S.ownAt (.t u) = _; simp only [St.ownAt]; rw [show S.get u = some (.own c l) from hu]) (by simp) qt
        obtain ⟨e1, e2⟩ := own1 (h.evo hu)
        obtain ⟨w', m1, m2, m3⟩ := storeL hΔ r1 h1 (xs := [.own c l]) (v := a.eval (.tmp u)) (k := k) (off := off) h3 (fun j x hj => by
          cases j with
          | zero => simp at hj; subst hj; rw [e1]; exact r2
          | succ j => simp at hj) (by rw [e1]; rfl) (by rw [e1, hsz]; rfl) e2 (by simp; omega) qt
        rw [over_one hlt] at m2
        refine ⟨_, X', w', hK, ?_, m2, r3.trans m3⟩
        rw [hv, ← r5]
        simpa [Instr.storeAt, Instr.sureAddr] using m1
      · rename_i x0 _ _ v _ hx
        obtain ⟨hl, hd, hn, hoff, hK⟩ := hq
        have hc := (h.evd hx hd).cellsR
        obtain ⟨w', m1, m2, m3⟩ := storeL hΔ h h1 (xs := ownize Δ d v.cells) (v := a.eval x0) (k := k) (off := off) h3 (ownize_rc hc (pl := fun j => .l k (off + j))) (by rw [ownize_length (P := P)]; exact hc.1) (by rw [← hc.1]; exact hn) (all_one hc hl) (by rw [ownize_length (P := P)]; omega) qt
        refine ⟨_, X, w', hK, ?_, m2, m3⟩
        rw [hv]
        simpa [Instr.storeAt, Instr.sureAddr] using m1
      · exact hq.elim
    · exact hq.elim
  · rename_i d k off h1 h2
    obtain ⟨rfl, cs, h3, hq⟩ := hq
    obtain ⟨b, hb1, hb2⟩ := (h.evd h2 rfl).ptr_inv
    split at hq
    · rename_i u c l hu
      obtain ⟨hsz, hlt, hK⟩ := hq
      obtain ⟨X', r1, r2, r3, r4, r5⟩ := h.reown hΔ (q := .t u) (p := .g k off) (c := c) (l := l) (by show S.ownAt (.t u) = _; simp only [St.ownAt]; rw [show S.get u = some (.own c l) from hu]) (by simp) false
      obtain ⟨e1, e2⟩ := own1 (h.evo hu)
      obtain ⟨w', m1, m2, m3⟩ := storeG hΔ r1 h1 (xs := [.own c l]) (v := a.eval (.tmp u)) (k := k) (off := off) (b := b) h3 (by rw [r4]; exact hb1) (fun j x hj => by
        cases j with
        | zero => simp at hj; subst hj; rw [e1]; exact r2
        | succ j => simp at hj) (by rw [e1]; rfl) (by rw [e1, hsz]; rfl) e2 (by simp; omega)
      rw [over_one hlt] at m2
      refine ⟨_, X', w', hK, ?_, m2, r3.trans m3⟩
      rw [hb2]
      simpa [Instr.storeAt, Instr.sureAddr] using m1
    · rename_i x0 _ _ v _ hx
      obtain ⟨hl, hd, hn, hoff, hK⟩ := hq
      have hc := (h.evd hx hd).cellsR
      obtain ⟨w', m1, m2, m3⟩ := storeG hΔ h h1 (xs := ownize Δ d v.cells) (v := a.eval x0) (k := k) (off := off) h3 hb1 (ownize_rc hc (pl := fun j => .g k (off + j))) (by rw [ownize_length (P := P)]; exact hc.1) (by rw [← hc.1]; exact hn) (all_one hc hl) (by rw [ownize_length (P := P)]; omega)
      refine ⟨_, X, w', hK, ?_, m2, m3⟩
      rw [hb2]
      simpa [Instr.storeAt, Instr.sureAddr] using m1
    · exact hq.elim
  · rename_i d q c i off h1 h2
    obtain ⟨hqt, hq⟩ := hq
    split at hq
    · rename_i c' l v h3 hx
      obtain ⟨rfl, hl, hd, hn, cs, h4, hoff, hK⟩ := hq
      have hc := (h.evd hx hd).cellsR
      obtain ⟨b, o, n, cap, e1, e2⟩ := h.evc h2 rfl (by rw [h3]; simp)
      rcases h.own h3 with ⟨rfl, _⟩ | ⟨b', o', cap', vs, T, k1, k2, k3, k4, k5, k6, k7⟩
      · simp at h4
      · rw [e1] at k1
        injection k1 with k1 k1' k1''
        injection k1 with k1
        injection k1 with ka kb
        subst ka; subst kb; subst k1'; subst k1''
        have hz : ¬ X.Fz b := fun hz => by have := h.dis _ hz; rw [k2] at this; cases this
        have hlt := (List.getElem?_eq_some_iff.1 h4).1
        have hcs : cs.length = c' := k6 cs (List.mem_of_getElem? h4)
        have hm1 : (i + 1) * c' ≤ l.length * c' := Nat.mul_le_mul_right c' hlt
        have hm2 : l.length * c' ≤ cap * c' := Nat.mul_le_mul_right c' k5
        rw [Nat.succ_mul] at hm1
        obtain ⟨w', r1, r2⟩ := run_storeVar hΔ h1 (v := a.eval x) k3 (by rw [← hc.1]; exact hn) (off := o + i * c' + off) (by omega) (all_one hc hl)
        have hov := OwnV.over (X := X) (w := w) (w' := w') (q := q) e1 k2 k3 k4 k5 k6 k7 hz h4 (by omega) hc r2
        refine ⟨_, X, w', hK, ?_, h.setRow h3 k2 r2.size r2.other hov, Fs.wr r2 k2 (fun hqt' hg => ?_)⟩
        · rw [e2]
          simpa [Instr.storeAt, Instr.sureAddr] using r1
        · rw [hqt'] at hqt
          cases q <;> simp [gplace, anyG] at hg hqt
    · exact hq.elim
  · exact hq.elim
end
end Go.AL
end
section
set_option linter.unusedVariables false
set_option linter.unusedSimpArgs false
set_option linter.unusedSectionVars false
namespace Go.AL

def SlW (X : Ctx) (w : World) (l : List (List AV)) (u : Value) : Prop :=
  ∃ (A : Option Addr) (cap : Nat), u = .slice A l.length cap ∧ l.length ≤ cap ∧ (l ≠ [] → ∃ (b off c : Nat) (f : Nat → Value), A = some ⟨b, off, none⟩ ∧ (∀ es ∈ l, es.length = c) ∧
    (∀ (k : Nat) (x : AV), l.flatten[k]? = some x → w.cell? ⟨b, off + k, none⟩ = some (f k)) ∧ ∀ (k : Nat) (x : AV), l.flatten[k]? = some x → Rv X.Fz X.D w x (f k))

theorem OwnV.slW {X : Ctx} {w : World} {p : Pl} {c : Nat} {es : List (List AV)} {u : Value} (ho : OwnV X w p c es u) : SlW X w es u := by
  rcases ho with ⟨rfl, A, rfl⟩ | ⟨b, off, cap, vs, T, rfl, k2, k3, k4, k5, k6, k7⟩
  · exact ⟨A, 0, rfl, Nat.le_refl _, fun h => absurd rfl h⟩
  · refine ⟨_, cap, rfl, k5, fun _ => ⟨b, off, c, fun k => vs.getD (off + k) undef, rfl, k6, fun k x hk => ?_, fun k x hk => ?_⟩⟩
    · obtain ⟨v, g1, g2⟩ := k7 k x hk
      have hlt := (Array.getElem?_eq_some_iff.1 g1).1
      simp [World.cell?, k3, hlt]
    · obtain ⟨v, g1, g2⟩ := k7 k x hk
      show Rv X.Fz X.D w x (vs.getD (off + k) undef)
      rw [Array.getD_eq_getD_getElem?, g1]
      exact g2

theorem slOf_slW {X : Ctx} {S : St} {a : Act} {w : World} (hR : RX X S a w) {x : Operand} {y : AV} {l : List (List AV)} (hy : S.val x = some y) (hl : S.slOf y = some l) : SlW X w l (a.eval x) := by
  unfold St.slOf at hl
  split at hl
  · cases hl
    obtain ⟨A, cap, e1, e2, e3⟩ := (hR.evd hy rfl).sl_inv
    refine ⟨A, cap, e1, e2, fun h => ?_⟩
    obtain ⟨b, off, c, f, h1, h2, h3⟩ := e3 h
    exact ⟨b, off, c, f, h1, h3⟩
  · cases hl
    obtain ⟨A, e⟩ := (hR.evd hy rfl).emp_inv
    exact ⟨A, 0, e, Nat.le_refl _, fun h => absurd rfl h⟩
  · rename_i q
    split at hl
    · rename_i c es h3
      cases hl
      have hp := hR.evc hy rfl (by rw [h3]; simp)
      rw [hp]
      exact (hR.own h3).slW
    · cases hl
  · rename_i q c lo hi
    split at hl
    · rename_i c' es h3
      cases hcc : Nat.beq c' c
      · rw [hcc] at hl; cases hl
      have hcc := Nat.eq_of_beq_eq_true hcc
      subst hcc
      rw [Nat.beq_refl] at hl
      cases hl
      obtain ⟨A, B, n, cap, e1, e2, e3, e4, e5, e6⟩ := hR.evc hy rfl (by rw [h3]; simp)
      rcases hR.own h3 with ⟨rfl, A', k1⟩ | ⟨b, off, cap', vs, T, k1, k2, k3, k4, k5, k6, k7⟩
      · rw [e1] at k1; cases k1
        rw [e2]
        exact ⟨B, 0 - lo, by congr 1; simp; omega, by simp, fun h => absurd (by simp) h⟩
      · rw [e1] at k1; cases k1
        rw [e2]
        refine ⟨B, cap - lo, by congr 1; simp; omega, by simp; omega, fun hne => ?_⟩
        have hlt : lo < hi := by
          rcases Nat.lt_or_ge lo hi with g | g
          · exact g
          · exact absurd (List.drop_eq_nil_iff.2 (by simp; omega)) hne
        refine ⟨b, off + lo * c', c', fun k => vs.getD (off + (lo * c' + k)) undef, by rw [e6 (by omega)]; simp [add_none], fun cs hcs => k6 cs (List.mem_of_mem_take (List.mem_of_mem_drop hcs)), fun k x hk => ?_, fun k x hk => ?_⟩
        · obtain ⟨v, g1, g2⟩ := k7 _ x (flat_take_drop k6 hk)
          have hlt := (Array.getElem?_eq_some_iff.1 g1).1
          rw [show off + lo * c' + k = off + (lo * c' + k) from by omega]
          simp [World.cell?, k3, hlt]
        · obtain ⟨v, g1, g2⟩ := k7 _ x (flat_take_drop k6 hk)
          show Rv X.Fz X.D w x (vs.getD (off + (lo * c' + k)) undef)
          rw [Array.getD_eq_getD_getElem?, g1]
          exact g2
    · cases hl
  · rename_i c es
    cases hl
    cases x with
    | tmp t => exact (hR.evo hy).slW
    | const c => have := (ofConst_ok (hy : ofConst c = _) X.Fz X.D w).2; cases this
    | func f => simp [St.val] at hy
    | global g => simp [St.val] at hy
  · cases hl

theorem run_firstCells {P : Program} {X : Ctx} {w : World} {l : List (List AV)} {u : Value} {c : Nat} (h : SlW X w l u) (hc : ∀ es ∈ l, es.length = c) :
    ∃ us, (Builtin.firstCells c l.length u).run P w = .ok us w ∧ CellsR X.Fz X.D w l.flatten us := by
  obtain ⟨A, cap, rfl, hl, hh⟩ := h
  by_cases h0 : l = []
  · subst h0
    refine ⟨#[], ?_, rfl, fun j x v h => by simp at h⟩
    cases A <;> simp [Builtin.firstCells, loadCells, loadCellsFrom]
  · obtain ⟨b, off, c', f, rfl, hw, hcell, hr⟩ := hh h0
    have hcc : c' = c := by
      obtain ⟨e, r, rfl⟩ := List.exists_cons_of_ne_nil h0
      rw [← hw e (by simp), hc e (by simp)]
    subst hcc
    have hfl := flatten_len hw
    obtain ⟨us, g1, g2, _, g4⟩ := run_loadCellsFrom (P := P) (w := w) (a := ⟨b, off, none⟩) f (l.length * c') 0 #[] (fun k _ hk => by
      rw [add_none]; exact hcell k _ (List.getElem?_eq_getElem (by omega)))
    refine ⟨us, ?_, by rw [hfl, g2]; simp, fun j x v hx hv => ?_⟩
    · simp only [Builtin.firstCells, loadCells, g1]
    · have hj : j < l.length * c' := by rw [← hfl]; exact (List.getElem?_eq_some_iff.1 hx).1
      have := g4 j hj
      simp at this
      rw [this] at hv
      cases hv
      exact hr j x hx

def Base (X : Ctx) (w : World) (l : List (List AV)) (c : Nat) (u : Value) (b? : Option Nat) : Prop :=
  (l = [] ∧ ∃ A, u = .slice A 0 0) ∨
  ∃ (b off cap : Nat) (vs : Array Value) (T : TypeId), b? = some b ∧ u = .slice (some ⟨b, off, none⟩) l.length cap ∧ w.heap[b]? = some (.cells vs T (0, 0)) ∧
    off + cap * c ≤ vs.size ∧ l.length ≤ cap ∧ (∀ es ∈ l, es.length = c) ∧ ∀ (k : Nat) (x : AV), l.flatten[k]? = some x → ∃ v, vs[off + k]? = some v ∧ Rv X.Fz X.D w x v

theorem own_new {X : Ctx} {w w' : World} {p : Pl} {l : List (List AV)} {c cap : Nat} {us rest : Array Value} {T : TypeId} (hl : CellsR X.Fz X.D w l.flatten us) (hc : ∀ es ∈ l, es.length = c)
    (hcap : l.length ≤ cap) (hsz : us.size + rest.size = cap * c) {b : Nat} (hb : w'.heap[b]? = some (.cells (us ++ rest) T (0, 0))) (hO : X.O b = some (.row p)) (hw : ∀ k, X.Fz k → w'.heap[k]? = w.heap[k]?) :
    OwnV X w' p c l (.slice (some ⟨b, 0, none⟩) l.length cap) := by
  refine .inr ⟨b, 0, cap, _, T, rfl, hO, hb, by simp; omega, hcap, hc, fun k x hk => ?_⟩
  have hlt : k < us.size := by rw [← hl.1]; exact (List.getElem?_eq_some_iff.1 hk).1
  refine ⟨us[k], ?_, (hl.2 k x _ hk (Array.getElem?_eq_getElem hlt)).mono (fun _ h => h) (fun _ _ h => h) hw⟩
  rw [Nat.zero_add, Array.getElem?_append_left hlt]
  exact Array.getElem?_eq_getElem hlt

section
variable {P : Program} {Δ : Tab} (hΔ : Tab.Ok P Δ)
include hΔ

omit hΔ in
theorem append_room {w : World} {t1 t2 ty e e' size n cap m caps : Nat} {A As : Option Addr} {news : Array Value} (h1 : P.underlying t1 = some (.slice e)) (h2 : P.underlying t2 = some (.slice e')) (hs : (sizeOf e).run P w = .ok size w)
    (hroom : n + m ≤ cap) (hf : (Builtin.firstCells size m (.slice As m caps)).run P w = .ok news w) :
    (Builtin.append_ #[t1, t2] ty #[.slice A n cap, .slice As m caps]).run P w =
      ((match A with | some a => storeCells (a.add (n * size)) news.toList | none => pure () : Sem Unit).run P w).andThen fun _ w' => .ok (.slice A (n + m) cap) w' := by
  cases A <;> simp [Builtin.append_, underlying, h1, h2, hs, Builtin.lenOf, hroom, hf]

omit hΔ in
theorem append_grow {w : World} {t1 t2 ty e e' size n cap m caps : Nat} {A As : Option Addr} {i : TypeInfo} {olds news : Array Value} {z : Value} (h1 : P.underlying t1 = some (.slice e)) (h2 : P.underlying t2 = some (.slice e')) (hs : ∀ w, (sizeOf e).run P w = .ok size w)
    (hi : P.info? e = some i) (hb : i.bytes ≠ 0 ∨ True) (hroom : ¬ n + m ≤ cap) (hmax : n + m ≤ 9223372036854775807) (hfit : Builtin.nextslicecap (n + m) cap * i.bytes ≤ 281474976710656)
    (ho : (Builtin.firstCells size n (.slice A n cap)).run P w.drew = .ok olds w.drew) (hf : (Builtin.firstCells size m (.slice As m caps)).run P w.drew = .ok news w.drew) (hz : (zeroValue e).run P w.drew = .ok z w.drew) :
    ∃ nc, n + m ≤ nc ∧ (Builtin.append_ #[t1, t2] ty #[.slice A n cap, .slice As m caps]).run P w =
      .ok (.slice (some ⟨w.heap.size, 0, none⟩) (n + m) nc) (w.drew.alloc (.cells (olds ++ news ++ Builtin.zeroCells z.cells (nc - (n + m))) e)) := by
  refine ⟨(Question.appendCap (n + m) cap e).cut (w.tape w.drawn (.appendCap (n + m) cap e)), by simp only [Question.cut]; omega, ?_⟩
  have hm : ¬ (((n + m : Nat) : Int) > IntKind.i64.max ∧ (False ∨ i.bytes = 0)) := by
    have : IntKind.i64.max = 9223372036854775807 := by decide
    omega
  have hn : ¬ (Builtin.nextslicecap (n + m) cap * i.bytes > 2 ^ 48) := by omega
  have hty : ∀ w : World, (typeInfo e).run P w = .ok i w := fun w => by simp [typeInfo, hi]
  have hc : (choose (Question.appendCap (n + m) cap e)).run P w = .ok ((Question.appendCap (n + m) cap e).cut (w.tape w.drawn (.appendCap (n + m) cap e))) w.drew := by simp [Question.forced]
  simp only [Builtin.append_, underlying, Sem.run_bind, run_program, Result.andThen_ok, h1, h2, hs, Builtin.lenOf, Sem.run_pure, List.getElem?_toArray, List.getElem?_cons_zero, List.getElem?_cons_succ, Bool.false_eq_true, if_false, if_neg hroom, hty]
  rw [if_neg (by simpa using hm)]
  simp only [if_neg hn, Sem.run_bind, hc, Result.andThen_ok, hty, run_askRoom, ho, Bool.not_false, if_true, hf, hz, newRow, run_newObj, Sem.run_pure]
  rfl

theorem run_append {X : Ctx} {w : World} {t1 t2 ty e e' : Nat} {d : TD} {ub us : Value} {l m : List (List AV)} {b? : Option Nat} (h1 : P.underlying t1 = some (.slice e)) (h2 : P.underlying t2 = some (.slice e')) (hd : lk Δ e = some d)
    (hz : d.zero.length = d.size) (hk : d.k ≠ .tup) (hf : d.k ≠ .fn) (hbase : Base X w l d.size ub b?) (hbz : ∀ b, b? = some b → ¬ X.Fz b) (hw2 : ∀ es ∈ m, es.length = d.size) (hlf : m.flatten.all AV.leaf = true)
    (hsrc : SlW X w m us) (hbytes : (l.length + m.length) * d.bytes ≤ 140737488355328) (hlen : l.length + m.length ≤ 9223372036854775807) :
    ∃ u' w' bn, (Builtin.append_ #[t1, t2] ty #[ub, us]).run P w = .ok u' w' ∧ w'.os = w.os ∧ w'.tape = w.tape ∧ w'.output = w.output ∧ w.heap.size ≤ w'.heap.size ∧
      (∀ k, k < w.heap.size → some k ≠ b? → w'.heap[k]? = w.heap[k]?) ∧ (bn = none ∨ bn = b? ∨ bn = some w.heap.size) ∧ (∀ k, bn = some k → k < w'.heap.size) ∧
      ∀ (X' : Ctx) (p : Pl), (∀ k, bn = some k → X'.O k = some (.row p)) → X'.Fz = X.Fz → X'.D = X.D → (∀ k, X.Fz k → w'.heap[k]? = w.heap[k]?) → OwnV X' w' p d.size (l ++ m) u' := by
  have hs := run_sizeOf hΔ hd
  have hpos := size_pos hΔ hd
  obtain ⟨i, i1, i2, i3⟩ := info_ok hΔ hd
  have hnl := flatten_len hw2
  -- the source in the world behind a draw
  have hsrc' : SlW X w.drew m us := by
    obtain ⟨A', c', e1, e2, e3⟩ := hsrc
    refine ⟨A', c', e1, e2, fun h => ?_⟩
    obtain ⟨b, off, c, f, g1, g2, g3, g4⟩ := e3 h
    exact ⟨b, off, c, f, g1, g2, g3, fun k x hk => (g4 k x hk).mono (fun _ h => h) (fun _ _ h => h) (fun _ _ => rfl)⟩
  -- the base as a plain slice
  have hbW : SlW X w l ub := by
    rcases hbase with ⟨rfl, A, rfl⟩ | ⟨b, off, cap, vs, T, _, rfl, k3, k4, k5, k6, k7⟩
    · exact ⟨A, 0, rfl, Nat.le_refl _, fun h => absurd rfl h⟩
    · refine ⟨_, cap, rfl, k5, fun _ => ⟨b, off, d.size, fun k => vs.getD (off + k) undef, rfl, k6, fun k x hk => ?_, fun k x hk => ?_⟩⟩
      · obtain ⟨v, g1, g2⟩ := k7 k x hk
        have hlt := (Array.getElem?_eq_some_iff.1 g1).1
        simp [World.cell?, k3, hlt]
      · obtain ⟨v, g1, g2⟩ := k7 k x hk
        show Rv X.Fz X.D w x (vs.getD (off + k) undef)
        rw [Array.getD_eq_getD_getElem?, g1]
        exact g2
  have hw1 : ∀ es ∈ l, es.length = d.size := by
    rcases hbase with ⟨rfl, _⟩ | ⟨b, off, cap, vs, T, _, _, _, _, _, k6, _⟩
    · intro es hes; simp at hes
    · exact k6
  have hwA : ∀ es ∈ l ++ m, es.length = d.size := fun es hes => (List.mem_append.1 hes).elim (hw1 es) (hw2 es)
  have hbW' : SlW X w.drew l ub := by
    obtain ⟨A', c', e1, e2, e3⟩ := hbW
    refine ⟨A', c', e1, e2, fun h => ?_⟩
    obtain ⟨b, off, c, f, g1, g2, g3, g4⟩ := e3 h
    exact ⟨b, off, c, f, g1, g2, g3, fun k x hk => (g4 k x hk).mono (fun _ h => h) (fun _ _ h => h) (fun _ _ => rfl)⟩
  obtain ⟨Ab, capb, rfl, hlb, _⟩ := id hbW
  obtain ⟨As, caps, rfl, hls, _⟩ := id hsrc
  by_cases hroom : l.length + m.length ≤ capb
  · obtain ⟨news, n1, n2⟩ := run_firstCells (P := P) hsrc hw2
    have hr := append_room (ty := ty) (A := Ab) (n := l.length) (cap := capb) (m := m.length) (As := As) (caps := caps) h1 h2 (hs w) hroom n1
    rcases hbase with ⟨rfl, A, hA⟩ | ⟨b, off, cap, vs, T, kb, ku, k3, k4, k5, k6, k7⟩
    · cases hA
      have hm : m = [] := List.eq_nil_of_length_eq_zero (by simpa using hroom)
      subst hm
      have hn : news = #[] := Array.eq_empty_of_size_eq_zero (by rw [← n2.1]; rfl)
      subst hn
      refine ⟨.slice Ab 0 0, w, none, by rw [hr]; cases Ab <;> rfl, rfl, rfl, rfl, Nat.le_refl _, fun _ _ _ => rfl, .inl rfl, fun k h => (by cases h), fun X' p _ _ _ _ => .inl ⟨rfl, Ab, rfl⟩⟩
    · cases ku
      subst kb
      have hfl := flatten_len hw1
      have hsz : news.size = m.length * d.size := by rw [← n2.1, hnl]
      have hmul : (l.length + m.length) * d.size ≤ capb * d.size := Nat.mul_le_mul_right _ hroom
      rw [Nat.add_mul] at hmul
      obtain ⟨w', r1, r2⟩ := run_storeCells (P := P) news.toList 0 w vs k3 (off := off + l.length * d.size) (by simp; omega) (all_one n2 hlf)
      have hb := hbz b rfl
      refine ⟨.slice (some ⟨b, off, none⟩) (l.length + m.length) capb, w', some b, ?_, r2.os, r2.tape, r2.output, by rw [r2.size]; exact Nat.le_refl _, fun k _ hk => r2.other k (fun e => hk (by rw [e])), .inr (.inl rfl), fun k hk => ?_, fun X' p hO hF hD hw => ?_⟩
      · rw [hr]
        simp only [add_none, r1, Result.andThen_ok]
      · cases hk
        rw [r2.size]
        rcases Nat.lt_or_ge b w.heap.size with g | g
        · exact g
        · rw [Array.getElem?_eq_none g] at k3; cases k3
      · refine .inr ⟨b, off, capb, _, T, by simp, hO b rfl, r2.at_, by rw [laid_size]; exact k4, by simpa using hroom, hwA, fun k x hk => ?_⟩
        rw [laid_get _ news.toList 0 vs _ (by simp; omega)]
        simp only [Nat.add_zero, Array.length_toList, Array.getElem?_toList, hsz]
        rw [List.flatten_append] at hk
        have rv : ∀ {x v}, Rv X.Fz X.D w x v → Rv X'.Fz X'.D w' x v := fun h => h.mono (fun b h => by rw [hF]; exact h) (fun i b h => by rw [hD]; exact h) hw
        by_cases hlt : k < l.flatten.length
        · rw [List.getElem?_append_left hlt] at hk
          obtain ⟨v, g1, g2⟩ := k7 k x hk
          rw [if_neg (by omega)]
          exact ⟨v, g1, rv g2⟩
        · rw [List.getElem?_append_right (by omega)] at hk
          have hlt2 := (List.getElem?_eq_some_iff.1 hk).1
          have hlt3 : k - l.flatten.length < news.size := by rw [← n2.1]; exact hlt2
          rw [if_pos (by omega), show off + k - (off + l.length * d.size) = k - l.flatten.length from by omega]
          exact ⟨_, Array.getElem?_eq_getElem hlt3, rv (n2.2 _ x _ hk (Array.getElem?_eq_getElem hlt3))⟩
  · obtain ⟨news, n1, n2⟩ := run_firstCells (P := P) hsrc' hw2
    obtain ⟨olds, o1, o2⟩ := run_firstCells (P := P) hbW' hw1
    obtain ⟨zv, z1, z2⟩ := zero_ok hΔ hd hk hf X.Fz X.D w.drew
    have hzs : zv.cells.size = d.size := by rw [← z2.1, hz]
    obtain ⟨nc, hnc, hr⟩ := append_grow (ty := ty) (A := Ab) (n := l.length) (cap := capb) (m := m.length) (As := As) (caps := caps) h1 h2 hs i1 (.inr trivial) hroom hlen
      (growslice_fits (by omega) (by rw [i3]; exact hbytes)) o1 n1 z1
    refine ⟨.slice (some ⟨w.heap.size, 0, none⟩) (l.length + m.length) nc, _, some w.heap.size, hr, rfl, rfl, rfl, by simp, fun k hk _ => (heap_alloc _ _ k (by simpa using hk)).trans rfl, .inr (.inr rfl), fun k hk => by cases hk; simp, fun X' p hO hF hD hw => ?_⟩
    have hfl := flatten_len hw1
    have := own_new (X := X') (w := w.drew) (w' := w.drew.alloc (.cells (olds ++ news ++ Builtin.zeroCells zv.cells (nc - (l.length + m.length))) e)) (p := p) (l := l ++ m) (c := d.size) (cap := nc) (us := olds ++ news) (rest := Builtin.zeroCells zv.cells (nc - (l.length + m.length))) (T := e)
      (by
        rw [hF, hD, List.flatten_append]
        refine ⟨by rw [List.length_append, Array.size_append, o2.1, n2.1], fun j x v hx hv => ?_⟩
        by_cases hlt : j < l.flatten.length
        · rw [List.getElem?_append_left hlt] at hx
          rw [Array.getElem?_append_left (by rw [← o2.1]; exact hlt)] at hv
          exact o2.2 j x v hx hv
        · rw [List.getElem?_append_right (by omega)] at hx
          rw [Array.getElem?_append_right (by rw [← o2.1]; omega), ← o2.1] at hv
          exact n2.2 _ x v hx hv) hwA (by simpa using hnc) (by
        rw [Array.size_append, ← o2.1, ← n2.1, hfl, hnl]
        simp only [Builtin.zeroCells, Array.size_map, Array.size_range, hzs]
        rw [← Nat.add_mul, ← Nat.add_mul]
        congr 1; omega) (b := w.heap.size) (heap_alloc_new w.drew _) (hO _ rfl) (fun k hk => by rw [hF] at hk; exact hw k hk)
    simpa using this
end
end Go.AL
end
section
set_option linter.unusedVariables false
set_option linter.unusedSimpArgs false
set_option linter.unusedSectionVars false
namespace Go.AL

def apOk (d : TD) (l m : List (List AV)) : Prop :=
  d.zero.length = d.size ∧ (match d.k with | .tup | .fn => False | _ => True) ∧ 0 < d.bytes ∧ (∀ es ∈ m, es.length = d.size) ∧ m.flatten.all AV.leaf = true ∧ (l.length + m.length) * d.bytes ≤ 140737488355328

def wappend (Δ : Tab) (qt : Bool) (S : St) (dst : Option Nat) (t1 t2 : Nat) (b s : Operand) (K : St → Prop) : Prop :=
  match lk Δ t1, lk Δ t2, dst with
  | some ⟨.slice e, _, _, _⟩, some ⟨.slice _, _, _, _⟩, some t => match lk Δ e, S.val s with
    | some d, some vs => match S.slOf vs with
      | some m => match b, S.val b with
        | _, some .emp => apOk d [] m ∧ K (S.put t (.own d.size m))
        | .tmp u, some (.own c l) => c = d.size ∧ apOk d l m ∧ K ((S.take (.t u)).put t (.own d.size (l ++ m)))
        | _, some (.view q) => match S.ownAt q with
          | some (c, l) => (qt && anyG q) = false ∧ c = d.size ∧ apOk d l m ∧ K ((S.take q).put t (.own d.size (l ++ m)))
          | none => False
        | _, some (.sub q c lo hi) => match S.ownAt q with
          | some (c', l) => (qt && anyG q) = false ∧ c = d.size ∧ c' = c ∧ apOk d ((l.take hi).drop lo) m ∧ K ((S.take q).put t (.own d.size ((l.take hi).drop lo ++ m)))
          | none => False
        | _, _ => False
      | none => False
    | _, _ => False
  | _, _, _ => False

theorem free_none {X : Ctx} {S : St} {b : Nat} {w : World} {a : Act} (h : RX X S a w) (hb : w.heap.size ≤ b) : free X S b := by
  constructor
  · intro hz; have := h.inh b (.inl hz); omega
  · refine .inl ?_
    cases ho : X.O b with
    | none => rfl
    | some p => have := h.inh b (.inr (by rw [ho]; simp)); omega

theorem append_put {X : Ctx} {S : St} {a : Act} {w w' : World} (h : RX X S a w) {qt : Bool} {b? bn : Option Nat} {t c : Nat} {l : List (List AV)} {u' : Value} (ht : t < a.tmps.size)
    (hb : ∀ b, b? = some b → free X S b ∧ b < w.heap.size ∧ ((∃ q, X.O b = some (.row q) ∧ (qt && anyG q) = false)))
    (h1 : w'.os = w.os) (h2 : w'.tape = w.tape) (h3 : w'.output = w.output) (h4 : w.heap.size ≤ w'.heap.size) (h5 : ∀ k, k < w.heap.size → some k ≠ b? → w'.heap[k]? = w.heap[k]?)
    (h6 : bn = none ∨ bn = b? ∨ bn = some w.heap.size) (h7 : ∀ k, bn = some k → k < w'.heap.size)
    (h8 : ∀ (X' : Ctx) (p : Pl), (∀ k, bn = some k → X'.O k = some (.row p)) → X'.Fz = X.Fz → X'.D = X.D → (∀ k, X.Fz k → w'.heap[k]? = w.heap[k]?) → OwnV X' w' p c l u') :
    ∃ X', RX X' (S.put t (.own c l)) (a.put (some t) u') w' ∧ Fs qt X w X' w' := by
  have hfz : ∀ k, X.Fz k → w'.heap[k]? = w.heap[k]? := fun k hk => h5 k (h.inh k (.inl hk)) (fun e => (hb k e.symm).1.1 hk)
  -- first: whatever stood in b? is forgotten
  have step1 : ∃ X1, RX X1 S a w' ∧ X1.Fz = X.Fz ∧ X1.D = X.D ∧ X1.L = X.L ∧ (∀ k, some k ≠ b? → X1.O k = X.O k) ∧ (∀ k, some k = b? → X1.O k = none) := by
    cases b? with
    | none => exact ⟨X, h.world h4 (fun k hk => h5 k (h.inh k hk) (by simp)), rfl, rfl, rfl, fun _ _ => rfl, fun k e => by cases e⟩
    | some b =>
      obtain ⟨g1, g2, _⟩ := hb b rfl
      refine ⟨X.setO b none, h.world' g1 h4 (fun k hk hlt => h5 k hlt (fun e => hk (by cases e; rfl))) (fun e => absurd rfl e), rfl, rfl, rfl, fun k hk => setO_ne _ _ (fun e => hk (by rw [e])), fun k e => by cases e; exact setO_same _ _ _⟩
  obtain ⟨X1, r1, f1, d1, l1, o1, o2⟩ := step1
  have keep : ∀ (X2 : Ctx), X2.Fz = X.Fz → X2.D = X.D → X2.L = X.L → (∀ k, k < w.heap.size → some k ≠ b? → X2.O k = X.O k) → Fs qt X w X2 w' := by
    intro X2 e1 e2 e4 e3
    refine ⟨h1, h2, h3, h4, fun k hk hc => ?_, fun k g => by rw [e1]; exact g, fun i k g => by rw [e2]; exact g, fun g => by rw [e2]; exact g, fun _ _ => by rw [e4]⟩
    have hne : some k ≠ b? := by
      intro e
      obtain ⟨_, _, q, g3, g4⟩ := hb k e.symm
      rcases hc with hc | ⟨hc, hg⟩
      · rw [g3] at hc; cases hc
      · rw [g3] at hg
        rw [hc] at g4
        cases q <;> simp [gplace, anyG] at hg g4
    exact ⟨h5 k hk hne, e3 k hk hne, fun g => by rw [e1] at g; exact g⟩
  cases bn with
  | none =>
    refine ⟨X1, r1.put ht ?_, keep X1 f1 d1 l1 (fun k _ hk => o1 k hk)⟩
    exact h8 X1 (.t t) (fun k e => by cases e) f1 d1 hfz
  | some b =>
    have hfree : free X1 S b := by
      refine ⟨fun hz => ?_, .inl ?_⟩
      · rw [f1] at hz
        rcases h6 with e | e | e
        · cases e
        · exact (hb b e.symm).1.1 hz
        · cases e; have := h.inh _ (.inl hz); omega
      · rcases h6 with e | e | e
        · cases e
        · exact o2 b e
        · cases e
          by_cases e2 : some w.heap.size = b?
          · exact o2 _ e2
          · rw [o1 _ e2]
            cases ho : X.O w.heap.size with
            | none => rfl
            | some p => have := h.inh _ (.inr (by rw [ho]; simp)); omega
    have r2 := r1.setO hfree (p := some (.row (.t t))) (fun _ => h7 b rfl)
    refine ⟨X1.setO b (some (.row (.t t))), r2.put ht ?_, keep _ f1 d1 l1 (fun k hk hne => ?_)⟩
    · exact h8 (X1.setO b (some (.row (.t t)))) (.t t) (fun k e => by cases e; exact setO_same _ _ _) f1 d1 hfz
    · rw [setO_ne]
      · exact o1 k hne
      · intro e
        subst e
        rcases h6 with e | e | e
        · cases e
        · exact hne e
        · cases e; omega

section
variable {P : Program} {Δ : Tab} (hΔ : Tab.Ok P Δ)
include hΔ

theorem wappend_ok {X : Ctx} {S : St} {a : Act} {w : World} (h : RX X S a w) {qt : Bool} {dst : Option Nat} {t1 t2 ty : Nat} {b s : Operand} {K : St → Prop} (hd : ∀ t, dst = some t → t < a.tmps.size) (hq : wappend Δ qt S dst t1 t2 b s K) :
    ∃ S' X' w' u', K S' ∧ (Builtin.append_ #[t1, t2] ty #[a.eval b, a.eval s]).run P w = .ok u' w' ∧ RX X' S' (a.put dst u') w' ∧ Fs qt X w X' w' := by
  unfold wappend at hq
  split at hq
  · rename_i e sz by_ z e' sz' by_' z' t h1 h2
    have ht := hd t rfl
    split at hq
    · rename_i d vs hde hs
      split at hq
      · rename_i m hm
        have hsrc := slOf_slW h hs hm
        have go : ∀ (S1 : St) (l : List (List AV)) (b? : Option Nat), RX X S1 a w → apOk d l m → Base X w l d.size (a.eval b) b? → (∀ b, b? = some b → free X S1 b ∧ b < w.heap.size ∧ ((∃ q, X.O b = some (.row q) ∧ (qt && anyG q) = false))) → K (S1.put t (.own d.size (l ++ m))) →
            ∃ S' X' w' u', K S' ∧ (Builtin.append_ #[t1, t2] ty #[a.eval b, a.eval s]).run P w = .ok u' w' ∧ RX X' S' (a.put (some t) u') w' ∧ Fs qt X w X' w' := by
          intro S1 l b? hR1 hap hbase hfree hK
          obtain ⟨p1, p2, p3, p4, p5, p6⟩ := hap
          have hk : d.k ≠ .tup := fun e => by rw [e] at p2; exact p2
          have hf : d.k ≠ .fn := fun e => by rw [e] at p2; exact p2
          have hlen : l.length + m.length ≤ (l.length + m.length) * d.bytes := Nat.le_mul_of_pos_right _ p3
          obtain ⟨u', w', bn, g1, g2, g3, g4, g5, g6, g7, g8, g9⟩ := run_append hΔ (ty := ty) (elem_und hΔ h1) (elem_und hΔ h2) hde p1 hk hf hbase (fun b e => (hfree b e).1.1) p4 p5 hsrc p6 (by omega)
          obtain ⟨X', k1, k2⟩ := append_put hR1 (qt := qt) (t := t) (c := d.size) (l := l ++ m) ht hfree g2 g3 g4 g5 g6 g7 g8 g9
          exact ⟨_, X', w', u', hK, g1, k1, k2⟩
        -- the row of a place is given away
        have own : ∀ (q : Pl) (c : Nat) (l : List (List AV)) (u : Value), S.ownAt q = some (c, l) → OwnV X w q c l u → (qt && anyG q) = false → ∃ b?, Base X w l c u b? ∧ (∀ b, b? = some b → free X (S.take q) b ∧ b < w.heap.size ∧ ((∃ q, X.O b = some (.row q) ∧ (qt && anyG q) = false))) := by
          intro q c l u ho hv hqt
          rcases hv with ⟨rfl, A, rfl⟩ | ⟨b, off, cap, vs, T, k1, k2, k3, k4, k5, k6, k7⟩
          · exact ⟨none, .inl ⟨rfl, A, rfl⟩, fun b e => by cases e⟩
          · refine ⟨some b, .inr ⟨b, off, cap, vs, T, rfl, k1, k3, k4, k5, k6, k7⟩, fun b' e => ?_⟩
            cases e
            exact ⟨⟨fun hz => (by have := h.dis _ hz; rw [k2] at this; cases this), .inr ⟨q, k2, own_take⟩⟩, h.inh _ (.inr (by rw [k2]; simp)), q, k2, hqt⟩
        split at hq
        · rename_i hb
          obtain ⟨hap, hK⟩ := hq
          obtain ⟨A, e⟩ := (h.evd hb rfl).emp_inv
          exact go S [] none h hap (.inl ⟨rfl, A, e⟩) (fun b e => by cases e) hK
        · rename_i u c l hb
          obtain ⟨rfl, hap, hK⟩ := hq
          have ho : S.ownAt (.t u) = some (d.size, l) := by simp only [St.ownAt]; rw [show S.get u = some (.own d.size l) from hb]
          obtain ⟨b?, k1, k2⟩ := own (.t u) d.size l _ ho (h.evo hb) (by simp [anyG])
          exact go (S.take (.t u)) l b? (h.take (by rw [ho]; simp)) hap k1 k2 hK
        · rename_i q hb
          split at hq
          · rename_i c l ho
            obtain ⟨hqt, rfl, hap, hK⟩ := hq
            have hp := h.evc hb rfl (by rw [ho]; simp)
            obtain ⟨b?, k1, k2⟩ := own q d.size l _ ho (h.own ho) hqt
            exact go (S.take q) l b? (h.take (by rw [ho]; simp)) hap (by rw [hp]; exact k1) k2 hK
          · exact hq.elim
        · rename_i q c lo hi hb
          split at hq
          · rename_i c' l ho
            obtain ⟨hqt, rfl, rfl, hap, hK⟩ := hq
            obtain ⟨A, B, n, cap, e1, e2, e3, e4, e5, e6⟩ := h.evc hb rfl (by rw [ho]; simp)
            have hv := h.own ho
            have key : ∃ b?, Base X w ((l.take hi).drop lo) d.size (.slice B (hi - lo) (cap - lo)) b? ∧ (∀ b, b? = some b → free X (S.take q) b ∧ b < w.heap.size ∧ ((∃ q, X.O b = some (.row q) ∧ (qt && anyG q) = false))) := by
              by_cases hlo : lo < cap
              · rcases hv with ⟨rfl, A', k1⟩ | ⟨b, off, cap', vs, T, k1, k2, k3, k4, k5, k6, k7⟩
                · rw [e1] at k1; cases k1; omega
                · rw [e1] at k1; cases k1
                  have hm1 : (lo + (cap - lo)) * d.size = cap * d.size := by congr 1; omega
                  rw [Nat.add_mul] at hm1
                  refine ⟨some b, .inr ⟨b, off + lo * d.size, cap - lo, vs, T, rfl, ?_, k3, by omega, by simp; omega, fun cs hcs => k6 cs (List.mem_of_mem_take (List.mem_of_mem_drop hcs)), fun k x hk => ?_⟩, fun b' e => ?_⟩
                  · rw [e6 hlo]; simp [add_none]; omega
                  · obtain ⟨v, g1, g2⟩ := k7 _ x (flat_take_drop k6 hk)
                    exact ⟨v, by rw [show off + lo * d.size + k = off + (lo * d.size + k) from by omega]; exact g1, g2⟩
                  · cases e
                    exact ⟨⟨fun hz => (by have := h.dis _ hz; rw [k2] at this; cases this), .inr ⟨q, k2, own_take⟩⟩, h.inh _ (.inr (by rw [k2]; simp)), q, k2, hqt⟩
              · refine ⟨none, .inl ⟨List.drop_eq_nil_iff.2 (by simp; omega), B, by congr 1 <;> omega⟩, fun b e => by cases e⟩
            obtain ⟨b?, k1, k2⟩ := key
            exact go (S.take q) _ b? (h.take (by rw [ho]; simp)) hap (by rw [e2]; exact k1) k2 hK
          · exact hq.elim
        · exact hq.elim
      · exact hq.elim
    · exact hq.elim
  · exact hq.elim
end
end Go.AL
end
section
set_option linter.unusedVariables false
set_option linter.unusedSimpArgs false
set_option linter.unusedSectionVars false
namespace Go.AL

theorem RX.newLoc {X : Ctx} {S : St} {a : Act} {w : World} (h : RX X S a w) {t : Nat} {cs : List AV} {vs : Array Value} {T : TypeId} (hlen : cs.length ≤ vs.size)
    (hx : ∀ (j : Nat) (x : AV), cs[j]? = some x → ∀ (X' : Ctx) (w' : World) (p : Pl), X'.Fz = X.Fz → X'.D = X.D → (∀ b, X.Fz b → w'.heap[b]? = w.heap[b]?) → Rc X' w' p x (vs.getD j undef)) :
    RX { X with L := fun k => if k = t then w.heap.size else X.L k, O := fun b => if b = w.heap.size then some (.lobj t) else X.O b }
      { S with loc := up S.loc t cs, env := kl (AV.ofObj t) S.env } a (w.alloc (.cells vs T)) := by
  let X' : Ctx := { X with L := fun k => if k = t then w.heap.size else X.L k, O := fun b => if b = w.heap.size then some (.lobj t) else X.O b }
  have hO : ∀ {b p}, X.O b = some p → X'.O b = some p := by
    intro b p hb
    have : b ≠ w.heap.size := fun e => by have := h.inh b (.inr (by rw [hb]; simp)); omega
    simp [X', this, hb]
  have hw : ∀ b, b < w.heap.size → (w.alloc (.cells vs T)).heap[b]? = w.heap[b]? := fun b hb => heap_alloc _ _ _ hb
  have own : ∀ {p c l v}, OwnV X w p c l v → OwnV X' (w.alloc (.cells vs T)) p c l v := by
    intro p c l v hv
    have hv := hv.world (w' := w.alloc (.cells vs T)) (fun b hb => hw b (h.inh b (hb.imp id (fun e => by rw [e]; simp))))
    rcases hv with hv | ⟨b, off, cap, us, T', g1, g2, g3⟩
    · exact .inl hv
    · exact .inr ⟨b, off, cap, us, T', g1, hO g2, g3⟩
  have rv : ∀ {x v}, Rv X.Fz X.D w x v → Rv X'.Fz X'.D (w.alloc (.cells vs T)) x v := fun hx => hx.mono (fun _ h => h) (fun _ _ h => h) (fun b hb => hw b (h.inh b (.inl hb)))
  have rc : ∀ {p x v}, Rc X w p x v → Rc X' (w.alloc (.cells vs T)) p x v := by
    intro p x v hx
    cases x <;> first | exact own hx | exact trivial | exact rv hx
  have hlive : ∀ p, (∀ off, p ≠ .l t off) → (({ S with loc := up S.loc t cs, env := kl (AV.ofObj t) S.env } : St).ownAt p ≠ none) → S.ownAt p ≠ none ∧ hdr X' a (w.alloc (.cells vs T)) p = hdr X a w p := by
    intro p hp hl
    cases p with
    | t n =>
      obtain ⟨c, l, e⟩ := live_t hl
      exact ⟨by simp [St.ownAt, St.get, (lk_kl e).1], rfl⟩
    | l k off =>
      have hkt : k ≠ t := fun e => hp off (by rw [e])
      obtain ⟨cs0, c, l, e, e2⟩ := live_l hl
      simp only [lk_up, if_neg hkt] at e
      refine ⟨by simp [St.ownAt, e, e2], ?_⟩
      have g := (h.loc k cs0 e).1
      simp only [hdr, X', if_neg hkt]
      rw [cell?_of_heap (hw _ (h.inh _ (.inr (by rw [g]; simp))))]
    | g k off =>
      have hl' : S.ownAt (.g k off) ≠ none := hl
      refine ⟨hl', ?_⟩
      obtain ⟨cs0, c, l, e, e2⟩ := live_g hl'
      obtain ⟨b, g1, g2, _⟩ := h.gob k cs0 e
      simp only [hdr, X', g1]
      rw [cell?_of_heap (hw _ (h.inh _ (.inr (by rw [g2]; simp))))]
    | res => exact absurd rfl hl
  show RX X' _ a _
  refine ⟨fun u x hx => ?_, fun k cs0 hk => ?_, fun k cs0 hk => ?_, fun b hb => ?_, fun b hb => ?_⟩
  · obtain ⟨e1, e2⟩ := lk_kl hx
    obtain ⟨g1, g2⟩ := h.env u x e1
    refine ⟨g1, ?_⟩
    revert g2
    generalize a.tmps.getD u undef = v
    intro g2
    have nr : ∀ q, x.refs q = true → ∀ off, q ≠ .l t off := by
      intro q hq off e
      subst e
      cases x <;> simp [AV.refs] at hq <;> (subst hq; simp [AV.ofObj] at e2)
    cases x with
    | own c l => exact own g2
    | view p => intro hp; obtain ⟨k1, k2⟩ := hlive p (nr p (by simp [AV.refs])) hp; rw [k2]; exact g2 k1
    | sub p c lo hi => intro hp; obtain ⟨k1, k2⟩ := hlive p (nr p (by simp [AV.refs])) hp; rw [k2]; exact g2 k1
    | eptr p c i off => intro hp; obtain ⟨k1, k2⟩ := hlive p (nr p (by simp [AV.refs])) hp; rw [k2]; exact g2 k1
    | iter s pos => obtain ⟨b', k1, k2, k3⟩ := g2; exact ⟨b', k1, hO k2, (hw _ (h.inh _ (.inr (by rw [k2]; simp)))).trans k3⟩
    | lptr k off =>
      have hkt : k ≠ t := fun e => by simp [AV.ofObj, e] at e2
      show v = _
      simp only [X', if_neg hkt]; exact g2
    | junk => trivial
    | _ => exact rv g2
  · simp only [lk_up] at hk
    by_cases e : k = t
    · rw [if_pos e] at hk
      cases hk
      subst e
      simp only [X', if_true]
      refine ⟨by simp, vs, T, heap_alloc_new _ _, hlen, fun j x hj => hx j x hj _ _ _ rfl rfl (fun b hb => hw b (h.inh b (.inl hb)))⟩
    · rw [if_neg e] at hk
      obtain ⟨g1, us, T', g2, g3, g4⟩ := h.loc k cs0 hk
      have hlt := h.inh _ (.inr (by rw [g1]; simp))
      have hL : X'.L k = X.L k := by simp [X', e]
      rw [hL]
      exact ⟨hO g1, us, T', (hw _ hlt).trans g2, g3, fun j x hj => rc (g4 j x hj)⟩
  · obtain ⟨b, g0, g1, us, T', g2, g3, g4⟩ := h.gob k cs0 hk
    exact ⟨b, g0, hO g1, us, T', (hw _ (h.inh _ (.inr (by rw [g1]; simp)))).trans g2, g3, fun j x hj => rc (g4 j x hj)⟩
  · have hlt := h.inh b (.inl hb)
    simp only [X', if_neg (show b ≠ w.heap.size from by omega)]
    exact h.dis b hb
  · by_cases e : b = w.heap.size
    · subst e; simp
    · simp only [X', if_neg e] at hb
      have := h.inh b hb
      simp; omega

theorem RX.newG {X : Ctx} {S : St} {a : Act} {w : World} (h : RX X S a w) {id : Nat} (hid : X.D id = none) {cs : List AV} {vs : Array Value} {T : TypeId} (hlen : cs.length ≤ vs.size)
    (hx : ∀ (j : Nat) (x : AV), cs[j]? = some x → ∀ (X' : Ctx) (w' : World) (p : Pl), X'.Fz = X.Fz → (∀ i b, X.D i = some b → X'.D i = some b) → (∀ b, X.Fz b → w'.heap[b]? = w.heap[b]?) → Rc X' w' p x (vs.getD j undef)) :
    RX { X with D := fun k => if k = id then some w.heap.size else X.D k, O := fun b => if b = w.heap.size then some (.gobj id) else X.O b }
      { S with G := S.G.set id cs, env := kl (AV.at_ (inG id)) S.env } a (w.alloc (.cells vs T)) := by
  let X' : Ctx := { X with D := fun k => if k = id then some w.heap.size else X.D k, O := fun b => if b = w.heap.size then some (.gobj id) else X.O b }
  have hD : ∀ {i b}, X.D i = some b → X'.D i = some b := by
    intro i b hb
    have : i ≠ id := fun e => by rw [e, hid] at hb; cases hb
    simp [X', this, hb]
  have hO : ∀ {b p}, X.O b = some p → X'.O b = some p := by
    intro b p hb
    have : b ≠ w.heap.size := fun e => by have := h.inh b (.inr (by rw [hb]; simp)); omega
    simp [X', this, hb]
  have hG : S.G id = none := by
    cases e : S.G id with
    | none => rfl
    | some cs0 => obtain ⟨b, g, _⟩ := h.gob id cs0 e; rw [hid] at g; cases g
  have hw : ∀ b, b < w.heap.size → (w.alloc (.cells vs T)).heap[b]? = w.heap[b]? := fun b hb => heap_alloc _ _ _ hb
  have rv : ∀ {x v}, Rv X.Fz X.D w x v → Rv X'.Fz X'.D (w.alloc (.cells vs T)) x v := fun hx => hx.mono (fun _ h => h) (fun _ _ h => hD h) (fun b hb => hw b (h.inh b (.inl hb)))
  have own : ∀ {p c l v}, OwnV X w p c l v → OwnV X' (w.alloc (.cells vs T)) p c l v := by
    intro p c l v hv
    rcases hv with hv | ⟨b, off, cap, us, T', g1, g2, g3, g4, g5, g6, g7⟩
    · exact .inl hv
    · refine .inr ⟨b, off, cap, us, T', g1, hO g2, (hw _ (h.inh _ (.inr (by rw [g2]; simp)))).trans g3, g4, g5, g6, fun k x hk => ?_⟩
      obtain ⟨v, k1, k2⟩ := g7 k x hk
      exact ⟨v, k1, rv k2⟩
  have rc : ∀ {p x v}, Rc X w p x v → Rc X' (w.alloc (.cells vs T)) p x v := by
    intro p x v hx
    cases x <;> first | exact own hx | exact trivial | exact rv hx
  have hlive : ∀ p, (({ S with G := S.G.set id cs, env := kl (AV.at_ (inG id)) S.env } : St).ownAt p ≠ none) → (∃ off, p = .g id off) ∨ (S.ownAt p ≠ none ∧ hdr X' a (w.alloc (.cells vs T)) p = hdr X a w p) := by
    intro p hl
    cases p with
    | t n =>
      obtain ⟨c, l, e⟩ := live_t hl
      exact .inr ⟨by simp [St.ownAt, St.get, (lk_kl e).1], rfl⟩
    | l k off =>
      have hl' : S.ownAt (.l k off) ≠ none := hl
      obtain ⟨cs0, c, l, e, e2⟩ := live_l hl'
      have g := (h.loc k cs0 e).1
      refine .inr ⟨hl', ?_⟩
      simp only [hdr]
      rw [cell?_of_heap (hw _ (h.inh _ (.inr (by rw [g]; simp))))]
    | g k off =>
      by_cases hkt : k = id
      · exact .inl ⟨off, by rw [hkt]⟩
      · obtain ⟨cs0, c, l, e, e2⟩ := live_g hl
        simp only [Objs.set_eq, if_neg hkt] at e
        obtain ⟨b, g1, g2, _⟩ := h.gob k cs0 e
        refine .inr ⟨by simp [St.ownAt, e, e2], ?_⟩
        simp only [hdr, hD g1, g1]
        rw [cell?_of_heap (hw _ (h.inh _ (.inr (by rw [g2]; simp))))]
    | res => exact absurd rfl hl
  show RX X' _ a _
  refine ⟨fun u x hx => ?_, fun k cs0 hk => ?_, fun k cs0 hk => ?_, fun b hb => ?_, fun b hb => ?_⟩
  · obtain ⟨e1, e2⟩ := lk_kl hx
    obtain ⟨g1, g2⟩ := h.env u x e1
    refine ⟨g1, ?_⟩
    revert g2
    generalize a.tmps.getD u undef = v
    intro g2
    have key : ∀ p, x.refs p = true → (({ S with G := S.G.set id cs, env := kl (AV.at_ (inG id)) S.env } : St).ownAt p ≠ none) → S.ownAt p ≠ none ∧ hdr X' a (w.alloc (.cells vs T)) p = hdr X a w p := by
      intro p hp hl
      rcases hlive p hl with ⟨off, rfl⟩ | h2
      · have := at_refs e2 hp; simp [inG] at this
      · exact h2
    cases x with
    | own c l => exact own g2
    | view p => intro hp; obtain ⟨k1, k2⟩ := key p (by simp [AV.refs]) hp; rw [k2]; exact g2 k1
    | sub p c lo hi => intro hp; obtain ⟨k1, k2⟩ := key p (by simp [AV.refs]) hp; rw [k2]; exact g2 k1
    | eptr p c i off => intro hp; obtain ⟨k1, k2⟩ := key p (by simp [AV.refs]) hp; rw [k2]; exact g2 k1
    | iter s pos => obtain ⟨b', k1, k2, k3⟩ := g2; exact ⟨b', k1, hO k2, (hw _ (h.inh _ (.inr (by rw [k2]; simp)))).trans k3⟩
    | lptr k off => exact g2
    | junk => trivial
    | _ => exact rv g2
  · obtain ⟨g1, us, T', g2, g3, g4⟩ := h.loc k cs0 hk
    exact ⟨hO g1, us, T', (hw _ (h.inh _ (.inr (by rw [g1]; simp)))).trans g2, g3, fun j x hj => rc (g4 j x hj)⟩
  · simp only [Objs.set_eq] at hk
    by_cases e : k = id
    · rw [if_pos e] at hk
      cases hk
      subst e
      refine ⟨w.heap.size, by simp [X'], by simp [X'], vs, T, heap_alloc_new _ _, hlen, fun j x hj => hx j x hj _ _ _ rfl (fun _ _ h => hD h) (fun b hb => hw b (h.inh b (.inl hb)))⟩
    · rw [if_neg e] at hk
      obtain ⟨b, g0, g1, us, T', g2, g3, g4⟩ := h.gob k cs0 hk
      exact ⟨b, hD g0, hO g1, us, T', (hw _ (h.inh _ (.inr (by rw [g1]; simp)))).trans g2, g3, fun j x hj => rc (g4 j x hj)⟩
  · have hlt := h.inh b (.inl hb)
    simp only [X', if_neg (show b ≠ w.heap.size from by omega)]
    exact h.dis b hb
  · by_cases e : b = w.heap.size
    · subst e; simp
    · simp only [X', if_neg e] at hb
      have := h.inh b hb
      simp; omega

theorem RX.newOwn {X : Ctx} {S : St} {a : Act} {w : World} (h : RX X S a w) {t : Nat} {o : Obj} {p : Pw} {x : AV} {v : Value} (ht : t < a.tmps.size)
    (hx : ∀ X' : Ctx, X'.Fz = X.Fz → X'.D = X.D → X'.O w.heap.size = some p → Rp X' (S.put t x) (a.put (some t) v) (w.alloc o) (.t t) x v) (qt : Bool) :
    ∃ X', RX X' (S.put t x) (a.put (some t) v) (w.alloc o) ∧ Fs qt X w X' (w.alloc o) := by
  have h1 := h.world (w' := w.alloc o) (by simp) (fun b hb => heap_alloc _ _ _ (h.inh b hb))
  have h2 := h1.setO (b := w.heap.size) (p := some p) (by
    have := free_none h (Nat.le_refl w.heap.size); exact this) (fun _ => by simp)
  refine ⟨X.setO w.heap.size (some p), h2.put ht (hx _ rfl rfl (setO_same _ _ _)), ?_⟩
  exact ⟨rfl, rfl, rfl, by simp, fun b hb _ => ⟨heap_alloc _ _ _ hb, setO_ne _ _ (by omega), fun h => h⟩, fun _ h => h, fun _ _ h => h, fun h => h, fun _ _ => rfl⟩
theorem Fs.alloc {qt : Bool} {X X' : Ctx} {w : World} {o : Obj} (hF : X'.Fz = X.Fz) (hO : ∀ b, b < w.heap.size → X'.O b = X.O b) (hD : ∀ i b, X.D i = some b → X'.D i = some b) (hfin : (∃ M, ∀ i, M ≤ i → X.D i = none) → ∃ M, ∀ i, M ≤ i → X'.D i = none) : ∀ (hL : ∀ k, 1000000 ≤ k → X'.L k = X.L k), Fs qt X w X' (w.alloc o) := fun hL =>
  ⟨rfl, rfl, rfl, by simp, fun b hb _ => ⟨heap_alloc _ _ _ hb, hO b hb, fun h => by rw [hF] at h; exact h⟩, fun b h => by rw [hF]; exact h, hD, hfin, hL⟩
end Go.AL
end
section
set_option linter.unusedVariables false
set_option linter.unusedSimpArgs false
set_option linter.unusedSectionVars false
namespace Go.AL

def cellW (Δ : Tab) (d : TD) (j : Nat) : Option Nat :=
  match d.k with
  | .slice e => match lk Δ e with | some de => some de.size | none => none
  | .struct fs => match lk fs j with
    | some ft => match lk Δ ft with
      | some ⟨.slice e, _, _, _⟩ => match lk Δ e with | some de => some de.size | none => none
      | _ => none
    | none => none
  | _ => none
def ownCells (Δ : Tab) (d : TD) : Nat → List AV → List AV
  | _, [] => []
  | j, x :: xs => (match x, cellW Δ d j with | .emp, some c => .own c [] | _, _ => x) :: ownCells Δ d (j + 1) xs

theorem ownCells_length {Δ : Tab} {d : TD} : ∀ (j : Nat) (xs : List AV), (ownCells Δ d j xs).length = xs.length
  | _, [] => rfl
  | j, x :: xs => by simp [ownCells, ownCells_length (j + 1) xs]
theorem ownCells_get {Δ : Tab} {d : TD} : ∀ (n : Nat) (xs : List AV) (j : Nat) (y : AV), (ownCells Δ d n xs)[j]? = some y → ∃ x, xs[j]? = some x ∧ (y = x ∨ (x = .emp ∧ ∃ c, y = .own c []))
  | n, [], j, y, h => by simp [ownCells] at h
  | n, x :: xs, j, y, h => by
    cases j with
    | zero =>
      simp only [ownCells, List.getElem?_cons_zero, Option.some.injEq] at h
      refine ⟨x, rfl, ?_⟩
      subst h
      split
      · exact .inr ⟨rfl, _, rfl⟩
      · exact .inl rfl
    | succ j =>
      simp only [ownCells, List.getElem?_cons_succ] at h
      obtain ⟨x', h1, h2⟩ := ownCells_get (n + 1) xs j y h
      exact ⟨x', by simpa using h1, h2⟩

theorem ownCells_rc {Δ : Tab} {d : TD} {xs : List AV} {us : Array Value} {X : Ctx} {w : World} (h : CellsR X.Fz X.D w xs us) : ∀ (j : Nat) (x : AV), (ownCells Δ d 0 xs)[j]? = some x →
    ∀ (X' : Ctx) (w' : World) (p : Pl), X'.Fz = X.Fz → (∀ i b, X.D i = some b → X'.D i = some b) → (∀ b, X.Fz b → w'.heap[b]? = w.heap[b]?) → Rc X' w' p x (us.getD j undef) := by
  intro j y hy X' w' p hF hD hw
  obtain ⟨x, hx, hor⟩ := ownCells_get 0 xs j y hy
  have hlt := (List.getElem?_eq_some_iff.1 hx).1
  have hu : us[j]? = some (us[j]'(by rw [← h.1]; exact hlt)) := Array.getElem?_eq_getElem _
  have hv := (h.2 j x _ hx hu).mono (Fz' := X'.Fz) (D' := X'.D) (w' := w') (fun b hb => by rw [hF]; exact hb) hD hw
  rw [Array.getD_eq_getD_getElem?, hu]
  rcases hor with rfl | ⟨rfl, c, rfl⟩
  · have hd := hv.isDeep
    revert hv
    cases y <;> first | exact id | cases hd
  · obtain ⟨A, e⟩ := hv.emp_inv
    exact .inl ⟨rfl, A, e⟩

def wnew (gs : Nat → Bool) (S : St) (dst : Option Nat) (cs : List AV) (K : St → Prop) : Prop :=
  match dst with
  | some t => bif gs t then ∀ id, S.G id = none → K (St.put { S with G := S.G.set id cs, env := kl (AV.at_ (inG id)) S.env } t (.ptr id 0))
    else bif Nat.blt t 1000000 then K (St.put { S with loc := up S.loc t cs, env := kl (AV.ofObj t) S.env } t (.lptr t 0)) else False
  | none => False

def walloc (Δ : Tab) (gs : Nat → Bool) (S : St) (dst : Option Nat) (t : Nat) (K : St → Prop) : Prop :=
  match lk Δ t with
  | some d => (match d.k with | .tup | .fn => False | _ => True) ∧ wnew gs S dst (ownCells Δ d 0 d.zero) K
  | none => False
def wbox (Δ : Tab) (gs : Nat → Bool) (S : St) (dst : Option Nat) (t : Nat) (x : Operand) (K : St → Prop) : Prop :=
  match lk Δ t, S.val x with
  | some d, some v => v.isDeep = true ∧ wnew gs S dst (ownCells Δ d 0 v.cells) K
  | _, _ => False

theorem wnew_ok {X : Ctx} {S : St} {a : Act} {w : World} (h : RX X S a w) (hfin : ∃ M, ∀ i, M ≤ i → X.D i = none) {gs : Nat → Bool} {dst : Option Nat} {Δ : Tab} {d : TD} {xs : List AV} {us : Array Value} {T : TypeId} {K : St → Prop} {qt : Bool}
    (hc : CellsR X.Fz X.D w xs us) (hd : ∀ t, dst = some t → t < a.tmps.size) (hq : wnew gs S dst (ownCells Δ d 0 xs) K) :
    ∃ S' X', K S' ∧ RX X' S' (a.put dst (.pointer (some ⟨w.heap.size, 0, none⟩))) (w.alloc (.cells us T)) ∧ Fs qt X w X' (w.alloc (.cells us T)) := by
  unfold wnew at hq
  split at hq
  · rename_i t
    have ht := hd t rfl
    cases hg : gs t
    · rw [hg] at hq
      cases h1M : Nat.blt t 1000000 with
      | false => rw [h1M] at hq; exact hq.elim
      | true =>
      rw [h1M] at hq
      have htM : t < 1000000 := by simpa [Nat.blt_eq] using h1M
      have h1 := h.newLoc (t := t) (cs := ownCells Δ d 0 xs) (vs := us) (T := T) (by rw [ownCells_length, hc.1]; exact Nat.le_refl _) (fun j x hj X' w' p e1 e2 e3 => ownCells_rc hc j x hj X' w' p e1 (fun i b h => by rw [e2]; exact h) e3)
      have h2 := h1.put (t := t) (x := .lptr t 0) (v := .pointer (some ⟨w.heap.size, 0, none⟩)) ht (by show _ = _; simp)
      exact ⟨_, _, hq, h2, Fs.alloc rfl (fun b hb => by simp [Nat.ne_of_lt hb]) (fun _ _ h => h) (fun h => h) (fun k hk => if_neg (by omega))⟩
    · rw [hg] at hq
      obtain ⟨M, hM⟩ := hfin
      have hid : X.D M = none := hM M (Nat.le_refl _)
      have hG : S.G M = none := by
        cases e : S.G M with
        | none => rfl
        | some cs0 => obtain ⟨b, g, _⟩ := h.gob M cs0 e; rw [hid] at g; cases g
      have h1 := h.newG hid (cs := ownCells Δ d 0 xs) (vs := us) (T := T) (by rw [ownCells_length, hc.1]; exact Nat.le_refl _) (fun j x hj X' w' p e1 e2 e3 => ownCells_rc hc j x hj X' w' p e1 e2 e3)
      have h2 := h1.put (t := t) (x := .ptr M 0) (v := .pointer (some ⟨w.heap.size, 0, none⟩)) ht (.ptr M 0 _ (by simp))
      refine ⟨_, _, hq M hG, h2, Fs.alloc rfl (fun b hb => by simp [Nat.ne_of_lt hb]) (fun i b hi => ?_) (fun _ => ⟨M + 1, fun i hi => ?_⟩) (fun _ _ => rfl)⟩
      · have : i ≠ M := fun e => by rw [e, hid] at hi; cases hi
        simp [this, hi]
      · have : i ≠ M := by omega
        simp only [if_neg this]
        exact hM i (by omega)
  · exact hq.elim

section
variable {P : Program} {Δ : Tab} (hΔ : Tab.Ok P Δ)
include hΔ
theorem walloc_ok {X : Ctx} {S : St} {a : Act} {w : World} (h : RX X S a w) (hfin : ∃ M, ∀ i, M ≤ i → X.D i = none) {gs : Nat → Bool} {dst : Option Nat} {t : Nat} {K : St → Prop} {qt : Bool} (hd : ∀ t, dst = some t → t < a.tmps.size) (hq : walloc Δ gs S dst t K) :
    ∃ S' X' w' u, K S' ∧ (Instr.alloc t true (.tuple #[])).run P w = .ok u w' ∧ RX X' S' (a.put dst u) w' ∧ Fs qt X w X' w' := by
  unfold walloc at hq
  split at hq
  · rename_i d hl
    obtain ⟨h2, hq⟩ := hq
    have hk : d.k ≠ .tup := fun e => by rw [e] at h2; exact h2
    have hf : d.k ≠ .fn := fun e => by rw [e] at h2; exact h2
    obtain ⟨zv, z1, z2⟩ := zero_ok hΔ hl hk hf X.Fz X.D w
    obtain ⟨S', X', g1, g2, g3⟩ := wnew_ok h hfin (T := t) (qt := qt) z2 hd hq
    exact ⟨S', X', _, _, g1, by simp only [Instr.alloc, Sem.run_bind, z1, Result.andThen_ok, newVar, newRow, run_newObj, Sem.run_pure]; rfl, g2, g3⟩
  · exact hq.elim
theorem wbox_ok {X : Ctx} {S : St} {a : Act} {w : World} (h : RX X S a w) (hfin : ∃ M, ∀ i, M ≤ i → X.D i = none) {gs : Nat → Bool} {dst : Option Nat} {t : Nat} {x : Operand} {K : St → Prop} {qt : Bool} (hd : ∀ t, dst = some t → t < a.tmps.size) (hq : wbox Δ gs S dst t x K) :
    ∃ S' X' w' u, K S' ∧ (Instr.box t (a.eval x)).run P w = .ok u w' ∧ RX X' S' (a.put dst u) w' ∧ Fs qt X w X' w' := by
  unfold wbox at hq
  split at hq
  · rename_i d v hl hv
    obtain ⟨h2, hq⟩ := hq
    obtain ⟨S', X', g1, g2, g3⟩ := wnew_ok h hfin (T := t) (qt := qt) (h.evd hv h2).cellsR hd hq
    exact ⟨S', X', _, _, g1, by simp only [Instr.box, Sem.run_bind, newVar, newRow, run_newObj, Result.andThen_ok, Sem.run_pure]; rfl, g2, g3⟩
  · exact hq.elim

def wmake (Δ : Tab) (S : St) (dst : Option Nat) (t : Nat) (ln cp : Operand) (K : St → Prop) : Prop :=
  match lk Δ t, dst, S.val ln, S.val cp with
  | some ⟨.slice e, _, _, _⟩, some u, some (.int .i64 n), some (.int .i64 c) => match lk Δ e with
    | some d => (match d.k with | .tup | .fn => False | _ => True) ∧ d.zero.length = d.size ∧ d.zero.all AV.isDeep = true ∧ 0 ≤ n ∧ n ≤ c ∧ c * d.bytes ≤ 281474976710656 ∧ c ≤ 281474976710656 ∧ K (S.put u (.own d.size (List.replicate n.toNat d.zero)))
    | none => False
  | _, _, _, _ => False

omit hΔ in
theorem replicate_flatten_get {z : List AV} {n k : Nat} {x : AV} (h : (List.replicate n z).flatten[k]? = some x) : k < n * z.length ∧ z[k % z.length]? = some x := by
  have hw : ∀ es ∈ List.replicate n z, es.length = z.length := fun es hes => by rw [(List.mem_replicate.1 hes).2]
  obtain ⟨i, j, cs, rfl, h2, h3, h4⟩ := flatten_inv hw h
  have hlt := (List.getElem?_eq_some_iff.1 h3).1
  rw [List.length_replicate] at hlt
  have hcs : cs = z := (List.mem_replicate.1 (List.mem_of_getElem? h3)).2
  subst hcs
  have : (i + 1) * cs.length ≤ n * cs.length := Nat.mul_le_mul_right _ hlt
  rw [Nat.succ_mul] at this
  refine ⟨by omega, ?_⟩
  rw [Nat.mul_comm, Nat.mul_add_mod, Nat.mod_eq_of_lt h2]
  exact h4

theorem wmake_ok {X : Ctx} {S : St} {a : Act} {w : World} (h : RX X S a w) {dst : Option Nat} {t : Nat} {ln cp : Operand} {K : St → Prop} {qt : Bool} (hd : ∀ t, dst = some t → t < a.tmps.size) (hq : wmake Δ S dst t ln cp K) :
    ∃ S' X' w' u, K S' ∧ (Instr.makeSlice t (a.eval ln) (a.eval cp)).run P w = .ok u w' ∧ RX X' S' (a.put dst u) w' ∧ Fs qt X w X' w' := by
  unfold wmake at hq
  split at hq
  · rename_i e sz by_ z u n c h1 h2 h3
    split at hq
    · rename_i d hde
      obtain ⟨k1, k2, k3, k4, k5, k6, k7, hK⟩ := hq
      have hk : d.k ≠ .tup := fun e => by rw [e] at k1; exact k1
      have hf : d.k ≠ .fn := fun e => by rw [e] at k1; exact k1
      have ht := hd u rfl
      obtain ⟨zv, z1, z2⟩ := zero_ok hΔ hde hk hf X.Fz X.D w
      have hpos := size_pos hΔ hde
      have hzs : zv.cells.size = d.size := by rw [← z2.1, k2]
      have e1 := (h.evd h2 rfl).int_inv
      have e2 := (h.evd h3 rfl).int_inv
      obtain ⟨i, i1, i2, i3⟩ := info_ok hΔ hde
      have hwn : IntKind.i64.wrap n = n := IntWalk.i64_in _ (by omega)
      have hwc : IntKind.i64.wrap c = c := IntWalk.i64_in _ (by omega)
      have hrun : (Instr.makeSlice t (.int .i64 n) (.int .i64 c)).run P w = .ok (.slice (some ⟨w.heap.size, 0, none⟩) n.toNat c.toNat) (w.alloc (.cells ((Array.range (c.toNat * d.size)).map fun k => zv.cells[k % zv.cells.size]!) e)) := by
        have hty : (typeInfo e).run P w = .ok i w := by simp [typeInfo, i1]
        have hb : (i.bytes : Int) * c ≤ 281474976710656 := by rw [i3, Int.mul_comm]; exact k6
        have hc0 : ¬ (c < 0) := by omega
        have hlarge : ((decide (c < 0)) || decide ((i.bytes : Int) * c > 2 ^ 48)) = false := by
          simp only [Bool.or_eq_false_iff, decide_eq_false_iff_not]
          exact ⟨hc0, by omega⟩
        simp only [Instr.makeSlice, underlying, Sem.run_bind, run_program, Result.andThen_ok, elem_und hΔ h1, Sem.run_pure, asInt, asIntOf, hty, hwn, hwc, hlarge, Bool.false_or, Sem.run_ite]
        rw [if_neg (by simp; omega)]
        simp only [Sem.run_bind, run_askRoom, Result.andThen_ok, run_sizeOf hΔ hde, Sem.run_ite, newRow, run_newObj, Sem.run_pure]
        by_cases h0 : c.toNat * d.size = 0
        · rw [if_pos h0]
          simp only [Sem.run_pure, Result.andThen_ok, h0, show Array.range 0 = #[] from rfl, Array.map_empty]
          rfl
        · rw [if_neg h0]
          simp only [Sem.run_bind, z1, Result.andThen_ok, Sem.run_pure]
          rfl
      have hput := h.newOwn (t := u) (o := .cells ((Array.range (c.toNat * d.size)).map fun k => zv.cells[k % zv.cells.size]!) e) (p := .row (.t u)) (x := .own d.size (List.replicate n.toNat d.zero)) (v := .slice (some ⟨w.heap.size, 0, none⟩) n.toNat c.toNat) ht (fun X' f1 f2 f3 => by
        refine .inr ⟨w.heap.size, 0, c.toNat, _, e, by rw [List.length_replicate], f3, heap_alloc_new _ _, by simp, by rw [List.length_replicate]; omega, fun es hes => by rw [(List.mem_replicate.1 hes).2, k2], fun k x hk => ?_⟩
        obtain ⟨g1, g2⟩ := replicate_flatten_get hk
        rw [k2] at g1 g2
        have hkc : k < c.toNat * d.size := Nat.lt_of_lt_of_le g1 (Nat.mul_le_mul_right _ (by omega))
        have hm : k % d.size < zv.cells.size := by rw [hzs]; exact Nat.mod_lt _ hpos
        refine ⟨zv.cells[k % d.size], ?_, (z2.2 _ x _ g2 (Array.getElem?_eq_getElem hm)).mono (fun b hb => by rw [f1]; exact hb) (fun i b hb => by rw [f2]; exact hb) (fun b hb => heap_alloc _ _ _ (h.inh b (.inl hb)))⟩
        simp only [Nat.zero_add, Array.getElem?_map, Array.getElem?_range, hkc, if_true, Option.map_some, hzs]
        rw [getElem!_pos zv.cells (k % d.size) hm]) qt
      obtain ⟨X', r1, r2⟩ := hput
      exact ⟨_, X', _, _, hK, by rw [e1, e2]; exact hrun, r1, r2⟩
    · exact hq.elim
  · exact hq.elim
end
end Go.AL
end
