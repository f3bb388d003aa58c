/- Our own text: a logic over abstract values for the model of Go (the part of it that the law LocateHits needs; in 3 texts, this is the one numbered 3). -/
import Derived.Test.YtiabffkfabmlpaaA1LocateHits
section
set_option linter.unusedVariables false
namespace Go.AL
variable {F : Cfg} {T : Task F} {k : List Frm} {e : Env} {l : Loc} {G : Objs}
inductive LI1 {T1 : Type} (E : T1 → Env) (L : T1 → Loc) (G : Objs) (Φ : Nat → T1 → Prop) : Nat → St → Prop
  | mk (m : Nat) (x1 : T1) (h : Φ m x1) : LI1 E L G Φ m ⟨E x1, L x1, G⟩
inductive LI2 {T1 T2 : Type} (E : T1 → T2 → Env) (L : T1 → T2 → Loc) (G : Objs) (Φ : Nat → T1 → T2 → Prop) : Nat → St → Prop
  | mk (m : Nat) (x1 : T1) (x2 : T2) (h : Φ m x1 x2) : LI2 E L G Φ m ⟨E x1 x2, L x1 x2, G⟩
theorem lp2 {T1 T2 : Type} (E : T1 → T2 → Env) (L : T1 → T2 → Loc) (Φ : Nat → T1 → T2 → Prop) {c : Code} {m : Nat} {a1 : T1} {a2 : T2} (h0 : Φ m a1 a2) (hr : ∀ (m : Nat) (x1 : T1) (x2 : T2), Φ m x1 x2 → E1 F T (.loop (LI2 E L G Φ) m :: k) c (E x1 x2) (L x1 x2) G)
    (he : leL e (E a1 a2) := by ((repeat refine And.intro rfl ?_); exact trivial)) (hl : leL l (L a1 a2) := by ((repeat refine And.intro rfl ?_); exact trivial)) : E1 F T k (.loop c) e l G := by
  refine ⟨fun hc X A w hr0 => ?_⟩
  refine wp_loop_ghost (fun m a w => ∃ S X, LI2 E L G Φ m S ∧ Rdy F T S X a w) m ⟨⟨E a1 a2, L a1 a2, G⟩, X, LI2.mk m a1 a2 h0, hr0.weaken (le_of he hl rfl)⟩ ?_
  rintro m A w ⟨S, X, hS, hR⟩
  cases hS with
  | mk x1 x2 h =>
    refine wp_mono ((hr m x1 x2 h).h (by simpa only [codeOk] using hc) X A w hR) ?_
    intro x A' w' hq
    cases x with
    | normal => obtain ⟨m', S, X, h1, h2, h3⟩ := hq; exact ⟨m', h1, S, X, h2, h3⟩
    | _ => exact hq
theorem ag2 {T1 T2 : Type} {E : T1 → T2 → Env} {L : T1 → T2 → Loc} {Φ : Nat → T1 → T2 → Prop} {k' : List Frm} {x : Exit} {m m' : Nat} {a1 : T1} {a2 : T2} (hn : nxt k x = (.loop (LI2 E L G Φ) m :: k', .normal)) (h : Φ m' a1 a2) (hm : m' < m := by omega)
    (he : leL e (E a1 a2) := by ((repeat refine And.intro rfl ?_); exact trivial)) (hl : leL l (L a1 a2) := by ((repeat refine And.intro rfl ?_); exact trivial)) : E2 F T k x e l G :=
  ⟨fun X A w hr => by rw [nxt_eq, hn]; exact ⟨m', ⟨E a1 a2, L a1 a2, G⟩, X, hm, LI2.mk m' a1 a2 h, hr.weaken (le_of he hl rfl)⟩⟩
inductive LI3 {T1 T2 T3 : Type} (E : T1 → T2 → T3 → Env) (L : T1 → T2 → T3 → Loc) (G : Objs) (Φ : Nat → T1 → T2 → T3 → Prop) : Nat → St → Prop
  | mk (m : Nat) (x1 : T1) (x2 : T2) (x3 : T3) (h : Φ m x1 x2 x3) : LI3 E L G Φ m ⟨E x1 x2 x3, L x1 x2 x3, G⟩
theorem lp3 {T1 T2 T3 : Type} (E : T1 → T2 → T3 → Env) (L : T1 → T2 → T3 → Loc) (Φ : Nat → T1 → T2 → T3 → Prop) {c : Code} {m : Nat} {a1 : T1} {a2 : T2} {a3 : T3} (h0 : Φ m a1 a2 a3) (hr : ∀ (m : Nat) (x1 : T1) (x2 : T2) (x3 : T3), Φ m x1 x2 x3 → E1 F T (.loop (LI3 E L G Φ) m :: k) c (E x1 x2 x3) (L x1 x2 x3) G)
    (he : leL e (E a1 a2 a3) := by ((repeat refine And.intro rfl ?_); exact trivial)) (hl : leL l (L a1 a2 a3) := by ((repeat refine And.intro rfl ?_); exact trivial)) : E1 F T k (.loop c) e l G := by
  refine ⟨fun hc X A w hr0 => ?_⟩
  refine wp_loop_ghost (fun m a w => ∃ S X, LI3 E L G Φ m S ∧ Rdy F T S X a w) m ⟨⟨E a1 a2 a3, L a1 a2 a3, G⟩, X, LI3.mk m a1 a2 a3 h0, hr0.weaken (le_of he hl rfl)⟩ ?_
  rintro m A w ⟨S, X, hS, hR⟩
  cases hS with
  | mk x1 x2 x3 h =>
    refine wp_mono ((hr m x1 x2 x3 h).h (by simpa only [codeOk] using hc) X A w hR) ?_
    intro x A' w' hq
    cases x with
    | normal => obtain ⟨m', S, X, h1, h2, h3⟩ := hq; exact ⟨m', h1, S, X, h2, h3⟩
    | _ => exact hq
theorem ag3 {T1 T2 T3 : Type} {E : T1 → T2 → T3 → Env} {L : T1 → T2 → T3 → Loc} {Φ : Nat → T1 → T2 → T3 → Prop} {k' : List Frm} {x : Exit} {m m' : Nat} {a1 : T1} {a2 : T2} {a3 : T3} (hn : nxt k x = (.loop (LI3 E L G Φ) m :: k', .normal)) (h : Φ m' a1 a2 a3) (hm : m' < m := by omega)
    (he : leL e (E a1 a2 a3) := by ((repeat refine And.intro rfl ?_); exact trivial)) (hl : leL l (L a1 a2 a3) := by ((repeat refine And.intro rfl ?_); exact trivial)) : E2 F T k x e l G :=
  ⟨fun X A w hr => by rw [nxt_eq, hn]; exact ⟨m', ⟨E a1 a2 a3, L a1 a2 a3, G⟩, X, hm, LI3.mk m' a1 a2 a3 h, hr.weaken (le_of he hl rfl)⟩⟩
inductive LI4 {T1 T2 T3 T4 : Type} (E : T1 → T2 → T3 → T4 → Env) (L : T1 → T2 → T3 → T4 → Loc) (G : Objs) (Φ : Nat → T1 → T2 → T3 → T4 → Prop) : Nat → St → Prop
  | mk (m : Nat) (x1 : T1) (x2 : T2) (x3 : T3) (x4 : T4) (h : Φ m x1 x2 x3 x4) : LI4 E L G Φ m ⟨E x1 x2 x3 x4, L x1 x2 x3 x4, G⟩
theorem lp4 {T1 T2 T3 T4 : Type} (E : T1 → T2 → T3 → T4 → Env) (L : T1 → T2 → T3 → T4 → Loc) (Φ : Nat → T1 → T2 → T3 → T4 → Prop) {c : Code} {m : Nat} {a1 : T1} {a2 : T2} {a3 : T3} {a4 : T4} (h0 : Φ m a1 a2 a3 a4) (hr : ∀ (m : Nat) (x1 : T1) (x2 : T2) (x3 : T3) (x4 : T4), Φ m x1 x2 x3 x4 → E1 F T (.loop (LI4 E L G Φ) m :: k) c (E x1 x2 x3 x4) (L x1 x2 x3 x4) G)
    (he : leL e (E a1 a2 a3 a4) := by ((repeat refine And.intro rfl ?_); exact trivial)) (hl : leL l (L a1 a2 a3 a4) := by ((repeat refine And.intro rfl ?_); exact trivial)) : E1 F T k (.loop c) e l G := by
  refine ⟨fun hc X A w hr0 => ?_⟩
  refine wp_loop_ghost (fun m a w => ∃ S X, LI4 E L G Φ m S ∧ Rdy F T S X a w) m ⟨⟨E a1 a2 a3 a4, L a1 a2 a3 a4, G⟩, X, LI4.mk m a1 a2 a3 a4 h0, hr0.weaken (le_of he hl rfl)⟩ ?_
  rintro m A w ⟨S, X, hS, hR⟩
  cases hS with
  | mk x1 x2 x3 x4 h =>
    refine wp_mono ((hr m x1 x2 x3 x4 h).h (by simpa only [codeOk] using hc) X A w hR) ?_
    intro x A' w' hq
    cases x with
    | normal => obtain ⟨m', S, X, h1, h2, h3⟩ := hq; exact ⟨m', h1, S, X, h2, h3⟩
    | _ => exact hq
theorem ag4 {T1 T2 T3 T4 : Type} {E : T1 → T2 → T3 → T4 → Env} {L : T1 → T2 → T3 → T4 → Loc} {Φ : Nat → T1 → T2 → T3 → T4 → Prop} {k' : List Frm} {x : Exit} {m m' : Nat} {a1 : T1} {a2 : T2} {a3 : T3} {a4 : T4} (hn : nxt k x = (.loop (LI4 E L G Φ) m :: k', .normal)) (h : Φ m' a1 a2 a3 a4) (hm : m' < m := by omega)
    (he : leL e (E a1 a2 a3 a4) := by ((repeat refine And.intro rfl ?_); exact trivial)) (hl : leL l (L a1 a2 a3 a4) := by ((repeat refine And.intro rfl ?_); exact trivial)) : E2 F T k x e l G :=
  ⟨fun X A w hr => by rw [nxt_eq, hn]; exact ⟨m', ⟨E a1 a2 a3 a4, L a1 a2 a3 a4, G⟩, X, hm, LI4.mk m' a1 a2 a3 a4 h, hr.weaken (le_of he hl rfl)⟩⟩
inductive LI5 {T1 T2 T3 T4 T5 : Type} (E : T1 → T2 → T3 → T4 → T5 → Env) (L : T1 → T2 → T3 → T4 → T5 → Loc) (G : Objs) (Φ : Nat → T1 → T2 → T3 → T4 → T5 → Prop) : Nat → St → Prop
  | mk (m : Nat) (x1 : T1) (x2 : T2) (x3 : T3) (x4 : T4) (x5 : T5) (h : Φ m x1 x2 x3 x4 x5) : LI5 E L G Φ m ⟨E x1 x2 x3 x4 x5, L x1 x2 x3 x4 x5, G⟩
theorem lp5 {T1 T2 T3 T4 T5 : Type} (E : T1 → T2 → T3 → T4 → T5 → Env) (L : T1 → T2 → T3 → T4 → T5 → Loc) (Φ : Nat → T1 → T2 → T3 → T4 → T5 → Prop) {c : Code} {m : Nat} {a1 : T1} {a2 : T2} {a3 : T3} {a4 : T4} {a5 : T5} (h0 : Φ m a1 a2 a3 a4 a5) (hr : ∀ (m : Nat) (x1 : T1) (x2 : T2) (x3 : T3) (x4 : T4) (x5 : T5), Φ m x1 x2 x3 x4 x5 → E1 F T (.loop (LI5 E L G Φ) m :: k) c (E x1 x2 x3 x4 x5) (L x1 x2 x3 x4 x5) G)
    (he : leL e (E a1 a2 a3 a4 a5) := by ((repeat refine And.intro rfl ?_); exact trivial)) (hl : leL l (L a1 a2 a3 a4 a5) := by ((repeat refine And.intro rfl ?_); exact trivial)) : E1 F T k (.loop c) e l G := by
  refine ⟨fun hc X A w hr0 => ?_⟩
  refine wp_loop_ghost (fun m a w => ∃ S X, LI5 E L G Φ m S ∧ Rdy F T S X a w) m ⟨⟨E a1 a2 a3 a4 a5, L a1 a2 a3 a4 a5, G⟩, X, LI5.mk m a1 a2 a3 a4 a5 h0, hr0.weaken (le_of he hl rfl)⟩ ?_
  rintro m A w ⟨S, X, hS, hR⟩
  cases hS with
  | mk x1 x2 x3 x4 x5 h =>
    refine wp_mono ((hr m x1 x2 x3 x4 x5 h).h (by simpa only [codeOk] using hc) X A w hR) ?_
    intro x A' w' hq
    cases x with
    | normal => obtain ⟨m', S, X, h1, h2, h3⟩ := hq; exact ⟨m', h1, S, X, h2, h3⟩
    | _ => exact hq
theorem ag5 {T1 T2 T3 T4 T5 : Type} {E : T1 → T2 → T3 → T4 → T5 → Env} {L : T1 → T2 → T3 → T4 → T5 → Loc} {Φ : Nat → T1 → T2 → T3 → T4 → T5 → Prop} {k' : List Frm} {x : Exit} {m m' : Nat} {a1 : T1} {a2 : T2} {a3 : T3} {a4 : T4} {a5 : T5} (hn : nxt k x = (.loop (LI5 E L G Φ) m :: k', .normal)) (h : Φ m' a1 a2 a3 a4 a5) (hm : m' < m := by omega)
    (he : leL e (E a1 a2 a3 a4 a5) := by ((repeat refine And.intro rfl ?_); exact trivial)) (hl : leL l (L a1 a2 a3 a4 a5) := by ((repeat refine And.intro rfl ?_); exact trivial)) : E2 F T k x e l G :=
  ⟨fun X A w hr => by rw [nxt_eq, hn]; exact ⟨m', ⟨E a1 a2 a3 a4 a5, L a1 a2 a3 a4 a5, G⟩, X, hm, LI5.mk m' a1 a2 a3 a4 a5 h, hr.weaken (le_of he hl rfl)⟩⟩
inductive LI6 {T1 T2 T3 T4 T5 T6 : Type} (E : T1 → T2 → T3 → T4 → T5 → T6 → Env) (L : T1 → T2 → T3 → T4 → T5 → T6 → Loc) (G : Objs) (Φ : Nat → T1 → T2 → T3 → T4 → T5 → T6 → Prop) : Nat → St → Prop
  | mk (m : Nat) (x1 : T1) (x2 : T2) (x3 : T3) (x4 : T4) (x5 : T5) (x6 : T6) (h : Φ m x1 x2 x3 x4 x5 x6) : LI6 E L G Φ m ⟨E x1 x2 x3 x4 x5 x6, L x1 x2 x3 x4 x5 x6, G⟩
theorem lp6 {T1 T2 T3 T4 T5 T6 : Type} (E : T1 → T2 → T3 → T4 → T5 → T6 → Env) (L : T1 → T2 → T3 → T4 → T5 → T6 → Loc) (Φ : Nat → T1 → T2 → T3 → T4 → T5 → T6 → Prop) {c : Code} {m : Nat} {a1 : T1} {a2 : T2} {a3 : T3} {a4 : T4} {a5 : T5} {a6 : T6} (h0 : Φ m a1 a2 a3 a4 a5 a6) (hr : ∀ (m : Nat) (x1 : T1) (x2 : T2) (x3 : T3) (x4 : T4) (x5 : T5) (x6 : T6), Φ m x1 x2 x3 x4 x5 x6 → E1 F T (.loop (LI6 E L G Φ) m :: k) c (E x1 x2 x3 x4 x5 x6) (L x1 x2 x3 x4 x5 x6) G)
    (he : leL e (E a1 a2 a3 a4 a5 a6) := by ((repeat refine And.intro rfl ?_); exact trivial)) (hl : leL l (L a1 a2 a3 a4 a5 a6) := by ((repeat refine And.intro rfl ?_); exact trivial)) : E1 F T k (.loop c) e l G := by
  refine ⟨fun hc X A w hr0 => ?_⟩
  refine wp_loop_ghost (fun m a w => ∃ S X, LI6 E L G Φ m S ∧ Rdy F T S X a w) m ⟨⟨E a1 a2 a3 a4 a5 a6, L a1 a2 a3 a4 a5 a6, G⟩, X, LI6.mk m a1 a2 a3 a4 a5 a6 h0, hr0.weaken (le_of he hl rfl)⟩ ?_
  rintro m A w ⟨S, X, hS, hR⟩
  cases hS with
  | mk x1 x2 x3 x4 x5 x6 h =>
    refine wp_mono ((hr m x1 x2 x3 x4 x5 x6 h).h (by simpa only [codeOk] using hc) X A w hR) ?_
    intro x A' w' hq
    cases x with
    | normal => obtain ⟨m', S, X, h1, h2, h3⟩ := hq; exact ⟨m', h1, S, X, h2, h3⟩
    | _ => exact hq
theorem ag6 {T1 T2 T3 T4 T5 T6 : Type} {E : T1 → T2 → T3 → T4 → T5 → T6 → Env} {L : T1 → T2 → T3 → T4 → T5 → T6 → Loc} {Φ : Nat → T1 → T2 → T3 → T4 → T5 → T6 → Prop} {k' : List Frm} {x : Exit} {m m' : Nat} {a1 : T1} {a2 : T2} {a3 : T3} {a4 : T4} {a5 : T5} {a6 : T6} (hn : nxt k x = (.loop (LI6 E L G Φ) m :: k', .normal)) (h : Φ m' a1 a2 a3 a4 a5 a6) (hm : m' < m := by omega)
    (he : leL e (E a1 a2 a3 a4 a5 a6) := by ((repeat refine And.intro rfl ?_); exact trivial)) (hl : leL l (L a1 a2 a3 a4 a5 a6) := by ((repeat refine And.intro rfl ?_); exact trivial)) : E2 F T k x e l G :=
  ⟨fun X A w hr => by rw [nxt_eq, hn]; exact ⟨m', ⟨E a1 a2 a3 a4 a5 a6, L a1 a2 a3 a4 a5 a6, G⟩, X, hm, LI6.mk m' a1 a2 a3 a4 a5 a6 h, hr.weaken (le_of he hl rfl)⟩⟩
theorem sc6 {T1 T2 T3 T4 T5 T6 : Type} (lb : Nat) (E : T1 → T2 → T3 → T4 → T5 → T6 → Env) (L : T1 → T2 → T3 → T4 → T5 → T6 → Loc) (Φ : Nat → T1 → T2 → T3 → T4 → T5 → T6 → Prop) {b rest : Code} {fr : List Frm} (hr : ∀ (m : Nat) (x1 : T1) (x2 : T2) (x3 : T3) (x4 : T4) (x5 : T5) (x6 : T6), Φ m x1 x2 x3 x4 x5 x6 → E2 F T (fr ++ .lab lb (LI6 E L G Φ) (some m) :: k) .normal (E x1 x2 x3 x4 x5 x6) (L x1 x2 x3 x4 x5 x6) G)
    (h1 : (∀ (m : Nat) (x1 : T1) (x2 : T2) (x3 : T3) (x4 : T4) (x5 : T5) (x6 : T6), Φ m x1 x2 x3 x4 x5 x6 → E2 F T (fr ++ .lab lb (LI6 E L G Φ) none :: k) .normal (E x1 x2 x3 x4 x5 x6) (L x1 x2 x3 x4 x5 x6) G) → E1 F T (.lab lb (LI6 E L G Φ) none :: k) b e l G)
    (hf : findLabel b lb = some rest := by exact rfl) (hfr : frs rest = some fr := by exact rfl) : E1 F T k (.scope b) e l G := by
  refine scope_ hf (h1 fun m x1 x2 x3 x4 x5 x6 h => ⟨fun X a w hR => lab_mono ((hr m x1 x2 x3 x4 x5 x6 h).h X a w hR)⟩) (fun m S hS X a w hR hc => ?_)
  cases hS with
  | mk x1 x2 x3 x4 x5 x6 h => exact frs_ok hfr (hr m x1 x2 x3 x4 x5 x6 h).h hc X a w hR
theorem jp6 {T1 T2 T3 T4 T5 T6 : Type} {E : T1 → T2 → T3 → T4 → T5 → T6 → Env} {L : T1 → T2 → T3 → T4 → T5 → T6 → Loc} {Φ : Nat → T1 → T2 → T3 → T4 → T5 → T6 → Prop} {k' : List Frm} {lb : Nat} {b : Option Nat} {m' : Nat} {a1 : T1} {a2 : T2} {a3 : T3} {a4 : T4} {a5 : T5} {a6 : T6} (hn : nxt k (.goto lb) = (.lab lb (LI6 E L G Φ) b :: k', .goto lb)) (h : Φ m' a1 a2 a3 a4 a5 a6) (hm : ∀ m, b = some m → m' < m := by (intro m hm; cases hm <;> omega))
    (he : leL e (E a1 a2 a3 a4 a5 a6) := by ((repeat refine And.intro rfl ?_); exact trivial)) (hl : leL l (L a1 a2 a3 a4 a5 a6) := by ((repeat refine And.intro rfl ?_); exact trivial)) : E2 F T k (.goto lb) e l G :=
  ⟨fun X A w hr => by rw [nxt_eq, hn]; exact ⟨rfl, m', ⟨E a1 a2 a3 a4 a5 a6, L a1 a2 a3 a4 a5 a6, G⟩, X, hm, LI6.mk m' a1 a2 a3 a4 a5 a6 h, hr.weaken (le_of he hl rfl)⟩⟩
inductive LI7 {T1 T2 T3 T4 T5 T6 T7 : Type} (E : T1 → T2 → T3 → T4 → T5 → T6 → T7 → Env) (L : T1 → T2 → T3 → T4 → T5 → T6 → T7 → Loc) (G : Objs) (Φ : Nat → T1 → T2 → T3 → T4 → T5 → T6 → T7 → Prop) : Nat → St → Prop
  | mk (m : Nat) (x1 : T1) (x2 : T2) (x3 : T3) (x4 : T4) (x5 : T5) (x6 : T6) (x7 : T7) (h : Φ m x1 x2 x3 x4 x5 x6 x7) : LI7 E L G Φ m ⟨E x1 x2 x3 x4 x5 x6 x7, L x1 x2 x3 x4 x5 x6 x7, G⟩
theorem lp7 {T1 T2 T3 T4 T5 T6 T7 : Type} (E : T1 → T2 → T3 → T4 → T5 → T6 → T7 → Env) (L : T1 → T2 → T3 → T4 → T5 → T6 → T7 → Loc) (Φ : Nat → T1 → T2 → T3 → T4 → T5 → T6 → T7 → Prop) {c : Code} {m : Nat} {a1 : T1} {a2 : T2} {a3 : T3} {a4 : T4} {a5 : T5} {a6 : T6} {a7 : T7} (h0 : Φ m a1 a2 a3 a4 a5 a6 a7) (hr : ∀ (m : Nat) (x1 : T1) (x2 : T2) (x3 : T3) (x4 : T4) (x5 : T5) (x6 : T6) (x7 : T7), Φ m x1 x2 x3 x4 x5 x6 x7 → E1 F T (.loop (LI7 E L G Φ) m :: k) c (E x1 x2 x3 x4 x5 x6 x7) (L x1 x2 x3 x4 x5 x6 x7) G)
    (he : leL e (E a1 a2 a3 a4 a5 a6 a7) := by ((repeat refine And.intro rfl ?_); exact trivial)) (hl : leL l (L a1 a2 a3 a4 a5 a6 a7) := by ((repeat refine And.intro rfl ?_); exact trivial)) : E1 F T k (.loop c) e l G := by
  refine ⟨fun hc X A w hr0 => ?_⟩
  refine wp_loop_ghost (fun m a w => ∃ S X, LI7 E L G Φ m S ∧ Rdy F T S X a w) m ⟨⟨E a1 a2 a3 a4 a5 a6 a7, L a1 a2 a3 a4 a5 a6 a7, G⟩, X, LI7.mk m a1 a2 a3 a4 a5 a6 a7 h0, hr0.weaken (le_of he hl rfl)⟩ ?_
  rintro m A w ⟨S, X, hS, hR⟩
  cases hS with
  | mk x1 x2 x3 x4 x5 x6 x7 h =>
    refine wp_mono ((hr m x1 x2 x3 x4 x5 x6 x7 h).h (by simpa only [codeOk] using hc) X A w hR) ?_
    intro x A' w' hq
    cases x with
    | normal => obtain ⟨m', S, X, h1, h2, h3⟩ := hq; exact ⟨m', h1, S, X, h2, h3⟩
    | _ => exact hq
theorem ag7 {T1 T2 T3 T4 T5 T6 T7 : Type} {E : T1 → T2 → T3 → T4 → T5 → T6 → T7 → Env} {L : T1 → T2 → T3 → T4 → T5 → T6 → T7 → Loc} {Φ : Nat → T1 → T2 → T3 → T4 → T5 → T6 → T7 → Prop} {k' : List Frm} {x : Exit} {m m' : Nat} {a1 : T1} {a2 : T2} {a3 : T3} {a4 : T4} {a5 : T5} {a6 : T6} {a7 : T7} (hn : nxt k x = (.loop (LI7 E L G Φ) m :: k', .normal)) (h : Φ m' a1 a2 a3 a4 a5 a6 a7) (hm : m' < m := by omega)
    (he : leL e (E a1 a2 a3 a4 a5 a6 a7) := by ((repeat refine And.intro rfl ?_); exact trivial)) (hl : leL l (L a1 a2 a3 a4 a5 a6 a7) := by ((repeat refine And.intro rfl ?_); exact trivial)) : E2 F T k x e l G :=
  ⟨fun X A w hr => by rw [nxt_eq, hn]; exact ⟨m', ⟨E a1 a2 a3 a4 a5 a6 a7, L a1 a2 a3 a4 a5 a6 a7, G⟩, X, hm, LI7.mk m' a1 a2 a3 a4 a5 a6 a7 h, hr.weaken (le_of he hl rfl)⟩⟩
inductive LI8 {T1 T2 T3 T4 T5 T6 T7 T8 : Type} (E : T1 → T2 → T3 → T4 → T5 → T6 → T7 → T8 → Env) (L : T1 → T2 → T3 → T4 → T5 → T6 → T7 → T8 → Loc) (G : Objs) (Φ : Nat → T1 → T2 → T3 → T4 → T5 → T6 → T7 → T8 → Prop) : Nat → St → Prop
  | mk (m : Nat) (x1 : T1) (x2 : T2) (x3 : T3) (x4 : T4) (x5 : T5) (x6 : T6) (x7 : T7) (x8 : T8) (h : Φ m x1 x2 x3 x4 x5 x6 x7 x8) : LI8 E L G Φ m ⟨E x1 x2 x3 x4 x5 x6 x7 x8, L x1 x2 x3 x4 x5 x6 x7 x8, G⟩
inductive LI9 {T1 T2 T3 T4 T5 T6 T7 T8 T9 : Type} (E : T1 → T2 → T3 → T4 → T5 → T6 → T7 → T8 → T9 → Env) (L : T1 → T2 → T3 → T4 → T5 → T6 → T7 → T8 → T9 → Loc) (G : Objs) (Φ : Nat → T1 → T2 → T3 → T4 → T5 → T6 → T7 → T8 → T9 → Prop) : Nat → St → Prop
  | mk (m : Nat) (x1 : T1) (x2 : T2) (x3 : T3) (x4 : T4) (x5 : T5) (x6 : T6) (x7 : T7) (x8 : T8) (x9 : T9) (h : Φ m x1 x2 x3 x4 x5 x6 x7 x8 x9) : LI9 E L G Φ m ⟨E x1 x2 x3 x4 x5 x6 x7 x8 x9, L x1 x2 x3 x4 x5 x6 x7 x8 x9, G⟩
theorem lp9 {T1 T2 T3 T4 T5 T6 T7 T8 T9 : Type} (E : T1 → T2 → T3 → T4 → T5 → T6 → T7 → T8 → T9 → Env) (L : T1 → T2 → T3 → T4 → T5 → T6 → T7 → T8 → T9 → Loc) (Φ : Nat → T1 → T2 → T3 → T4 → T5 → T6 → T7 → T8 → T9 → Prop) {c : Code} {m : Nat} {a1 : T1} {a2 : T2} {a3 : T3} {a4 : T4} {a5 : T5} {a6 : T6} {a7 : T7} {a8 : T8} {a9 : T9} (h0 : Φ m a1 a2 a3 a4 a5 a6 a7 a8 a9) (hr : ∀ (m : Nat) (x1 : T1) (x2 : T2) (x3 : T3) (x4 : T4) (x5 : T5) (x6 : T6) (x7 : T7) (x8 : T8) (x9 : T9), Φ m x1 x2 x3 x4 x5 x6 x7 x8 x9 → E1 F T (.loop (LI9 E L G Φ) m :: k) c (E x1 x2 x3 x4 x5 x6 x7 x8 x9) (L x1 x2 x3 x4 x5 x6 x7 x8 x9) G)
    (he : leL e (E a1 a2 a3 a4 a5 a6 a7 a8 a9) := by ((repeat refine And.intro rfl ?_); exact trivial)) (hl : leL l (L a1 a2 a3 a4 a5 a6 a7 a8 a9) := by ((repeat refine And.intro rfl ?_); exact trivial)) : E1 F T k (.loop c) e l G := by
  refine ⟨fun hc X A w hr0 => ?_⟩
  refine wp_loop_ghost (fun m a w => ∃ S X, LI9 E L G Φ m S ∧ Rdy F T S X a w) m ⟨⟨E a1 a2 a3 a4 a5 a6 a7 a8 a9, L a1 a2 a3 a4 a5 a6 a7 a8 a9, G⟩, X, LI9.mk m a1 a2 a3 a4 a5 a6 a7 a8 a9 h0, hr0.weaken (le_of he hl rfl)⟩ ?_
  rintro m A w ⟨S, X, hS, hR⟩
  cases hS with
  | mk x1 x2 x3 x4 x5 x6 x7 x8 x9 h =>
    refine wp_mono ((hr m x1 x2 x3 x4 x5 x6 x7 x8 x9 h).h (by simpa only [codeOk] using hc) X A w hR) ?_
    intro x A' w' hq
    cases x with
    | normal => obtain ⟨m', S, X, h1, h2, h3⟩ := hq; exact ⟨m', h1, S, X, h2, h3⟩
    | _ => exact hq
theorem ag9 {T1 T2 T3 T4 T5 T6 T7 T8 T9 : Type} {E : T1 → T2 → T3 → T4 → T5 → T6 → T7 → T8 → T9 → Env} {L : T1 → T2 → T3 → T4 → T5 → T6 → T7 → T8 → T9 → Loc} {Φ : Nat → T1 → T2 → T3 → T4 → T5 → T6 → T7 → T8 → T9 → Prop} {k' : List Frm} {x : Exit} {m m' : Nat} {a1 : T1} {a2 : T2} {a3 : T3} {a4 : T4} {a5 : T5} {a6 : T6} {a7 : T7} {a8 : T8} {a9 : T9} (hn : nxt k x = (.loop (LI9 E L G Φ) m :: k', .normal)) (h : Φ m' a1 a2 a3 a4 a5 a6 a7 a8 a9) (hm : m' < m := by omega)
    (he : leL e (E a1 a2 a3 a4 a5 a6 a7 a8 a9) := by ((repeat refine And.intro rfl ?_); exact trivial)) (hl : leL l (L a1 a2 a3 a4 a5 a6 a7 a8 a9) := by ((repeat refine And.intro rfl ?_); exact trivial)) : E2 F T k x e l G :=
  ⟨fun X A w hr => by rw [nxt_eq, hn]; exact ⟨m', ⟨E a1 a2 a3 a4 a5 a6 a7 a8 a9, L a1 a2 a3 a4 a5 a6 a7 a8 a9, G⟩, X, hm, LI9.mk m' a1 a2 a3 a4 a5 a6 a7 a8 a9 h, hr.weaken (le_of he hl rfl)⟩⟩
inductive LI10 {T1 T2 T3 T4 T5 T6 T7 T8 T9 T10 : Type} (E : T1 → T2 → T3 → T4 → T5 → T6 → T7 → T8 → T9 → T10 → Env) (L : T1 → T2 → T3 → T4 → T5 → T6 → T7 → T8 → T9 → T10 → Loc) (G : Objs) (Φ : Nat → T1 → T2 → T3 → T4 → T5 → T6 → T7 → T8 → T9 → T10 → Prop) : Nat → St → Prop
  | mk (m : Nat) (x1 : T1) (x2 : T2) (x3 : T3) (x4 : T4) (x5 : T5) (x6 : T6) (x7 : T7) (x8 : T8) (x9 : T9) (x10 : T10) (h : Φ m x1 x2 x3 x4 x5 x6 x7 x8 x9 x10) : LI10 E L G Φ m ⟨E x1 x2 x3 x4 x5 x6 x7 x8 x9 x10, L x1 x2 x3 x4 x5 x6 x7 x8 x9 x10, G⟩
theorem lp10 {T1 T2 T3 T4 T5 T6 T7 T8 T9 T10 : Type} (E : T1 → T2 → T3 → T4 → T5 → T6 → T7 → T8 → T9 → T10 → Env) (L : T1 → T2 → T3 → T4 → T5 → T6 → T7 → T8 → T9 → T10 → Loc) (Φ : Nat → T1 → T2 → T3 → T4 → T5 → T6 → T7 → T8 → T9 → T10 → Prop) {c : Code} {m : Nat} {a1 : T1} {a2 : T2} {a3 : T3} {a4 : T4} {a5 : T5} {a6 : T6} {a7 : T7} {a8 : T8} {a9 : T9} {a10 : T10} (h0 : Φ m a1 a2 a3 a4 a5 a6 a7 a8 a9 a10) (hr : ∀ (m : Nat) (x1 : T1) (x2 : T2) (x3 : T3) (x4 : T4) (x5 : T5) (x6 : T6) (x7 : T7) (x8 : T8) (x9 : T9) (x10 : T10), Φ m x1 x2 x3 x4 x5 x6 x7 x8 x9 x10 → E1 F T (.loop (LI10 E L G Φ) m :: k) c (E x1 x2 x3 x4 x5 x6 x7 x8 x9 x10) (L x1 x2 x3 x4 x5 x6 x7 x8 x9 x10) G)
    (he : leL e (E a1 a2 a3 a4 a5 a6 a7 a8 a9 a10) := by ((repeat refine And.intro rfl ?_); exact trivial)) (hl : leL l (L a1 a2 a3 a4 a5 a6 a7 a8 a9 a10) := by ((repeat refine And.intro rfl ?_); exact trivial)) : E1 F T k (.loop c) e l G := by
  refine ⟨fun hc X A w hr0 => ?_⟩
  refine wp_loop_ghost (fun m a w => ∃ S X, LI10 E L G Φ m S ∧ Rdy F T S X a w) m ⟨⟨E a1 a2 a3 a4 a5 a6 a7 a8 a9 a10, L a1 a2 a3 a4 a5 a6 a7 a8 a9 a10, G⟩, X, LI10.mk m a1 a2 a3 a4 a5 a6 a7 a8 a9 a10 h0, hr0.weaken (le_of he hl rfl)⟩ ?_
  rintro m A w ⟨S, X, hS, hR⟩
  cases hS with
  | mk x1 x2 x3 x4 x5 x6 x7 x8 x9 x10 h =>
    refine wp_mono ((hr m x1 x2 x3 x4 x5 x6 x7 x8 x9 x10 h).h (by simpa only [codeOk] using hc) X A w hR) ?_
    intro x A' w' hq
    cases x with
    | normal => obtain ⟨m', S, X, h1, h2, h3⟩ := hq; exact ⟨m', h1, S, X, h2, h3⟩
    | _ => exact hq
theorem ag10 {T1 T2 T3 T4 T5 T6 T7 T8 T9 T10 : Type} {E : T1 → T2 → T3 → T4 → T5 → T6 → T7 → T8 → T9 → T10 → Env} {L : T1 → T2 → T3 → T4 → T5 → T6 → T7 → T8 → T9 → T10 → Loc} {Φ : Nat → T1 → T2 → T3 → T4 → T5 → T6 → T7 → T8 → T9 → T10 → Prop} {k' : List Frm} {x : Exit} {m m' : Nat} {a1 : T1} {a2 : T2} {a3 : T3} {a4 : T4} {a5 : T5} {a6 : T6} {a7 : T7} {a8 : T8} {a9 : T9} {a10 : T10} (hn : nxt k x = (.loop (LI10 E L G Φ) m :: k', .normal)) (h : Φ m' a1 a2 a3 a4 a5 a6 a7 a8 a9 a10) (hm : m' < m := by omega)
    (he : leL e (E a1 a2 a3 a4 a5 a6 a7 a8 a9 a10) := by ((repeat refine And.intro rfl ?_); exact trivial)) (hl : leL l (L a1 a2 a3 a4 a5 a6 a7 a8 a9 a10) := by ((repeat refine And.intro rfl ?_); exact trivial)) : E2 F T k x e l G :=
  ⟨fun X A w hr => by rw [nxt_eq, hn]; exact ⟨m', ⟨E a1 a2 a3 a4 a5 a6 a7 a8 a9 a10, L a1 a2 a3 a4 a5 a6 a7 a8 a9 a10, G⟩, X, hm, LI10.mk m' a1 a2 a3 a4 a5 a6 a7 a8 a9 a10 h, hr.weaken (le_of he hl rfl)⟩⟩
inductive LI11 {T1 T2 T3 T4 T5 T6 T7 T8 T9 T10 T11 : Type} (E : T1 → T2 → T3 → T4 → T5 → T6 → T7 → T8 → T9 → T10 → T11 → Env) (L : T1 → T2 → T3 → T4 → T5 → T6 → T7 → T8 → T9 → T10 → T11 → Loc) (G : Objs) (Φ : Nat → T1 → T2 → T3 → T4 → T5 → T6 → T7 → T8 → T9 → T10 → T11 → Prop) : Nat → St → Prop
  | mk (m : Nat) (x1 : T1) (x2 : T2) (x3 : T3) (x4 : T4) (x5 : T5) (x6 : T6) (x7 : T7) (x8 : T8) (x9 : T9) (x10 : T10) (x11 : T11) (h : Φ m x1 x2 x3 x4 x5 x6 x7 x8 x9 x10 x11) : LI11 E L G Φ m ⟨E x1 x2 x3 x4 x5 x6 x7 x8 x9 x10 x11, L x1 x2 x3 x4 x5 x6 x7 x8 x9 x10 x11, G⟩
theorem lp11 {T1 T2 T3 T4 T5 T6 T7 T8 T9 T10 T11 : Type} (E : T1 → T2 → T3 → T4 → T5 → T6 → T7 → T8 → T9 → T10 → T11 → Env) (L : T1 → T2 → T3 → T4 → T5 → T6 → T7 → T8 → T9 → T10 → T11 → Loc) (Φ : Nat → T1 → T2 → T3 → T4 → T5 → T6 → T7 → T8 → T9 → T10 → T11 → Prop) {c : Code} {m : Nat} {a1 : T1} {a2 : T2} {a3 : T3} {a4 : T4} {a5 : T5} {a6 : T6} {a7 : T7} {a8 : T8} {a9 : T9} {a10 : T10} {a11 : T11} (h0 : Φ m a1 a2 a3 a4 a5 a6 a7 a8 a9 a10 a11) (hr : ∀ (m : Nat) (x1 : T1) (x2 : T2) (x3 : T3) (x4 : T4) (x5 : T5) (x6 : T6) (x7 : T7) (x8 : T8) (x9 : T9) (x10 : T10) (x11 : T11), Φ m x1 x2 x3 x4 x5 x6 x7 x8 x9 x10 x11 → E1 F T (.loop (LI11 E L G Φ) m :: k) c (E x1 x2 x3 x4 x5 x6 x7 x8 x9 x10 x11) (L x1 x2 x3 x4 x5 x6 x7 x8 x9 x10 x11) G)
    (he : leL e (E a1 a2 a3 a4 a5 a6 a7 a8 a9 a10 a11) := by ((repeat refine And.intro rfl ?_); exact trivial)) (hl : leL l (L a1 a2 a3 a4 a5 a6 a7 a8 a9 a10 a11) := by ((repeat refine And.intro rfl ?_); exact trivial)) : E1 F T k (.loop c) e l G := by
  refine ⟨fun hc X A w hr0 => ?_⟩
  refine wp_loop_ghost (fun m a w => ∃ S X, LI11 E L G Φ m S ∧ Rdy F T S X a w) m ⟨⟨E a1 a2 a3 a4 a5 a6 a7 a8 a9 a10 a11, L a1 a2 a3 a4 a5 a6 a7 a8 a9 a10 a11, G⟩, X, LI11.mk m a1 a2 a3 a4 a5 a6 a7 a8 a9 a10 a11 h0, hr0.weaken (le_of he hl rfl)⟩ ?_
  rintro m A w ⟨S, X, hS, hR⟩
  cases hS with
  | mk x1 x2 x3 x4 x5 x6 x7 x8 x9 x10 x11 h =>
    refine wp_mono ((hr m x1 x2 x3 x4 x5 x6 x7 x8 x9 x10 x11 h).h (by simpa only [codeOk] using hc) X A w hR) ?_
    intro x A' w' hq
    cases x with
    | normal => obtain ⟨m', S, X, h1, h2, h3⟩ := hq; exact ⟨m', h1, S, X, h2, h3⟩
    | _ => exact hq
theorem ag11 {T1 T2 T3 T4 T5 T6 T7 T8 T9 T10 T11 : Type} {E : T1 → T2 → T3 → T4 → T5 → T6 → T7 → T8 → T9 → T10 → T11 → Env} {L : T1 → T2 → T3 → T4 → T5 → T6 → T7 → T8 → T9 → T10 → T11 → Loc} {Φ : Nat → T1 → T2 → T3 → T4 → T5 → T6 → T7 → T8 → T9 → T10 → T11 → Prop} {k' : List Frm} {x : Exit} {m m' : Nat} {a1 : T1} {a2 : T2} {a3 : T3} {a4 : T4} {a5 : T5} {a6 : T6} {a7 : T7} {a8 : T8} {a9 : T9} {a10 : T10} {a11 : T11} (hn : nxt k x = (.loop (LI11 E L G Φ) m :: k', .normal)) (h : Φ m' a1 a2 a3 a4 a5 a6 a7 a8 a9 a10 a11) (hm : m' < m := by omega)
    (he : leL e (E a1 a2 a3 a4 a5 a6 a7 a8 a9 a10 a11) := by ((repeat refine And.intro rfl ?_); exact trivial)) (hl : leL l (L a1 a2 a3 a4 a5 a6 a7 a8 a9 a10 a11) := by ((repeat refine And.intro rfl ?_); exact trivial)) : E2 F T k x e l G :=
  ⟨fun X A w hr => by rw [nxt_eq, hn]; exact ⟨m', ⟨E a1 a2 a3 a4 a5 a6 a7 a8 a9 a10 a11, L a1 a2 a3 a4 a5 a6 a7 a8 a9 a10 a11, G⟩, X, hm, LI11.mk m' a1 a2 a3 a4 a5 a6 a7 a8 a9 a10 a11 h, hr.weaken (le_of he hl rfl)⟩⟩
inductive LI12 {T1 T2 T3 T4 T5 T6 T7 T8 T9 T10 T11 T12 : Type} (E : T1 → T2 → T3 → T4 → T5 → T6 → T7 → T8 → T9 → T10 → T11 → T12 → Env) (L : T1 → T2 → T3 → T4 → T5 → T6 → T7 → T8 → T9 → T10 → T11 → T12 → Loc) (G : Objs) (Φ : Nat → T1 → T2 → T3 → T4 → T5 → T6 → T7 → T8 → T9 → T10 → T11 → T12 → Prop) : Nat → St → Prop
  | mk (m : Nat) (x1 : T1) (x2 : T2) (x3 : T3) (x4 : T4) (x5 : T5) (x6 : T6) (x7 : T7) (x8 : T8) (x9 : T9) (x10 : T10) (x11 : T11) (x12 : T12) (h : Φ m x1 x2 x3 x4 x5 x6 x7 x8 x9 x10 x11 x12) : LI12 E L G Φ m ⟨E x1 x2 x3 x4 x5 x6 x7 x8 x9 x10 x11 x12, L x1 x2 x3 x4 x5 x6 x7 x8 x9 x10 x11 x12, G⟩
inductive LI13 {T1 T2 T3 T4 T5 T6 T7 T8 T9 T10 T11 T12 T13 : Type} (E : T1 → T2 → T3 → T4 → T5 → T6 → T7 → T8 → T9 → T10 → T11 → T12 → T13 → Env) (L : T1 → T2 → T3 → T4 → T5 → T6 → T7 → T8 → T9 → T10 → T11 → T12 → T13 → Loc) (G : Objs) (Φ : Nat → T1 → T2 → T3 → T4 → T5 → T6 → T7 → T8 → T9 → T10 → T11 → T12 → T13 → Prop) : Nat → St → Prop
  | mk (m : Nat) (x1 : T1) (x2 : T2) (x3 : T3) (x4 : T4) (x5 : T5) (x6 : T6) (x7 : T7) (x8 : T8) (x9 : T9) (x10 : T10) (x11 : T11) (x12 : T12) (x13 : T13) (h : Φ m x1 x2 x3 x4 x5 x6 x7 x8 x9 x10 x11 x12 x13) : LI13 E L G Φ m ⟨E x1 x2 x3 x4 x5 x6 x7 x8 x9 x10 x11 x12 x13, L x1 x2 x3 x4 x5 x6 x7 x8 x9 x10 x11 x12 x13, G⟩
inductive LI14 {T1 T2 T3 T4 T5 T6 T7 T8 T9 T10 T11 T12 T13 T14 : Type} (E : T1 → T2 → T3 → T4 → T5 → T6 → T7 → T8 → T9 → T10 → T11 → T12 → T13 → T14 → Env) (L : T1 → T2 → T3 → T4 → T5 → T6 → T7 → T8 → T9 → T10 → T11 → T12 → T13 → T14 → Loc) (G : Objs) (Φ : Nat → T1 → T2 → T3 → T4 → T5 → T6 → T7 → T8 → T9 → T10 → T11 → T12 → T13 → T14 → Prop) : Nat → St → Prop
  | mk (m : Nat) (x1 : T1) (x2 : T2) (x3 : T3) (x4 : T4) (x5 : T5) (x6 : T6) (x7 : T7) (x8 : T8) (x9 : T9) (x10 : T10) (x11 : T11) (x12 : T12) (x13 : T13) (x14 : T14) (h : Φ m x1 x2 x3 x4 x5 x6 x7 x8 x9 x10 x11 x12 x13 x14) : LI14 E L G Φ m ⟨E x1 x2 x3 x4 x5 x6 x7 x8 x9 x10 x11 x12 x13 x14, L x1 x2 x3 x4 x5 x6 x7 x8 x9 x10 x11 x12 x13 x14, G⟩
inductive LI15 {T1 T2 T3 T4 T5 T6 T7 T8 T9 T10 T11 T12 T13 T14 T15 : Type} (E : T1 → T2 → T3 → T4 → T5 → T6 → T7 → T8 → T9 → T10 → T11 → T12 → T13 → T14 → T15 → Env) (L : T1 → T2 → T3 → T4 → T5 → T6 → T7 → T8 → T9 → T10 → T11 → T12 → T13 → T14 → T15 → Loc) (G : Objs) (Φ : Nat → T1 → T2 → T3 → T4 → T5 → T6 → T7 → T8 → T9 → T10 → T11 → T12 → T13 → T14 → T15 → Prop) : Nat → St → Prop
  | mk (m : Nat) (x1 : T1) (x2 : T2) (x3 : T3) (x4 : T4) (x5 : T5) (x6 : T6) (x7 : T7) (x8 : T8) (x9 : T9) (x10 : T10) (x11 : T11) (x12 : T12) (x13 : T13) (x14 : T14) (x15 : T15) (h : Φ m x1 x2 x3 x4 x5 x6 x7 x8 x9 x10 x11 x12 x13 x14 x15) : LI15 E L G Φ m ⟨E x1 x2 x3 x4 x5 x6 x7 x8 x9 x10 x11 x12 x13 x14 x15, L x1 x2 x3 x4 x5 x6 x7 x8 x9 x10 x11 x12 x13 x14 x15, G⟩
theorem lp15 {T1 T2 T3 T4 T5 T6 T7 T8 T9 T10 T11 T12 T13 T14 T15 : Type} (E : T1 → T2 → T3 → T4 → T5 → T6 → T7 → T8 → T9 → T10 → T11 → T12 → T13 → T14 → T15 → Env) (L : T1 → T2 → T3 → T4 → T5 → T6 → T7 → T8 → T9 → T10 → T11 → T12 → T13 → T14 → T15 → Loc) (Φ : Nat → T1 → T2 → T3 → T4 → T5 → T6 → T7 → T8 → T9 → T10 → T11 → T12 → T13 → T14 → T15 → Prop) {c : Code} {m : Nat} {a1 : T1} {a2 : T2} {a3 : T3} {a4 : T4} {a5 : T5} {a6 : T6} {a7 : T7} {a8 : T8} {a9 : T9} {a10 : T10} {a11 : T11} {a12 : T12} {a13 : T13} {a14 : T14} {a15 : T15} (h0 : Φ m a1 a2 a3 a4 a5 a6 a7 a8 a9 a10 a11 a12 a13 a14 a15) (hr : ∀ (m : Nat) (x1 : T1) (x2 : T2) (x3 : T3) (x4 : T4) (x5 : T5) (x6 : T6) (x7 : T7) (x8 : T8) (x9 : T9) (x10 : T10) (x11 : T11) (x12 : T12) (x13 : T13) (x14 : T14) (x15 : T15), Φ m x1 x2 x3 x4 x5 x6 x7 x8 x9 x10 x11 x12 x13 x14 x15 → E1 F T (.loop (LI15 E L G Φ) m :: k) c (E x1 x2 x3 x4 x5 x6 x7 x8 x9 x10 x11 x12 x13 x14 x15) (L x1 x2 x3 x4 x5 x6 x7 x8 x9 x10 x11 x12 x13 x14 x15) G)
    (he : leL e (E a1 a2 a3 a4 a5 a6 a7 a8 a9 a10 a11 a12 a13 a14 a15) := by ((repeat refine And.intro rfl ?_); exact trivial)) (hl : leL l (L a1 a2 a3 a4 a5 a6 a7 a8 a9 a10 a11 a12 a13 a14 a15) := by ((repeat refine And.intro rfl ?_); exact trivial)) : E1 F T k (.loop c) e l G := by
  refine ⟨fun hc X A w hr0 => ?_⟩
  refine wp_loop_ghost (fun m a w => ∃ S X, LI15 E L G Φ m S ∧ Rdy F T S X a w) m ⟨⟨E a1 a2 a3 a4 a5 a6 a7 a8 a9 a10 a11 a12 a13 a14 a15, L a1 a2 a3 a4 a5 a6 a7 a8 a9 a10 a11 a12 a13 a14 a15, G⟩, X, LI15.mk m a1 a2 a3 a4 a5 a6 a7 a8 a9 a10 a11 a12 a13 a14 a15 h0, hr0.weaken (le_of he hl rfl)⟩ ?_
  rintro m A w ⟨S, X, hS, hR⟩
  cases hS with
  | mk x1 x2 x3 x4 x5 x6 x7 x8 x9 x10 x11 x12 x13 x14 x15 h =>
    refine wp_mono ((hr m x1 x2 x3 x4 x5 x6 x7 x8 x9 x10 x11 x12 x13 x14 x15 h).h (by simpa only [codeOk] using hc) X A w hR) ?_
    intro x A' w' hq
    cases x with
    | normal => obtain ⟨m', S, X, h1, h2, h3⟩ := hq; exact ⟨m', h1, S, X, h2, h3⟩
    | _ => exact hq
theorem ag15 {T1 T2 T3 T4 T5 T6 T7 T8 T9 T10 T11 T12 T13 T14 T15 : Type} {E : T1 → T2 → T3 → T4 → T5 → T6 → T7 → T8 → T9 → T10 → T11 → T12 → T13 → T14 → T15 → Env} {L : T1 → T2 → T3 → T4 → T5 → T6 → T7 → T8 → T9 → T10 → T11 → T12 → T13 → T14 → T15 → Loc} {Φ : Nat → T1 → T2 → T3 → T4 → T5 → T6 → T7 → T8 → T9 → T10 → T11 → T12 → T13 → T14 → T15 → Prop} {k' : List Frm} {x : Exit} {m m' : Nat} {a1 : T1} {a2 : T2} {a3 : T3} {a4 : T4} {a5 : T5} {a6 : T6} {a7 : T7} {a8 : T8} {a9 : T9} {a10 : T10} {a11 : T11} {a12 : T12} {a13 : T13} {a14 : T14} {a15 : T15} (hn : nxt k x = (.loop (LI15 E L G Φ) m :: k', .normal)) (h : Φ m' a1 a2 a3 a4 a5 a6 a7 a8 a9 a10 a11 a12 a13 a14 a15) (hm : m' < m := by omega)
    (he : leL e (E a1 a2 a3 a4 a5 a6 a7 a8 a9 a10 a11 a12 a13 a14 a15) := by ((repeat refine And.intro rfl ?_); exact trivial)) (hl : leL l (L a1 a2 a3 a4 a5 a6 a7 a8 a9 a10 a11 a12 a13 a14 a15) := by ((repeat refine And.intro rfl ?_); exact trivial)) : E2 F T k x e l G :=
  ⟨fun X A w hr => by rw [nxt_eq, hn]; exact ⟨m', ⟨E a1 a2 a3 a4 a5 a6 a7 a8 a9 a10 a11 a12 a13 a14 a15, L a1 a2 a3 a4 a5 a6 a7 a8 a9 a10 a11 a12 a13 a14 a15, G⟩, X, hm, LI15.mk m' a1 a2 a3 a4 a5 a6 a7 a8 a9 a10 a11 a12 a13 a14 a15 h, hr.weaken (le_of he hl rfl)⟩⟩
inductive LI16 {T1 T2 T3 T4 T5 T6 T7 T8 T9 T10 T11 T12 T13 T14 T15 T16 : Type} (E : T1 → T2 → T3 → T4 → T5 → T6 → T7 → T8 → T9 → T10 → T11 → T12 → T13 → T14 → T15 → T16 → Env) (L : T1 → T2 → T3 → T4 → T5 → T6 → T7 → T8 → T9 → T10 → T11 → T12 → T13 → T14 → T15 → T16 → Loc) (G : Objs) (Φ : Nat → T1 → T2 → T3 → T4 → T5 → T6 → T7 → T8 → T9 → T10 → T11 → T12 → T13 → T14 → T15 → T16 → Prop) : Nat → St → Prop
  | mk (m : Nat) (x1 : T1) (x2 : T2) (x3 : T3) (x4 : T4) (x5 : T5) (x6 : T6) (x7 : T7) (x8 : T8) (x9 : T9) (x10 : T10) (x11 : T11) (x12 : T12) (x13 : T13) (x14 : T14) (x15 : T15) (x16 : T16) (h : Φ m x1 x2 x3 x4 x5 x6 x7 x8 x9 x10 x11 x12 x13 x14 x15 x16) : LI16 E L G Φ m ⟨E x1 x2 x3 x4 x5 x6 x7 x8 x9 x10 x11 x12 x13 x14 x15 x16, L x1 x2 x3 x4 x5 x6 x7 x8 x9 x10 x11 x12 x13 x14 x15 x16, G⟩
theorem lp16 {T1 T2 T3 T4 T5 T6 T7 T8 T9 T10 T11 T12 T13 T14 T15 T16 : Type} (E : T1 → T2 → T3 → T4 → T5 → T6 → T7 → T8 → T9 → T10 → T11 → T12 → T13 → T14 → T15 → T16 → Env) (L : T1 → T2 → T3 → T4 → T5 → T6 → T7 → T8 → T9 → T10 → T11 → T12 → T13 → T14 → T15 → T16 → Loc) (Φ : Nat → T1 → T2 → T3 → T4 → T5 → T6 → T7 → T8 → T9 → T10 → T11 → T12 → T13 → T14 → T15 → T16 → Prop) {c : Code} {m : Nat} {a1 : T1} {a2 : T2} {a3 : T3} {a4 : T4} {a5 : T5} {a6 : T6} {a7 : T7} {a8 : T8} {a9 : T9} {a10 : T10} {a11 : T11} {a12 : T12} {a13 : T13} {a14 : T14} {a15 : T15} {a16 : T16} (h0 : Φ m a1 a2 a3 a4 a5 a6 a7 a8 a9 a10 a11 a12 a13 a14 a15 a16) (hr : ∀ (m : Nat) (x1 : T1) (x2 : T2) (x3 : T3) (x4 : T4) (x5 : T5) (x6 : T6) (x7 : T7) (x8 : T8) (x9 : T9) (x10 : T10) (x11 : T11) (x12 : T12) (x13 : T13) (x14 : T14) (x15 : T15) (x16 : T16), Φ m x1 x2 x3 x4 x5 x6 x7 x8 x9 x10 x11 x12 x13 x14 x15 x16 → E1 F T (.loop (LI16 E L G Φ) m :: k) c (E x1 x2 x3 x4 x5 x6 x7 x8 x9 x10 x11 x12 x13 x14 x15 x16) (L x1 x2 x3 x4 x5 x6 x7 x8 x9 x10 x11 x12 x13 x14 x15 x16) G)
    (he : leL e (E a1 a2 a3 a4 a5 a6 a7 a8 a9 a10 a11 a12 a13 a14 a15 a16) := by ((repeat refine And.intro rfl ?_); exact trivial)) (hl : leL l (L a1 a2 a3 a4 a5 a6 a7 a8 a9 a10 a11 a12 a13 a14 a15 a16) := by ((repeat refine And.intro rfl ?_); exact trivial)) : E1 F T k (.loop c) e l G := by
  refine ⟨fun hc X A w hr0 => ?_⟩
  refine wp_loop_ghost (fun m a w => ∃ S X, LI16 E L G Φ m S ∧ Rdy F T S X a w) m ⟨⟨E a1 a2 a3 a4 a5 a6 a7 a8 a9 a10 a11 a12 a13 a14 a15 a16, L a1 a2 a3 a4 a5 a6 a7 a8 a9 a10 a11 a12 a13 a14 a15 a16, G⟩, X, LI16.mk m a1 a2 a3 a4 a5 a6 a7 a8 a9 a10 a11 a12 a13 a14 a15 a16 h0, hr0.weaken (le_of he hl rfl)⟩ ?_
  rintro m A w ⟨S, X, hS, hR⟩
  cases hS with
  | mk x1 x2 x3 x4 x5 x6 x7 x8 x9 x10 x11 x12 x13 x14 x15 x16 h =>
    refine wp_mono ((hr m x1 x2 x3 x4 x5 x6 x7 x8 x9 x10 x11 x12 x13 x14 x15 x16 h).h (by simpa only [codeOk] using hc) X A w hR) ?_
    intro x A' w' hq
    cases x with
    | normal => obtain ⟨m', S, X, h1, h2, h3⟩ := hq; exact ⟨m', h1, S, X, h2, h3⟩
    | _ => exact hq
theorem ag16 {T1 T2 T3 T4 T5 T6 T7 T8 T9 T10 T11 T12 T13 T14 T15 T16 : Type} {E : T1 → T2 → T3 → T4 → T5 → T6 → T7 → T8 → T9 → T10 → T11 → T12 → T13 → T14 → T15 → T16 → Env} {L : T1 → T2 → T3 → T4 → T5 → T6 → T7 → T8 → T9 → T10 → T11 → T12 → T13 → T14 → T15 → T16 → Loc} {Φ : Nat → T1 → T2 → T3 → T4 → T5 → T6 → T7 → T8 → T9 → T10 → T11 → T12 → T13 → T14 → T15 → T16 → Prop} {k' : List Frm} {x : Exit} {m m' : Nat} {a1 : T1} {a2 : T2} {a3 : T3} {a4 : T4} {a5 : T5} {a6 : T6} {a7 : T7} {a8 : T8} {a9 : T9} {a10 : T10} {a11 : T11} {a12 : T12} {a13 : T13} {a14 : T14} {a15 : T15} {a16 : T16} (hn : nxt k x = (.loop (LI16 E L G Φ) m :: k', .normal)) (h : Φ m' a1 a2 a3 a4 a5 a6 a7 a8 a9 a10 a11 a12 a13 a14 a15 a16) (hm : m' < m := by omega)
    (he : leL e (E a1 a2 a3 a4 a5 a6 a7 a8 a9 a10 a11 a12 a13 a14 a15 a16) := by ((repeat refine And.intro rfl ?_); exact trivial)) (hl : leL l (L a1 a2 a3 a4 a5 a6 a7 a8 a9 a10 a11 a12 a13 a14 a15 a16) := by ((repeat refine And.intro rfl ?_); exact trivial)) : E2 F T k x e l G :=
  ⟨fun X A w hr => by rw [nxt_eq, hn]; exact ⟨m', ⟨E a1 a2 a3 a4 a5 a6 a7 a8 a9 a10 a11 a12 a13 a14 a15 a16, L a1 a2 a3 a4 a5 a6 a7 a8 a9 a10 a11 a12 a13 a14 a15 a16, G⟩, X, hm, LI16.mk m' a1 a2 a3 a4 a5 a6 a7 a8 a9 a10 a11 a12 a13 a14 a15 a16 h, hr.weaken (le_of he hl rfl)⟩⟩
inductive LI17 {T1 T2 T3 T4 T5 T6 T7 T8 T9 T10 T11 T12 T13 T14 T15 T16 T17 : Type} (E : T1 → T2 → T3 → T4 → T5 → T6 → T7 → T8 → T9 → T10 → T11 → T12 → T13 → T14 → T15 → T16 → T17 → Env) (L : T1 → T2 → T3 → T4 → T5 → T6 → T7 → T8 → T9 → T10 → T11 → T12 → T13 → T14 → T15 → T16 → T17 → Loc) (G : Objs) (Φ : Nat → T1 → T2 → T3 → T4 → T5 → T6 → T7 → T8 → T9 → T10 → T11 → T12 → T13 → T14 → T15 → T16 → T17 → Prop) : Nat → St → Prop
  | mk (m : Nat) (x1 : T1) (x2 : T2) (x3 : T3) (x4 : T4) (x5 : T5) (x6 : T6) (x7 : T7) (x8 : T8) (x9 : T9) (x10 : T10) (x11 : T11) (x12 : T12) (x13 : T13) (x14 : T14) (x15 : T15) (x16 : T16) (x17 : T17) (h : Φ m x1 x2 x3 x4 x5 x6 x7 x8 x9 x10 x11 x12 x13 x14 x15 x16 x17) : LI17 E L G Φ m ⟨E x1 x2 x3 x4 x5 x6 x7 x8 x9 x10 x11 x12 x13 x14 x15 x16 x17, L x1 x2 x3 x4 x5 x6 x7 x8 x9 x10 x11 x12 x13 x14 x15 x16 x17, G⟩
inductive LI18 {T1 T2 T3 T4 T5 T6 T7 T8 T9 T10 T11 T12 T13 T14 T15 T16 T17 T18 : Type} (E : T1 → T2 → T3 → T4 → T5 → T6 → T7 → T8 → T9 → T10 → T11 → T12 → T13 → T14 → T15 → T16 → T17 → T18 → Env) (L : T1 → T2 → T3 → T4 → T5 → T6 → T7 → T8 → T9 → T10 → T11 → T12 → T13 → T14 → T15 → T16 → T17 → T18 → Loc) (G : Objs) (Φ : Nat → T1 → T2 → T3 → T4 → T5 → T6 → T7 → T8 → T9 → T10 → T11 → T12 → T13 → T14 → T15 → T16 → T17 → T18 → Prop) : Nat → St → Prop
  | mk (m : Nat) (x1 : T1) (x2 : T2) (x3 : T3) (x4 : T4) (x5 : T5) (x6 : T6) (x7 : T7) (x8 : T8) (x9 : T9) (x10 : T10) (x11 : T11) (x12 : T12) (x13 : T13) (x14 : T14) (x15 : T15) (x16 : T16) (x17 : T17) (x18 : T18) (h : Φ m x1 x2 x3 x4 x5 x6 x7 x8 x9 x10 x11 x12 x13 x14 x15 x16 x17 x18) : LI18 E L G Φ m ⟨E x1 x2 x3 x4 x5 x6 x7 x8 x9 x10 x11 x12 x13 x14 x15 x16 x17 x18, L x1 x2 x3 x4 x5 x6 x7 x8 x9 x10 x11 x12 x13 x14 x15 x16 x17 x18, G⟩
inductive LI19 {T1 T2 T3 T4 T5 T6 T7 T8 T9 T10 T11 T12 T13 T14 T15 T16 T17 T18 T19 : Type} (E : T1 → T2 → T3 → T4 → T5 → T6 → T7 → T8 → T9 → T10 → T11 → T12 → T13 → T14 → T15 → T16 → T17 → T18 → T19 → Env) (L : T1 → T2 → T3 → T4 → T5 → T6 → T7 → T8 → T9 → T10 → T11 → T12 → T13 → T14 → T15 → T16 → T17 → T18 → T19 → Loc) (G : Objs) (Φ : Nat → T1 → T2 → T3 → T4 → T5 → T6 → T7 → T8 → T9 → T10 → T11 → T12 → T13 → T14 → T15 → T16 → T17 → T18 → T19 → Prop) : Nat → St → Prop
  | mk (m : Nat) (x1 : T1) (x2 : T2) (x3 : T3) (x4 : T4) (x5 : T5) (x6 : T6) (x7 : T7) (x8 : T8) (x9 : T9) (x10 : T10) (x11 : T11) (x12 : T12) (x13 : T13) (x14 : T14) (x15 : T15) (x16 : T16) (x17 : T17) (x18 : T18) (x19 : T19) (h : Φ m x1 x2 x3 x4 x5 x6 x7 x8 x9 x10 x11 x12 x13 x14 x15 x16 x17 x18 x19) : LI19 E L G Φ m ⟨E x1 x2 x3 x4 x5 x6 x7 x8 x9 x10 x11 x12 x13 x14 x15 x16 x17 x18 x19, L x1 x2 x3 x4 x5 x6 x7 x8 x9 x10 x11 x12 x13 x14 x15 x16 x17 x18 x19, G⟩
inductive LI20 {T1 T2 T3 T4 T5 T6 T7 T8 T9 T10 T11 T12 T13 T14 T15 T16 T17 T18 T19 T20 : Type} (E : T1 → T2 → T3 → T4 → T5 → T6 → T7 → T8 → T9 → T10 → T11 → T12 → T13 → T14 → T15 → T16 → T17 → T18 → T19 → T20 → Env) (L : T1 → T2 → T3 → T4 → T5 → T6 → T7 → T8 → T9 → T10 → T11 → T12 → T13 → T14 → T15 → T16 → T17 → T18 → T19 → T20 → Loc) (G : Objs) (Φ : Nat → T1 → T2 → T3 → T4 → T5 → T6 → T7 → T8 → T9 → T10 → T11 → T12 → T13 → T14 → T15 → T16 → T17 → T18 → T19 → T20 → Prop) : Nat → St → Prop
  | mk (m : Nat) (x1 : T1) (x2 : T2) (x3 : T3) (x4 : T4) (x5 : T5) (x6 : T6) (x7 : T7) (x8 : T8) (x9 : T9) (x10 : T10) (x11 : T11) (x12 : T12) (x13 : T13) (x14 : T14) (x15 : T15) (x16 : T16) (x17 : T17) (x18 : T18) (x19 : T19) (x20 : T20) (h : Φ m x1 x2 x3 x4 x5 x6 x7 x8 x9 x10 x11 x12 x13 x14 x15 x16 x17 x18 x19 x20) : LI20 E L G Φ m ⟨E x1 x2 x3 x4 x5 x6 x7 x8 x9 x10 x11 x12 x13 x14 x15 x16 x17 x18 x19 x20, L x1 x2 x3 x4 x5 x6 x7 x8 x9 x10 x11 x12 x13 x14 x15 x16 x17 x18 x19 x20, G⟩
inductive LI21 {T1 T2 T3 T4 T5 T6 T7 T8 T9 T10 T11 T12 T13 T14 T15 T16 T17 T18 T19 T20 T21 : Type} (E : T1 → T2 → T3 → T4 → T5 → T6 → T7 → T8 → T9 → T10 → T11 → T12 → T13 → T14 → T15 → T16 → T17 → T18 → T19 → T20 → T21 → Env) (L : T1 → T2 → T3 → T4 → T5 → T6 → T7 → T8 → T9 → T10 → T11 → T12 → T13 → T14 → T15 → T16 → T17 → T18 → T19 → T20 → T21 → Loc) (G : Objs) (Φ : Nat → T1 → T2 → T3 → T4 → T5 → T6 → T7 → T8 → T9 → T10 → T11 → T12 → T13 → T14 → T15 → T16 → T17 → T18 → T19 → T20 → T21 → Prop) : Nat → St → Prop
  | mk (m : Nat) (x1 : T1) (x2 : T2) (x3 : T3) (x4 : T4) (x5 : T5) (x6 : T6) (x7 : T7) (x8 : T8) (x9 : T9) (x10 : T10) (x11 : T11) (x12 : T12) (x13 : T13) (x14 : T14) (x15 : T15) (x16 : T16) (x17 : T17) (x18 : T18) (x19 : T19) (x20 : T20) (x21 : T21) (h : Φ m x1 x2 x3 x4 x5 x6 x7 x8 x9 x10 x11 x12 x13 x14 x15 x16 x17 x18 x19 x20 x21) : LI21 E L G Φ m ⟨E x1 x2 x3 x4 x5 x6 x7 x8 x9 x10 x11 x12 x13 x14 x15 x16 x17 x18 x19 x20 x21, L x1 x2 x3 x4 x5 x6 x7 x8 x9 x10 x11 x12 x13 x14 x15 x16 x17 x18 x19 x20 x21, G⟩
inductive LI22 {T1 T2 T3 T4 T5 T6 T7 T8 T9 T10 T11 T12 T13 T14 T15 T16 T17 T18 T19 T20 T21 T22 : Type} (E : T1 → T2 → T3 → T4 → T5 → T6 → T7 → T8 → T9 → T10 → T11 → T12 → T13 → T14 → T15 → T16 → T17 → T18 → T19 → T20 → T21 → T22 → Env) (L : T1 → T2 → T3 → T4 → T5 → T6 → T7 → T8 → T9 → T10 → T11 → T12 → T13 → T14 → T15 → T16 → T17 → T18 → T19 → T20 → T21 → T22 → Loc) (G : Objs) (Φ : Nat → T1 → T2 → T3 → T4 → T5 → T6 → T7 → T8 → T9 → T10 → T11 → T12 → T13 → T14 → T15 → T16 → T17 → T18 → T19 → T20 → T21 → T22 → Prop) : Nat → St → Prop
  | mk (m : Nat) (x1 : T1) (x2 : T2) (x3 : T3) (x4 : T4) (x5 : T5) (x6 : T6) (x7 : T7) (x8 : T8) (x9 : T9) (x10 : T10) (x11 : T11) (x12 : T12) (x13 : T13) (x14 : T14) (x15 : T15) (x16 : T16) (x17 : T17) (x18 : T18) (x19 : T19) (x20 : T20) (x21 : T21) (x22 : T22) (h : Φ m x1 x2 x3 x4 x5 x6 x7 x8 x9 x10 x11 x12 x13 x14 x15 x16 x17 x18 x19 x20 x21 x22) : LI22 E L G Φ m ⟨E x1 x2 x3 x4 x5 x6 x7 x8 x9 x10 x11 x12 x13 x14 x15 x16 x17 x18 x19 x20 x21 x22, L x1 x2 x3 x4 x5 x6 x7 x8 x9 x10 x11 x12 x13 x14 x15 x16 x17 x18 x19 x20 x21 x22, G⟩
inductive LI23 {T1 T2 T3 T4 T5 T6 T7 T8 T9 T10 T11 T12 T13 T14 T15 T16 T17 T18 T19 T20 T21 T22 T23 : Type} (E : T1 → T2 → T3 → T4 → T5 → T6 → T7 → T8 → T9 → T10 → T11 → T12 → T13 → T14 → T15 → T16 → T17 → T18 → T19 → T20 → T21 → T22 → T23 → Env) (L : T1 → T2 → T3 → T4 → T5 → T6 → T7 → T8 → T9 → T10 → T11 → T12 → T13 → T14 → T15 → T16 → T17 → T18 → T19 → T20 → T21 → T22 → T23 → Loc) (G : Objs) (Φ : Nat → T1 → T2 → T3 → T4 → T5 → T6 → T7 → T8 → T9 → T10 → T11 → T12 → T13 → T14 → T15 → T16 → T17 → T18 → T19 → T20 → T21 → T22 → T23 → Prop) : Nat → St → Prop
  | mk (m : Nat) (x1 : T1) (x2 : T2) (x3 : T3) (x4 : T4) (x5 : T5) (x6 : T6) (x7 : T7) (x8 : T8) (x9 : T9) (x10 : T10) (x11 : T11) (x12 : T12) (x13 : T13) (x14 : T14) (x15 : T15) (x16 : T16) (x17 : T17) (x18 : T18) (x19 : T19) (x20 : T20) (x21 : T21) (x22 : T22) (x23 : T23) (h : Φ m x1 x2 x3 x4 x5 x6 x7 x8 x9 x10 x11 x12 x13 x14 x15 x16 x17 x18 x19 x20 x21 x22 x23) : LI23 E L G Φ m ⟨E x1 x2 x3 x4 x5 x6 x7 x8 x9 x10 x11 x12 x13 x14 x15 x16 x17 x18 x19 x20 x21 x22 x23, L x1 x2 x3 x4 x5 x6 x7 x8 x9 x10 x11 x12 x13 x14 x15 x16 x17 x18 x19 x20 x21 x22 x23, G⟩
inductive LI24 {T1 T2 T3 T4 T5 T6 T7 T8 T9 T10 T11 T12 T13 T14 T15 T16 T17 T18 T19 T20 T21 T22 T23 T24 : Type} (E : T1 → T2 → T3 → T4 → T5 → T6 → T7 → T8 → T9 → T10 → T11 → T12 → T13 → T14 → T15 → T16 → T17 → T18 → T19 → T20 → T21 → T22 → T23 → T24 → Env) (L : T1 → T2 → T3 → T4 → T5 → T6 → T7 → T8 → T9 → T10 → T11 → T12 → T13 → T14 → T15 → T16 → T17 → T18 → T19 → T20 → T21 → T22 → T23 → T24 → Loc) (G : Objs) (Φ : Nat → T1 → T2 → T3 → T4 → T5 → T6 → T7 → T8 → T9 → T10 → T11 → T12 → T13 → T14 → T15 → T16 → T17 → T18 → T19 → T20 → T21 → T22 → T23 → T24 → Prop) : Nat → St → Prop
  | mk (m : Nat) (x1 : T1) (x2 : T2) (x3 : T3) (x4 : T4) (x5 : T5) (x6 : T6) (x7 : T7) (x8 : T8) (x9 : T9) (x10 : T10) (x11 : T11) (x12 : T12) (x13 : T13) (x14 : T14) (x15 : T15) (x16 : T16) (x17 : T17) (x18 : T18) (x19 : T19) (x20 : T20) (x21 : T21) (x22 : T22) (x23 : T23) (x24 : T24) (h : Φ m x1 x2 x3 x4 x5 x6 x7 x8 x9 x10 x11 x12 x13 x14 x15 x16 x17 x18 x19 x20 x21 x22 x23 x24) : LI24 E L G Φ m ⟨E x1 x2 x3 x4 x5 x6 x7 x8 x9 x10 x11 x12 x13 x14 x15 x16 x17 x18 x19 x20 x21 x22 x23 x24, L x1 x2 x3 x4 x5 x6 x7 x8 x9 x10 x11 x12 x13 x14 x15 x16 x17 x18 x19 x20 x21 x22 x23 x24, G⟩
end Go.AL
end
section
set_option linter.unusedVariables false
set_option linter.unusedSimpArgs false
namespace Go.AL
open Enc
variable {F : Cfg} {T : Task F} {k : List Frm} {e e' : Env} {l l' : Loc} {G : Objs} {ops : Array Oper} {o : Oper} {os : List Oper} {n : Nat}
theorem apl_wop {α : Type} {iE : Enc α} {ys : List α} {c : Call} {b s : Operand} {q : Pl} {t t1 t2 el sz by_ sz2 by2 el2 cw : Nat} {z z2 : List AV} {d : TD} {vs : AV} {cs : List (List AV)} {m : List α} (ho : o.op = .call c) (hc : c.callee = .builtin .append)
    (ha : c.args.toList = [b, s]) (hb : c.argTypes.toList = [t1, t2]) (hdst : o.dst = some t) (h1 : lk F.Δ t1 = some ⟨.slice el, sz, by_, z⟩) (h2 : lk F.Δ t2 = some ⟨.slice el2, sz2, by2, z2⟩)
    (hd : lk F.Δ el = some d) (hs : St.val ⟨e, l, G⟩ s = some vs) (hm : St.slOf ⟨e, l, G⟩ vs = some cs) (hb' : St.val ⟨e, l, G⟩ b = some (.view q)) (hu : St.ownAt ⟨e, l, G⟩ q = some (cw, m.map enc)) (hcw : cw = d.size) (hq : (F.qt && anyG q) = false)
    (a1 : d.zero.length = d.size) (a2 : (match d.k with | .tup | .fn => False | _ => True)) (a3 : 0 < d.bytes) (hx : cs = ys.map enc) (a4 : w α = d.size) (a5 : ∀ x : α, (enc x).all AV.leaf = true)
    (a6 : (m.length + ys.length) * d.bytes ≤ 140737488355328) : wop F.P F.Δ F.qt F.gs ⟨e, l, G⟩ o (fun S => S = St.put (St.take ⟨e, l, G⟩ q) t (.own d.size ((m ++ ys).map enc))) := by
  subst hx hcw
  have hok : apOk d (m.map enc) (ys.map enc) := by
    refine ⟨a1, a2, a3, ?_, ?_, by simpa using a6⟩
    · intro es hes
      obtain ⟨y, _, rfl⟩ := List.mem_map.1 hes; rw [Enc.hw, a4]
    · rw [List.all_eq_true]
      intro y hy
      obtain ⟨cs, h1, h2⟩ := List.mem_flatten.1 hy
      obtain ⟨x, _, rfl⟩ := List.mem_map.1 h1
      exact List.all_eq_true.1 (a5 x) y h2
  unfold wop
  rw [ho]
  simp only [hc, ha, hb]
  unfold wappend
  simp only [h1, h2, hdst, hd, hs, hm, hb', hu]
  exact ⟨hq, trivial, hok, by rw [List.map_append]⟩
theorem oAl {α : Type} {iE : Enc α} (x : α) {c : Call} {b s : Operand} {q : Pl} {t t1 t2 el sz by_ sz2 by2 el2 cw : Nat} {z z2 : List AV} {d : TD} {vs : AV} {m : List α} {S' : St} {cs : List AV} (hk : E3 F T k ops os e' l' G) (ho : o.op = .call c := by exact rfl) (hc : c.callee = .builtin .append := by exact rfl)
    (ha : c.args.toList = [b, s] := by exact rfl) (hb : c.argTypes.toList = [t1, t2] := by exact rfl) (hdst : o.dst = some t := by exact rfl) (hg : o.guard = none := by exact rfl) (h1 : lk F.Δ t1 = some ⟨.slice el, sz, by_, z⟩ := by exact rfl) (h2 : lk F.Δ t2 = some ⟨.slice el2, sz2, by2, z2⟩ := by exact rfl)
    (hd : lk F.Δ el = some d := by exact rfl) (hb' : St.val ⟨e, l, G⟩ b = some (.view q) := by exact rfl) (hu : St.ownAt ⟨e, l, G⟩ q = some (cw, m.map enc) := by exact rfl) (hcw : cw = d.size := by exact rfl) (hs : St.val ⟨e, l, G⟩ s = some vs := by exact rfl) (hm : St.slOf ⟨e, l, G⟩ vs = some ([cs]) := by exact rfl) (hx : cs = enc x := by exact rfl) (hq : (F.qt && anyG q) = false := by exact rfl)
    (a1 : d.zero.length = d.size := by exact rfl) (a2 : (match d.k with | .tup | .fn => False | _ => True) := by exact trivial) (a3 : 0 < d.bytes := by exact Nat.le_of_ble_eq_true rfl) (a4 : w α = d.size := by exact rfl) (a5 : ∀ x : α, (enc x).all AV.leaf = true := by exact fun _ => rfl)
    (a6 : (m.length + 1) * d.bytes ≤ 140737488355328 := by (try dsimp only); omega)
    (hS : St.put (St.take ⟨e, l, G⟩ q) t (.own d.size ((m ++ [x]).map enc)) = S' := by exact rfl)
    (he : S'.env = e' := by ((repeat (refine nlc (m' := ?_) rfl ?_; rotate_left)); exact nln rfl)) (hl : S'.loc = l' := by ((repeat (refine nlp (x' := ?_) (m' := ?_) rfl ?_ ?_; rotate_left 2; focus ((repeat (first | (refine nlc (p := AV.int _ _) (m' := ?_) rfl ?_; rotate_left) | (refine nlc (p := AV.sl _) (m' := ?_) rfl ?_; rotate_left) | (refine nlc (p := AV.bool _) (m' := ?_) rfl ?_; rotate_left) | (refine nlc (p := AV.own _ _) (m' := ?_) rfl ?_; rotate_left) | (refine nlc (p := AV.str _) (m' := ?_) rfl ?_; rotate_left) | (refine nlc (p := AV.emp) (m' := ?_) rfl ?_; rotate_left) | (refine nlc (p := AV.junk) (m' := ?_) rfl ?_; rotate_left) | (refine nlc (p := AV.nilp) (m' := ?_) rfl ?_; rotate_left) | (refine nlc (p := AV.ptrF _) (m' := ?_) rfl ?_; rotate_left) | (refine nlc (p := AV.fn _ _) (m' := ?_) rfl ?_; rotate_left) | (refine nlc (p := AV.ptr _ _) (m' := ?_) rfl ?_; rotate_left))); exact nln rfl))); exact nln rfl)) (hG : S'.G = G := by exact rfl) : E3 F T k ops (o :: os) e l G :=
  o_none hg (apl_wop (ys := [x]) ho hc ha hb hdst h1 h2 hd hs hm hb' hu hcw hq a1 a2 a3 (by rw [hx]; rfl) a4 a5 (by simpa using a6)) (fun S'' hS'' hΔ hd X a w hr => hk.h hΔ hd X a w (by rw [← st_of he hl hG, ← hS, ← hS'']; exact hr))
theorem oMl {α : Type} {iE : Enc α} {ys : List α} {c : Call} {b s : Operand} {q : Pl} {t t1 t2 el sz by_ sz2 by2 el2 cw : Nat} {z z2 : List AV} {d : TD} {vs : AV} {m : List α} {S' : St} (hk : E3 F T k ops os e' l' G) (ho : o.op = .call c := by exact rfl) (hc : c.callee = .builtin .append := by exact rfl)
    (ha : c.args.toList = [b, s] := by exact rfl) (hb : c.argTypes.toList = [t1, t2] := by exact rfl) (hdst : o.dst = some t := by exact rfl) (hg : o.guard = none := by exact rfl) (h1 : lk F.Δ t1 = some ⟨.slice el, sz, by_, z⟩ := by exact rfl) (h2 : lk F.Δ t2 = some ⟨.slice el2, sz2, by2, z2⟩ := by exact rfl)
    (hd : lk F.Δ el = some d := by exact rfl) (hb' : St.val ⟨e, l, G⟩ b = some (.view q) := by exact rfl) (hu : St.ownAt ⟨e, l, G⟩ q = some (cw, m.map enc) := by exact rfl) (hcw : cw = d.size := by exact rfl) (hs : St.val ⟨e, l, G⟩ s = some vs := by exact rfl) (hm : St.slOf ⟨e, l, G⟩ vs = some (ys.map enc) := by exact rfl) (hq : (F.qt && anyG q) = false := by exact rfl)
    (a1 : d.zero.length = d.size := by exact rfl) (a2 : (match d.k with | .tup | .fn => False | _ => True) := by exact trivial) (a3 : 0 < d.bytes := by exact Nat.le_of_ble_eq_true rfl) (a4 : w α = d.size := by exact rfl) (a5 : ∀ x : α, (enc x).all AV.leaf = true := by exact fun _ => rfl)
    (a6 : (m.length + ys.length) * d.bytes ≤ 140737488355328 := by (try dsimp only); omega)
    (hS : St.put (St.take ⟨e, l, G⟩ q) t (.own d.size ((m ++ ys).map enc)) = S' := by exact rfl)
    (he : S'.env = e' := by ((repeat (refine nlc (m' := ?_) rfl ?_; rotate_left)); exact nln rfl)) (hl : S'.loc = l' := by ((repeat (refine nlp (x' := ?_) (m' := ?_) rfl ?_ ?_; rotate_left 2; focus ((repeat (first | (refine nlc (p := AV.int _ _) (m' := ?_) rfl ?_; rotate_left) | (refine nlc (p := AV.sl _) (m' := ?_) rfl ?_; rotate_left) | (refine nlc (p := AV.bool _) (m' := ?_) rfl ?_; rotate_left) | (refine nlc (p := AV.own _ _) (m' := ?_) rfl ?_; rotate_left) | (refine nlc (p := AV.str _) (m' := ?_) rfl ?_; rotate_left) | (refine nlc (p := AV.emp) (m' := ?_) rfl ?_; rotate_left) | (refine nlc (p := AV.junk) (m' := ?_) rfl ?_; rotate_left) | (refine nlc (p := AV.nilp) (m' := ?_) rfl ?_; rotate_left) | (refine nlc (p := AV.ptrF _) (m' := ?_) rfl ?_; rotate_left) | (refine nlc (p := AV.fn _ _) (m' := ?_) rfl ?_; rotate_left) | (refine nlc (p := AV.ptr _ _) (m' := ?_) rfl ?_; rotate_left))); exact nln rfl))); exact nln rfl)) (hG : S'.G = G := by exact rfl) : E3 F T k ops (o :: os) e l G :=
  o_none hg (apl_wop (ys := ys) ho hc ha hb hdst h1 h2 hd hs hm hb' hu hcw hq a1 a2 a3 rfl a4 a5 (by simpa using a6)) (fun S'' hS'' hΔ hd X a w hr => hk.h hΔ hd X a w (by rw [← st_of he hl hG, ← hS, ← hS'']; exact hr))
theorem tAl {α : Type} {iE : Enc α} (x : α) {c : Call} {b s : Operand} {q : Pl} {t t1 t2 el sz by_ sz2 by2 el2 cw : Nat} {z z2 : List AV} {d : TD} {vs : AV} {m : List α} {S' : St} {cs : List AV} (hk : E5 F T k ops os e' l' G) (ho : o.op = .call c := by exact rfl) (hc : c.callee = .builtin .append := by exact rfl)
    (ha : c.args.toList = [b, s] := by exact rfl) (hb : c.argTypes.toList = [t1, t2] := by exact rfl) (hdst : o.dst = some t := by exact rfl) (hg : o.guard = none := by exact rfl) (h1 : lk F.Δ t1 = some ⟨.slice el, sz, by_, z⟩ := by exact rfl) (h2 : lk F.Δ t2 = some ⟨.slice el2, sz2, by2, z2⟩ := by exact rfl)
    (hd : lk F.Δ el = some d := by exact rfl) (hb' : St.val ⟨e, l, G⟩ b = some (.view q) := by exact rfl) (hu : St.ownAt ⟨e, l, G⟩ q = some (cw, m.map enc) := by exact rfl) (hcw : cw = d.size := by exact rfl) (hs : St.val ⟨e, l, G⟩ s = some vs := by exact rfl) (hm : St.slOf ⟨e, l, G⟩ vs = some ([cs]) := by exact rfl) (hx : cs = enc x := by exact rfl) (hq : (F.qt && anyG q) = false := by exact rfl)
    (a1 : d.zero.length = d.size := by exact rfl) (a2 : (match d.k with | .tup | .fn => False | _ => True) := by exact trivial) (a3 : 0 < d.bytes := by exact Nat.le_of_ble_eq_true rfl) (a4 : w α = d.size := by exact rfl) (a5 : ∀ x : α, (enc x).all AV.leaf = true := by exact fun _ => rfl)
    (a6 : (m.length + 1) * d.bytes ≤ 140737488355328 := by (try dsimp only); omega)
    (hS : St.put (St.take ⟨e, l, G⟩ q) t (.own d.size ((m ++ [x]).map enc)) = S' := by exact rfl)
    (he : S'.env = e' := by ((repeat (refine nlc (m' := ?_) rfl ?_; rotate_left)); exact nln rfl)) (hl : S'.loc = l' := by ((repeat (refine nlp (x' := ?_) (m' := ?_) rfl ?_ ?_; rotate_left 2; focus ((repeat (first | (refine nlc (p := AV.int _ _) (m' := ?_) rfl ?_; rotate_left) | (refine nlc (p := AV.sl _) (m' := ?_) rfl ?_; rotate_left) | (refine nlc (p := AV.bool _) (m' := ?_) rfl ?_; rotate_left) | (refine nlc (p := AV.own _ _) (m' := ?_) rfl ?_; rotate_left) | (refine nlc (p := AV.str _) (m' := ?_) rfl ?_; rotate_left) | (refine nlc (p := AV.emp) (m' := ?_) rfl ?_; rotate_left) | (refine nlc (p := AV.junk) (m' := ?_) rfl ?_; rotate_left) | (refine nlc (p := AV.nilp) (m' := ?_) rfl ?_; rotate_left) | (refine nlc (p := AV.ptrF _) (m' := ?_) rfl ?_; rotate_left) | (refine nlc (p := AV.fn _ _) (m' := ?_) rfl ?_; rotate_left) | (refine nlc (p := AV.ptr _ _) (m' := ?_) rfl ?_; rotate_left))); exact nln rfl))); exact nln rfl)) (hG : S'.G = G := by exact rfl) : E5 F T k ops (o :: os) e l G :=
  ⟨by simp only [evOps, hg]; exact wop_mono (fun S hS'' => by rw [hS'', hS, st_of he hl hG]; exact hk.h) (apl_wop (ys := [x]) ho hc ha hb hdst h1 h2 hd hs hm hb' hu hcw hq a1 a2 a3 (by rw [hx]; rfl) a4 a5 (by simpa using a6))⟩
theorem tMl {α : Type} {iE : Enc α} {ys : List α} {c : Call} {b s : Operand} {q : Pl} {t t1 t2 el sz by_ sz2 by2 el2 cw : Nat} {z z2 : List AV} {d : TD} {vs : AV} {m : List α} {S' : St} (hk : E5 F T k ops os e' l' G) (ho : o.op = .call c := by exact rfl) (hc : c.callee = .builtin .append := by exact rfl)
    (ha : c.args.toList = [b, s] := by exact rfl) (hb : c.argTypes.toList = [t1, t2] := by exact rfl) (hdst : o.dst = some t := by exact rfl) (hg : o.guard = none := by exact rfl) (h1 : lk F.Δ t1 = some ⟨.slice el, sz, by_, z⟩ := by exact rfl) (h2 : lk F.Δ t2 = some ⟨.slice el2, sz2, by2, z2⟩ := by exact rfl)
    (hd : lk F.Δ el = some d := by exact rfl) (hb' : St.val ⟨e, l, G⟩ b = some (.view q) := by exact rfl) (hu : St.ownAt ⟨e, l, G⟩ q = some (cw, m.map enc) := by exact rfl) (hcw : cw = d.size := by exact rfl) (hs : St.val ⟨e, l, G⟩ s = some vs := by exact rfl) (hm : St.slOf ⟨e, l, G⟩ vs = some (ys.map enc) := by exact rfl) (hq : (F.qt && anyG q) = false := by exact rfl)
    (a1 : d.zero.length = d.size := by exact rfl) (a2 : (match d.k with | .tup | .fn => False | _ => True) := by exact trivial) (a3 : 0 < d.bytes := by exact Nat.le_of_ble_eq_true rfl) (a4 : w α = d.size := by exact rfl) (a5 : ∀ x : α, (enc x).all AV.leaf = true := by exact fun _ => rfl)
    (a6 : (m.length + ys.length) * d.bytes ≤ 140737488355328 := by (try dsimp only); omega)
    (hS : St.put (St.take ⟨e, l, G⟩ q) t (.own d.size ((m ++ ys).map enc)) = S' := by exact rfl)
    (he : S'.env = e' := by ((repeat (refine nlc (m' := ?_) rfl ?_; rotate_left)); exact nln rfl)) (hl : S'.loc = l' := by ((repeat (refine nlp (x' := ?_) (m' := ?_) rfl ?_ ?_; rotate_left 2; focus ((repeat (first | (refine nlc (p := AV.int _ _) (m' := ?_) rfl ?_; rotate_left) | (refine nlc (p := AV.sl _) (m' := ?_) rfl ?_; rotate_left) | (refine nlc (p := AV.bool _) (m' := ?_) rfl ?_; rotate_left) | (refine nlc (p := AV.own _ _) (m' := ?_) rfl ?_; rotate_left) | (refine nlc (p := AV.str _) (m' := ?_) rfl ?_; rotate_left) | (refine nlc (p := AV.emp) (m' := ?_) rfl ?_; rotate_left) | (refine nlc (p := AV.junk) (m' := ?_) rfl ?_; rotate_left) | (refine nlc (p := AV.nilp) (m' := ?_) rfl ?_; rotate_left) | (refine nlc (p := AV.ptrF _) (m' := ?_) rfl ?_; rotate_left) | (refine nlc (p := AV.fn _ _) (m' := ?_) rfl ?_; rotate_left) | (refine nlc (p := AV.ptr _ _) (m' := ?_) rfl ?_; rotate_left))); exact nln rfl))); exact nln rfl)) (hG : S'.G = G := by exact rfl) : E5 F T k ops (o :: os) e l G :=
  ⟨by simp only [evOps, hg]; exact wop_mono (fun S hS'' => by rw [hS'', hS, st_of he hl hG]; exact hk.h) (apl_wop (ys := ys) ho hc ha hb hdst h1 h2 hd hs hm hb' hu hcw hq a1 a2 a3 rfl a4 a5 (by simpa using a6))⟩
theorem fzo (q : Pl) {c : Code} {cw : Nat} {m : List (List AV)} {S' : St} (hk : E1 F T k c e' l' G) (hw : St.ownAt ⟨e, l, G⟩ q = some (cw, m) := by exact rfl) (hq : (F.qt && anyG q) = false := by exact rfl) (hS : frz1 ⟨e, l, G⟩ q = S' := by exact rfl)
    (he : S'.env = e' := by ((repeat (refine nlc (m' := ?_) rfl ?_; rotate_left)); exact nln rfl)) (hl : S'.loc = l' := by ((repeat (refine nlp (x' := ?_) (m' := ?_) rfl ?_ ?_; rotate_left 2; focus ((repeat (first | (refine nlc (p := AV.int _ _) (m' := ?_) rfl ?_; rotate_left) | (refine nlc (p := AV.sl _) (m' := ?_) rfl ?_; rotate_left) | (refine nlc (p := AV.bool _) (m' := ?_) rfl ?_; rotate_left) | (refine nlc (p := AV.own _ _) (m' := ?_) rfl ?_; rotate_left) | (refine nlc (p := AV.str _) (m' := ?_) rfl ?_; rotate_left) | (refine nlc (p := AV.emp) (m' := ?_) rfl ?_; rotate_left) | (refine nlc (p := AV.junk) (m' := ?_) rfl ?_; rotate_left) | (refine nlc (p := AV.nilp) (m' := ?_) rfl ?_; rotate_left) | (refine nlc (p := AV.ptrF _) (m' := ?_) rfl ?_; rotate_left) | (refine nlc (p := AV.fn _ _) (m' := ?_) rfl ?_; rotate_left) | (refine nlc (p := AV.ptr _ _) (m' := ?_) rfl ?_; rotate_left))); exact nln rfl))); exact nln rfl)) (hG : S'.G = G := by exact rfl) : E1 F T k c e l G := by
  refine ⟨fun hc X a w hr => ?_⟩
  obtain ⟨X', h1, h2⟩ := hr.rx.frz1 (q := q) hq
  rw [hS, st_of he hl hG] at h1
  exact hk.h hc X' a w ⟨h1, hr.n, hr.d, hr.fs.trans h2⟩
theorem vBS {P : Program} {Δ : Tab} {S : St} {t1 n : Nat} {ps : Array (Nat × Operand)} {el sz by_ : Nat} {z : List AV} {d : TD} {cs : List AV} {rows : List (List AV)} (h1 : lk Δ t1 = some ⟨.slice el, sz, by_, z⟩ := by exact rfl) (h2 : lk Δ el = some d := by exact rfl)
    (h3 : (n + 1) * d.size ≤ 16777216 := by exact Nat.le_of_ble_eq_true rfl) (h4 : d.zero.length = d.size := by exact rfl) (h5 : (match d.k with | .tup | .fn => False | _ => True) := by exact trivial)
    (h6 : fillB S (fun i => some (i * d.size, d.size)) (zeros d.zero (n + 1)) ps.toList = some cs := by exact rfl)
    (h7 : chop d.size (n + 1) cs = rows := by ((repeat (refine nlr (x' := ?_) (m' := ?_) rfl ?_ ?_; rotate_left 2; focus ((repeat (first | (refine nlc (p := AV.int _ _) (m' := ?_) rfl ?_; rotate_left) | (refine nlc (p := AV.sl _) (m' := ?_) rfl ?_; rotate_left) | (refine nlc (p := AV.bool _) (m' := ?_) rfl ?_; rotate_left) | (refine nlc (p := AV.own _ _) (m' := ?_) rfl ?_; rotate_left) | (refine nlc (p := AV.str _) (m' := ?_) rfl ?_; rotate_left) | (refine nlc (p := AV.emp) (m' := ?_) rfl ?_; rotate_left) | (refine nlc (p := AV.junk) (m' := ?_) rfl ?_; rotate_left) | (refine nlc (p := AV.nilp) (m' := ?_) rfl ?_; rotate_left) | (refine nlc (p := AV.ptrF _) (m' := ?_) rfl ?_; rotate_left) | (refine nlc (p := AV.fn _ _) (m' := ?_) rfl ?_; rotate_left) | (refine nlc (p := AV.ptr _ _) (m' := ?_) rfl ?_; rotate_left))); exact nln rfl))); exact nln rfl)) : QV P Δ S (.buildSlice t1 (n + 1) ps) (.sl rows) := by
  refine ⟨?_⟩
  simp only [qop]
  unfold qbslice
  simp only [h1, h2, h6]
  exact ⟨h3, h4, h5, by rw [h7]⟩
end Go.AL
end
