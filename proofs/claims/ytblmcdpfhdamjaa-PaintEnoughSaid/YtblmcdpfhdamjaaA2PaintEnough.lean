/- Our own text: a logic over abstract values for the model of Go (the part of it that the law PaintEnough needs; in 3 texts, this is the one numbered 3). -/
import Derived.Test.YtblmcdpfhdamjaaA1PaintEnough
section
set_option linter.unusedVariables false
set_option linter.unusedSimpArgs false
namespace Go.AL
open Enc
variable {F : Cfg} {T : Task F} {k : List Frm} {K Q : St → Prop} {e e' : Env} {l l' : Loc} {G : Objs} {ops : Array Oper} {o : Oper} {os : List Oper} {n : Nat}

theorem dQ {v : AV} {t : Nat} (h : QV F.P F.Δ ⟨e, l, G⟩ o.op v) (hk : E4 F K ops os e' l G) (hd : o.dst = some t := by exact rfl) (hg : o.guard = none := by exact rfl) (hc : v.copyable = true := by exact rfl)
    (he : up e t v = e' := by ((repeat (refine nlc (m' := ?_) rfl ?_; rotate_left)); exact nln rfl)) : E4 F K ops (o :: os) e l G :=
  ⟨by simp only [evQ, hg, hd]; exact qop_mono (fun x hx => by subst hx; subst he; exact ⟨hc, hk.h⟩) h.h⟩
theorem dW {v : AV} {t : Nat} (hk : E4 F K ops os e' l G) (hg : o.guard = none := by exact rfl)
    (h : qop F.P F.Δ ⟨e, l, G⟩ o.op (fun x => x = v) := by first | exact rfl | exact ⟨rfl, rfl⟩ | exact ⟨rfl, rfl, rfl⟩ | exact ⟨_, rfl, rfl⟩ | exact ⟨Nat.le_of_ble_eq_true rfl, rfl⟩ | exact ⟨Nat.le_of_ble_eq_true rfl, rfl, rfl⟩ | exact ⟨trivial, rfl⟩ | exact ⟨rfl, rfl, rfl, rfl, rfl, Nat.le_of_ble_eq_true rfl, rfl⟩ | exact ⟨rfl, rfl, rfl, Nat.le_of_ble_eq_true rfl, rfl⟩ | exact ⟨rfl, Nat.le_of_ble_eq_true rfl, rfl, trivial, rfl⟩ | exact ⟨Nat.ne_of_beq_eq_false rfl, rfl⟩ | exact ⟨by first | omega | assumption, rfl⟩ | exact ⟨rfl, by first | omega | assumption, rfl⟩ | exact ⟨by omega, by omega, by omega, rfl⟩ | exact ⟨by omega, by omega, by omega, by omega, rfl⟩)
    (hd : o.dst = some t := by exact rfl) (hc : v.copyable = true := by exact rfl)
    (he : up e t v = e' := by ((repeat (refine nlc (m' := ?_) rfl ?_; rotate_left)); exact nln rfl)) : E4 F K ops (o :: os) e l G := dQ ⟨h⟩ hk hd hg hc he
theorem evqg {K : St → Prop} {S : St} {j t u : Nat} {w p : Bool} (hd : o.dst = some u) (hg : o.guard = some (j, w)) (ht : gtmp ops j = some t) (hv : S.get t = some (.bool p)) (h1 : p = w → qop F.P F.Δ (S.setb t w) o.op (fun v => v.copyable = true ∧ evQ F.P F.Δ ops K os ((S.setb t w).add u v)))
    (h2 : p = (!w) → evQ F.P F.Δ ops K os ((S.setb t (!w)).add u (.tup []))) : evQ F.P F.Δ ops K (o :: os) S := by
  simp only [evQ, hd, hg, ht, hv]
  exact ⟨h1, h2⟩
theorem dYq {j t u : Nat} {w p : Bool} {v : AV} (h : QV F.P F.Δ ⟨e, l, G⟩ o.op v) (hk : E4 F K ops os e' l G) (hd : o.dst = some u := by exact rfl) (hg : o.guard = some (j, w) := by exact rfl) (ht : gtmp ops j = some t := by exact rfl) (hv : lk e t = some (.bool p) := by exact rfl) (hp : p = w := by with_reducible exact rfl) (hc : v.copyable = true := by exact rfl)
    (he : up e u v = e' := by ((repeat (refine nlc (m' := ?_) rfl ?_; rotate_left)); exact nln rfl)) : E4 F K ops (o :: os) e l G := by
  have hv := hp ▸ hv
  refine ⟨evqg hd hg ht hv (fun _ => ?_) (fun h => by cases w <;> cases h)⟩
  simp only [St.setb, up_same hv]
  exact qop_mono (fun x hx => by subst hx; subst he; exact ⟨hc, hk.h⟩) h.h
theorem dY {j t u : Nat} {w p : Bool} {v : AV} (hk : E4 F K ops os e' l G) (hg : o.guard = some (j, w) := by exact rfl) (ht : gtmp ops j = some t := by exact rfl) (hv : lk e t = some (.bool p) := by exact rfl) (hp : p = w := by with_reducible exact rfl)
    (h : qop F.P F.Δ ⟨e, l, G⟩ o.op (fun x => x = v) := by first | exact rfl | exact ⟨rfl, rfl⟩ | exact ⟨rfl, rfl, rfl⟩ | exact ⟨_, rfl, rfl⟩ | exact ⟨Nat.le_of_ble_eq_true rfl, rfl⟩ | exact ⟨Nat.le_of_ble_eq_true rfl, rfl, rfl⟩ | exact ⟨trivial, rfl⟩ | exact ⟨rfl, rfl, rfl, rfl, rfl, Nat.le_of_ble_eq_true rfl, rfl⟩ | exact ⟨rfl, rfl, rfl, Nat.le_of_ble_eq_true rfl, rfl⟩ | exact ⟨rfl, Nat.le_of_ble_eq_true rfl, rfl, trivial, rfl⟩ | exact ⟨Nat.ne_of_beq_eq_false rfl, rfl⟩ | exact ⟨by first | omega | assumption, rfl⟩ | exact ⟨rfl, by first | omega | assumption, rfl⟩ | exact ⟨by omega, by omega, by omega, rfl⟩ | exact ⟨by omega, by omega, by omega, by omega, rfl⟩)
    (hd : o.dst = some u := by exact rfl) (hc : v.copyable = true := by exact rfl)
    (he : up e u v = e' := by ((repeat (refine nlc (m' := ?_) rfl ?_; rotate_left)); exact nln rfl)) : E4 F K ops (o :: os) e l G := dYq ⟨h⟩ hk hd hg ht hv hp hc he
theorem dN {j t u : Nat} {p : Bool} (hk : E4 F K ops os e' l G) (hg : o.guard = some (j, true) := by exact rfl) (ht : gtmp ops j = some t := by exact rfl) (hv : lk e t = some (.bool p) := by exact rfl) (hw : p = false := by with_reducible exact rfl) (hd : o.dst = some u := by exact rfl)
    (he : up e u (.tup []) = e' := by ((repeat (refine nlc (m' := ?_) rfl ?_; rotate_left)); exact nln rfl)) : E4 F K ops (o :: os) e l G := by
  subst hw
  refine ⟨evqg hd hg ht hv (fun h => by cases h) (fun _ => ?_)⟩
  show evQ F.P F.Δ ops _ os ⟨up (up e t (.bool false)) u (.tup []), l, G⟩
  rw [up_same hv]
  subst he
  exact hk.h
theorem dNf {j t u : Nat} {p : Bool} (hk : E4 F K ops os e' l G) (hg : o.guard = some (j, false) := by exact rfl) (ht : gtmp ops j = some t := by exact rfl) (hv : lk e t = some (.bool p) := by exact rfl) (hw : p = true := by with_reducible exact rfl) (hd : o.dst = some u := by exact rfl)
    (he : up e u (.tup []) = e' := by ((repeat (refine nlc (m' := ?_) rfl ?_; rotate_left)); exact nln rfl)) : E4 F K ops (o :: os) e l G := by
  subst hw
  refine ⟨evqg hd hg ht hv (fun h => by cases h) (fun _ => ?_)⟩
  show evQ F.P F.Δ ops _ os ⟨up (up e t (.bool true)) u (.tup []), l, G⟩
  rw [up_same hv]
  subst he
  exact hk.h
theorem dT {j t u : Nat} {w : Bool} (hk : E4 F K ops os e' l G) (hg : o.guard = some (j, w) := by exact rfl) (ht : gtmp ops j = some t := by exact rfl) (hv : lk e t = some (.tup []) := by exact rfl) (hd : o.dst = some u := by exact rfl)
    (he : up e u (.tup []) = e' := by ((repeat (refine nlc (m' := ?_) rfl ?_; rotate_left)); exact nln rfl)) : E4 F K ops (o :: os) e l G := by
  refine ⟨?_⟩
  simp only [evQ, hg, ht, St.get, hv, hd]
  subst he
  exact hk.h
theorem dS {j t : Nat} {w p : Bool} {e1 e2 : Env} (h1 : p = true → E4 F K ops (o :: os) e1 l G) (h2 : p = false → E4 F K ops (o :: os) e2 l G) (hg : o.guard = some (j, w) := by exact rfl) (ht : gtmp ops j = some t := by exact rfl) (hv : lk e t = some (.bool p) := by exact rfl)
    (he1 : up e t (.bool true) = e1 := by ((repeat (refine nlc (m' := ?_) rfl ?_; rotate_left)); exact nln rfl)) (he2 : up e t (.bool false) = e2 := by ((repeat (refine nlc (m' := ?_) rfl ?_; rotate_left)); exact nln rfl)) : E4 F K ops (o :: os) e l G := by
  cases p
  · rw [up_same hv] at he2; subst he2; exact h2 rfl
  · rw [up_same hv] at he1; subst he1; exact h1 rfl
theorem dif_ {j t : Nat} {w p : Bool} {e1 e2 : Env} {P : Prop} {dP : Decidable P} {α : Type} {X Y : Option α} {r : α} (h : (if P then X else Y) = some r) (h1 : P → X = some r → E4 F K ops (o :: os) e1 l G) (h2 : ¬ P → Y = some r → E4 F K ops (o :: os) e2 l G)
    (hg : o.guard = some (j, w) := by exact rfl) (ht : gtmp ops j = some t := by exact rfl) (hv : lk e t = some (.bool p) := by exact rfl) (hp : p = decide P := by with_reducible exact rfl)
    (he1 : up e t (.bool true) = e1 := by ((repeat (refine nlc (m' := ?_) rfl ?_; rotate_left)); exact nln rfl)) (he2 : up e t (.bool false) = e2 := by ((repeat (refine nlc (m' := ?_) rfl ?_; rotate_left)); exact nln rfl)) : E4 F K ops (o :: os) e l G := by
  refine dS (p := p) (fun e => ?_) (fun e => ?_) hg ht hv he1 he2
  · have c : P := of_decide_eq_true (hp ▸ e)
    rw [if_pos c] at h; exact h1 c h
  · have c : ¬ P := of_decide_eq_false (hp ▸ e)
    rw [if_neg c] at h; exact h2 c h
theorem dif_s {j t : Nat} {w p : Bool} {e1 e2 : Env} {P : Prop} {dP : Decidable P} {α : Type} {X Y : Option α} {r : α} (h : (if P then X else Y) = some r) (h1 : P → X = some r → E4 F K ops (o :: os) e1 l G) (h2 : ¬ P → Y = some r → E4 F K ops (o :: os) e2 l G)
    (hg : o.guard = some (j, w) := by exact rfl) (ht : gtmp ops j = some t := by exact rfl) (hv : lk e t = some (.bool p) := by exact rfl) (hp : p = decide P := by first | exact rfl | exact dtt _ | (simp <;> fail))
    (he1 : up e t (.bool true) = e1 := by ((repeat (refine nlc (m' := ?_) rfl ?_; rotate_left)); exact nln rfl)) (he2 : up e t (.bool false) = e2 := by ((repeat (refine nlc (m' := ?_) rfl ?_; rotate_left)); exact nln rfl)) : E4 F K ops (o :: os) e l G := by
  refine dS (p := p) (fun e => ?_) (fun e => ?_) hg ht hv he1 he2
  · have c : P := of_decide_eq_true (hp ▸ e)
    rw [if_pos c] at h; exact h1 c h
  · have c : ¬ P := of_decide_eq_false (hp ▸ e)
    rw [if_neg c] at h; exact h2 c h
theorem dfi {j t : Nat} {w p : Bool} {e1 e2 : Env} {P : Prop} {dP : Decidable P} {α : Type} {X Y : Option α} {r : α} (h : (if P then X else Y) = some r) (h1 : P → X = some r → E4 F K ops (o :: os) e2 l G) (h2 : ¬ P → Y = some r → E4 F K ops (o :: os) e1 l G)
    (hg : o.guard = some (j, w) := by exact rfl) (ht : gtmp ops j = some t := by exact rfl) (hv : lk e t = some (.bool p) := by exact rfl) (hp : p = !decide P := by with_reducible exact rfl)
    (he1 : up e t (.bool true) = e1 := by ((repeat (refine nlc (m' := ?_) rfl ?_; rotate_left)); exact nln rfl)) (he2 : up e t (.bool false) = e2 := by ((repeat (refine nlc (m' := ?_) rfl ?_; rotate_left)); exact nln rfl)) : E4 F K ops (o :: os) e l G := by
  refine dS (p := p) (fun e => ?_) (fun e => ?_) hg ht hv he1 he2
  · have c : ¬ P := fun c => by simp [hp, c] at e
    rw [if_neg c] at h; exact h2 c h
  · have c : P := Classical.byContradiction fun c => by simp [hp, c] at e
    rw [if_pos c] at h; exact h1 c h
theorem dfis {j t : Nat} {w p : Bool} {e1 e2 : Env} {P : Prop} {dP : Decidable P} {α : Type} {X Y : Option α} {r : α} (h : (if P then X else Y) = some r) (h1 : P → X = some r → E4 F K ops (o :: os) e2 l G) (h2 : ¬ P → Y = some r → E4 F K ops (o :: os) e1 l G)
    (hg : o.guard = some (j, w) := by exact rfl) (ht : gtmp ops j = some t := by exact rfl) (hv : lk e t = some (.bool p) := by exact rfl) (hp : p = !decide P := by first | exact rfl | (simp <;> fail))
    (he1 : up e t (.bool true) = e1 := by ((repeat (refine nlc (m' := ?_) rfl ?_; rotate_left)); exact nln rfl)) (he2 : up e t (.bool false) = e2 := by ((repeat (refine nlc (m' := ?_) rfl ?_; rotate_left)); exact nln rfl)) : E4 F K ops (o :: os) e l G := by
  refine dS (p := p) (fun e => ?_) (fun e => ?_) hg ht hv he1 he2
  · have c : ¬ P := fun c => by simp [hp, c] at e
    rw [if_neg c] at h; exact h2 c h
  · have c : P := Classical.byContradiction fun c => by simp [hp, c] at e
    rw [if_pos c] at h; exact h1 c h
theorem dE {os os' : List Oper} (hk : E5 F Q ops os e l G) (h' : ops = os'.toArray := by exact rfl) (hn : lit? n = none := by exact rfl) (h : os'.drop (tl n) = os := by ((repeat (refine nlc (m' := ?_) rfl ?_; rotate_left)); exact nln rfl)) : E4 F (TailK F Q ops n) ops [] e l G :=
  ⟨⟨by subst h; subst h'; exact ⟨hk.h, fun u a b t h1 => by rw [hn] at h1; cases h1⟩⟩⟩
theorem dEl {os os' : List Oper} {u t : Nat} {a b : Oper} (hk : E5 F Q ops (b :: os) e l G) (hk2 : E5 F Q ops (b :: a :: os) e' l G) (h' : ops = os'.toArray := by exact rfl) (hn : lit? n = some u := by exact rfl) (h : os'.drop (tl n) = b :: os := by ((repeat (refine nlc (m' := ?_) rfl ?_; rotate_left)); exact nln rfl)) (ha : os'[u]? = some a := by exact rfl) (ht : a.dst = some t := by exact rfl)
    (he : rm e t = e' := by ((repeat (refine nlc (m' := ?_) rfl ?_; rotate_left)); exact nln rfl)) : E4 F (TailK F Q ops n) ops [] e l G := by
  refine ⟨⟨?_⟩⟩
  subst he h'
  refine ⟨by rw [List.toList_toArray, h]; exact hk.h, fun u' a' b' t' h1 h2 h3 h4 => ?_⟩
  rw [hn] at h1; cases h1
  have e1 : os'[u]? = some a' := by simpa using h2
  rw [ha] at e1; cases e1
  rw [ht] at h4; cases h4
  have e2 : (os'.drop (tl n))[0]? = some b' := by rw [List.getElem?_drop]; simpa using h3
  rw [h] at e2; cases e2
  have e3 : os'.drop (tl n + 1) = os := by rw [← List.drop_drop, h]; rfl
  rw [List.toList_toArray, e3]
  exact hk2.h
theorem tW {S' : St} (hk : E5 F Q ops os e' l' G) (hg : o.guard = none := by exact rfl)
    (h : wop F.P F.Δ F.qt F.gs ⟨e, l, G⟩ o (fun S => S = S') := by first | exact rfl | exact ⟨rfl, rfl⟩ | exact ⟨rfl, rfl, rfl⟩ | exact ⟨_, rfl, rfl⟩ | exact ⟨Nat.le_of_ble_eq_true rfl, rfl⟩ | exact ⟨Nat.le_of_ble_eq_true rfl, rfl, rfl⟩ | exact ⟨trivial, rfl⟩ | exact ⟨rfl, rfl, rfl, rfl, rfl, Nat.le_of_ble_eq_true rfl, rfl⟩ | exact ⟨rfl, rfl, rfl, Nat.le_of_ble_eq_true rfl, rfl⟩ | exact ⟨rfl, Nat.le_of_ble_eq_true rfl, rfl, trivial, rfl⟩ | exact ⟨Nat.ne_of_beq_eq_false rfl, rfl⟩ | exact ⟨by first | omega | assumption, rfl⟩ | exact ⟨rfl, by first | omega | assumption, rfl⟩ | exact ⟨by omega, by omega, by omega, rfl⟩ | exact ⟨by omega, by omega, by omega, by omega, rfl⟩) (he : S'.env = e' := by ((repeat (refine nlc (m' := ?_) rfl ?_; rotate_left)); exact nln rfl)) (hl : S'.loc = l' := by ((repeat (refine nlp (x' := ?_) (m' := ?_) rfl ?_ ?_; rotate_left 2; focus ((repeat (first | (refine nlc (p := AV.int _ _) (m' := ?_) rfl ?_; rotate_left) | (refine nlc (p := AV.sl _) (m' := ?_) rfl ?_; rotate_left) | (refine nlc (p := AV.bool _) (m' := ?_) rfl ?_; rotate_left) | (refine nlc (p := AV.own _ _) (m' := ?_) rfl ?_; rotate_left) | (refine nlc (p := AV.str _) (m' := ?_) rfl ?_; rotate_left) | (refine nlc (p := AV.emp) (m' := ?_) rfl ?_; rotate_left) | (refine nlc (p := AV.junk) (m' := ?_) rfl ?_; rotate_left) | (refine nlc (p := AV.nilp) (m' := ?_) rfl ?_; rotate_left) | (refine nlc (p := AV.ptrF _) (m' := ?_) rfl ?_; rotate_left) | (refine nlc (p := AV.fn _ _) (m' := ?_) rfl ?_; rotate_left) | (refine nlc (p := AV.ptr _ _) (m' := ?_) rfl ?_; rotate_left))); exact nln rfl))); exact nln rfl)) (hG : S'.G = G := by exact rfl) : E5 F Q ops (o :: os) e l G :=
  ⟨by simp only [evOps, hg]; exact wop_mono (fun S hS => by rw [hS, st_of he hl hG]; exact hk.h) h⟩
theorem tQ {v : AV} {t : Nat} (h : QV F.P F.Δ ⟨e, l, G⟩ o.op v) (hk : E5 F Q ops os e' l G) (hd : o.dst = some t := by exact rfl) (hg : o.guard = none := by exact rfl) (hq : isQ o = true := by exact rfl)
    (he : up (kl (AV.refs (.t t)) e) t v = e' := by ((repeat (refine nlc (m' := ?_) rfl ?_; rotate_left)); exact nln rfl)) : E5 F Q ops (o :: os) e l G :=
  ⟨by simp only [evOps, hg]; exact wop_mono (fun S hS => by rw [hS, st_of (S := St.put ⟨e, l, G⟩ t v) he rfl rfl]; exact hk.h) (q_wop h hd hq)⟩

theorem evgt {Q : St → Prop} {S : St} {j t : Nat} {w p : Bool} (hg : o.guard = some (j, w)) (ht : gtmp ops j = some t) (hv : S.get t = some (.bool p)) (h1 : p = w → wop F.P F.Δ F.qt F.gs (S.setb t w) o (evOps F.P F.Δ F.qt F.gs ops Q os))
    (h2 : p = (!w) → evOps F.P F.Δ F.qt F.gs ops Q os ((S.setb t (!w)).puto o.dst (.tup []))) : evOps F.P F.Δ F.qt F.gs ops Q (o :: os) S := by
  simp only [evOps, hg, ht, hv]
  exact ⟨h1, h2⟩
theorem tY {j t : Nat} {w p : Bool} {S' : St} (hk : E5 F Q ops os e' l' G) (hg : o.guard = some (j, w) := by exact rfl) (ht : gtmp ops j = some t := by exact rfl) (hv : lk e t = some (.bool p) := by exact rfl) (hp : p = w := by with_reducible exact rfl)
    (h : wop F.P F.Δ F.qt F.gs ⟨e, l, G⟩ o (fun S => S = S') := by first | exact rfl | exact ⟨rfl, rfl⟩ | exact ⟨rfl, rfl, rfl⟩ | exact ⟨_, rfl, rfl⟩ | exact ⟨Nat.le_of_ble_eq_true rfl, rfl⟩ | exact ⟨Nat.le_of_ble_eq_true rfl, rfl, rfl⟩ | exact ⟨trivial, rfl⟩ | exact ⟨rfl, rfl, rfl, rfl, rfl, Nat.le_of_ble_eq_true rfl, rfl⟩ | exact ⟨rfl, rfl, rfl, Nat.le_of_ble_eq_true rfl, rfl⟩ | exact ⟨rfl, Nat.le_of_ble_eq_true rfl, rfl, trivial, rfl⟩ | exact ⟨Nat.ne_of_beq_eq_false rfl, rfl⟩ | exact ⟨by first | omega | assumption, rfl⟩ | exact ⟨rfl, by first | omega | assumption, rfl⟩ | exact ⟨by omega, by omega, by omega, rfl⟩ | exact ⟨by omega, by omega, by omega, by omega, rfl⟩) (he : S'.env = e' := by ((repeat (refine nlc (m' := ?_) rfl ?_; rotate_left)); exact nln rfl)) (hl : S'.loc = l' := by ((repeat (refine nlp (x' := ?_) (m' := ?_) rfl ?_ ?_; rotate_left 2; focus ((repeat (first | (refine nlc (p := AV.int _ _) (m' := ?_) rfl ?_; rotate_left) | (refine nlc (p := AV.sl _) (m' := ?_) rfl ?_; rotate_left) | (refine nlc (p := AV.bool _) (m' := ?_) rfl ?_; rotate_left) | (refine nlc (p := AV.own _ _) (m' := ?_) rfl ?_; rotate_left) | (refine nlc (p := AV.str _) (m' := ?_) rfl ?_; rotate_left) | (refine nlc (p := AV.emp) (m' := ?_) rfl ?_; rotate_left) | (refine nlc (p := AV.junk) (m' := ?_) rfl ?_; rotate_left) | (refine nlc (p := AV.nilp) (m' := ?_) rfl ?_; rotate_left) | (refine nlc (p := AV.ptrF _) (m' := ?_) rfl ?_; rotate_left) | (refine nlc (p := AV.fn _ _) (m' := ?_) rfl ?_; rotate_left) | (refine nlc (p := AV.ptr _ _) (m' := ?_) rfl ?_; rotate_left))); exact nln rfl))); exact nln rfl)) (hG : S'.G = G := by exact rfl) : E5 F Q ops (o :: os) e l G := by
  have hv := hp ▸ hv
  refine ⟨evgt hg ht hv (fun _ => ?_) (fun h => by cases w <;> cases h)⟩
  simp only [St.setb, up_same hv]
  exact wop_mono (fun S hS => by rw [hS, st_of he hl hG]; exact hk.h) h
theorem tYq {j t u : Nat} {w p : Bool} {v : AV} (h : QV F.P F.Δ ⟨e, l, G⟩ o.op v) (hk : E5 F Q ops os e' l G) (hd : o.dst = some u := by exact rfl) (hg : o.guard = some (j, w) := by exact rfl) (ht : gtmp ops j = some t := by exact rfl) (hv : lk e t = some (.bool p) := by exact rfl) (hp : p = w := by with_reducible exact rfl) (hq : isQ o = true := by exact rfl)
    (he : up (kl (AV.refs (.t u)) e) u v = e' := by ((repeat (refine nlc (m' := ?_) rfl ?_; rotate_left)); exact nln rfl)) : E5 F Q ops (o :: os) e l G :=
  tY hk hg ht hv hp (q_wop h hd hq) he rfl rfl
theorem tN {j t u : Nat} {p : Bool} (hk : E5 F Q ops os e' l G) (hg : o.guard = some (j, true) := by exact rfl) (ht : gtmp ops j = some t := by exact rfl) (hv : lk e t = some (.bool p) := by exact rfl) (hp : p = false := by with_reducible exact rfl) (hd : o.dst = some u := by exact rfl)
    (he : up (kl (AV.refs (.t u)) e) u (.tup []) = e' := by ((repeat (refine nlc (m' := ?_) rfl ?_; rotate_left)); exact nln rfl)) : E5 F Q ops (o :: os) e l G := by
  subst hp
  refine ⟨evgt hg ht hv (fun h => by cases h) (fun _ => ?_)⟩
  show evOps F.P F.Δ F.qt F.gs ops _ os (St.puto ⟨up e t (.bool false), l, G⟩ o.dst (.tup []))
  rw [up_same hv, hd]
  subst he
  exact hk.h
theorem tNf {j t u : Nat} {p : Bool} (hk : E5 F Q ops os e' l G) (hg : o.guard = some (j, false) := by exact rfl) (ht : gtmp ops j = some t := by exact rfl) (hv : lk e t = some (.bool p) := by exact rfl) (hp : p = true := by with_reducible exact rfl) (hd : o.dst = some u := by exact rfl)
    (he : up (kl (AV.refs (.t u)) e) u (.tup []) = e' := by ((repeat (refine nlc (m' := ?_) rfl ?_; rotate_left)); exact nln rfl)) : E5 F Q ops (o :: os) e l G := by
  subst hp
  refine ⟨evgt hg ht hv (fun h => by cases h) (fun _ => ?_)⟩
  show evOps F.P F.Δ F.qt F.gs ops _ os (St.puto ⟨up e t (.bool true), l, G⟩ o.dst (.tup []))
  rw [up_same hv, hd]
  subst he
  exact hk.h
theorem tT {j t u : Nat} {w : Bool} (hk : E5 F Q ops os e' l G) (hg : o.guard = some (j, w) := by exact rfl) (ht : gtmp ops j = some t := by exact rfl) (hv : lk e t = some (.tup []) := by exact rfl) (hd : o.dst = some u := by exact rfl)
    (he : up (kl (AV.refs (.t u)) e) u (.tup []) = e' := by ((repeat (refine nlc (m' := ?_) rfl ?_; rotate_left)); exact nln rfl)) : E5 F Q ops (o :: os) e l G := by
  refine ⟨?_⟩
  simp only [evOps, hg, ht, St.get, hv, hd]
  subst he
  exact hk.h
theorem tS {j t : Nat} {w p : Bool} {e1 e2 : Env} (h1 : p = true → E5 F Q ops (o :: os) e1 l G) (h2 : p = false → E5 F Q ops (o :: os) e2 l G) (hg : o.guard = some (j, w) := by exact rfl) (ht : gtmp ops j = some t := by exact rfl) (hv : lk e t = some (.bool p) := by exact rfl)
    (he1 : up e t (.bool true) = e1 := by ((repeat (refine nlc (m' := ?_) rfl ?_; rotate_left)); exact nln rfl)) (he2 : up e t (.bool false) = e2 := by ((repeat (refine nlc (m' := ?_) rfl ?_; rotate_left)); exact nln rfl)) : E5 F Q ops (o :: os) e l G := by
  cases p
  · rw [up_same hv] at he2; subst he2; exact h2 rfl
  · rw [up_same hv] at he1; subst he1; exact h1 rfl
theorem tif {j t : Nat} {w p : Bool} {e1 e2 : Env} {P : Prop} {dP : Decidable P} {α : Type} {X Y : Option α} {r : α} (h : (if P then X else Y) = some r) (h1 : P → X = some r → E5 F Q ops (o :: os) e1 l G) (h2 : ¬ P → Y = some r → E5 F Q ops (o :: os) e2 l G)
    (hg : o.guard = some (j, w) := by exact rfl) (ht : gtmp ops j = some t := by exact rfl) (hv : lk e t = some (.bool p) := by exact rfl) (hp : p = decide P := by first | exact rfl | exact dtt _ | (simp <;> fail))
    (he1 : up e t (.bool true) = e1 := by ((repeat (refine nlc (m' := ?_) rfl ?_; rotate_left)); exact nln rfl)) (he2 : up e t (.bool false) = e2 := by ((repeat (refine nlc (m' := ?_) rfl ?_; rotate_left)); exact nln rfl)) : E5 F Q ops (o :: os) e l G := by
  refine tS (p := p) (fun e => ?_) (fun e => ?_) hg ht hv he1 he2
  · have c : P := of_decide_eq_true (hp ▸ e)
    rw [if_pos c] at h; exact h1 c h
  · have c : ¬ P := of_decide_eq_false (hp ▸ e)
    rw [if_neg c] at h; exact h2 c h
theorem tfi {j t : Nat} {w p : Bool} {e1 e2 : Env} {P : Prop} {dP : Decidable P} {α : Type} {X Y : Option α} {r : α} (h : (if P then X else Y) = some r) (h1 : P → X = some r → E5 F Q ops (o :: os) e2 l G) (h2 : ¬ P → Y = some r → E5 F Q ops (o :: os) e1 l G)
    (hg : o.guard = some (j, w) := by exact rfl) (ht : gtmp ops j = some t := by exact rfl) (hv : lk e t = some (.bool p) := by exact rfl) (hp : p = !decide P := by first | exact rfl | (simp <;> fail))
    (he1 : up e t (.bool true) = e1 := by ((repeat (refine nlc (m' := ?_) rfl ?_; rotate_left)); exact nln rfl)) (he2 : up e t (.bool false) = e2 := by ((repeat (refine nlc (m' := ?_) rfl ?_; rotate_left)); exact nln rfl)) : E5 F Q ops (o :: os) e l G := by
  refine tS (p := p) (fun e => ?_) (fun e => ?_) hg ht hv he1 he2
  · have c : ¬ P := fun c => by simp [hp, c] at e
    rw [if_neg c] at h; exact h2 c h
  · have c : P := Classical.byContradiction fun c => by simp [hp, c] at e
    rw [if_pos c] at h; exact h1 c h

theorem qop_call {P : Program} {Δ : Tab} {S : St} {c : Call} {f : FuncId} {K : AV → Prop} (hc : c.callee = .value (.func f)) : qop P Δ S (.call c) K = qcall P S f c.args.toList K := by
  simp only [qop, hc]
theorem Does.de' {P : Program} {qt : Bool} {f : FuncId} {args : List AV} {G : Objs} {y : AV} (h : Does P qt f (args.map AV.deEmp) G (fun x _ => x = y)) (hi : y.deEmp = y) : Does P qt f args G (fun x _ => x = y) :=
  h.de (fun r _ e => by rw [e, hi])
theorem vC {P : Program} {Δ : Tab} {S : St} {c : Call} {f : FuncId} {vs us : List AV} {r : AV} (hd : ∀ G, Does P true f vs G (fun x _ => x = r)) (hc : c.callee = .value (.func f) := by exact rfl)
    (hu : S.argsOf c.args.toList = some us := by exact rfl) (hvs : us.map AV.deEmp = vs := by exact rfl) (hi : r.deEmp = r := by exact rfl) (hcp : r.copyable = true := by exact rfl)
    (hdeep : S.deepArgs c.args.toList = true ∨ r.noRef = true := by first | exact .inl rfl | exact .inr rfl) : QV P Δ S (.call c) r := by
  refine ⟨?_⟩
  rw [qop_call hc]
  unfold qcall
  rw [hu]
  subst hvs
  exact ⟨r, Does.de' (hd _) hi, hcp, hdeep, rfl⟩
theorem c_wop {v : AV} {c : Call} {f : FuncId} {t : Nat} (h : QV F.P F.Δ ⟨e, l, G⟩ o.op v) (ho : o.op = .call c) (hc : c.callee = .value (.func f)) (hd : o.dst = some t) : wop F.P F.Δ F.qt F.gs ⟨e, l, G⟩ o (fun S => S = St.put ⟨e, l, G⟩ t v) := by
  unfold wop
  rw [ho]
  simp only [hc]
  have h' : qcall F.P ⟨e, l, G⟩ f c.args.toList (fun x => x = v) := by
    have h := h.h
    rwa [ho, qop_call hc] at h
  exact .inl (qcall_mono (fun x hx => by subst hx; rw [hd]; rfl) h')
theorem oC {v : AV} {c : Call} {f : FuncId} {t : Nat} (h : QV F.P F.Δ ⟨e, l, G⟩ o.op v) (hk : E3 F T k ops os ((t, v) :: e) l G) (ho : o.op = .call c := by exact rfl) (hc : c.callee = .value (.func f) := by exact rfl) (hg : o.guard = none := by exact rfl) (hd : o.dst = some t := by exact rfl) (hr : noRefs t e = true := by exact rfl) : E3 F T k ops (o :: os) e l G :=
  oW hk hg (c_wop h ho hc hd) hr
theorem gC {v : AV} {c : Call} {f : FuncId} {j t u : Nat} {w p : Bool} (h : QV F.P F.Δ ⟨e, l, G⟩ o.op v) (hk : E3 F T k ops os ((u, v) :: e) l G) (ho : o.op = .call c := by exact rfl) (hc : c.callee = .value (.func f) := by exact rfl) (hg : o.guard = some (j, w) := by exact rfl) (ht : gtmp ops j = some t := by exact rfl) (hv : lk e t = some (.bool p) := by exact rfl) (hp : p = w := by with_reducible exact rfl) (hd : o.dst = some u := by exact rfl) (hr : noRefs u e = true := by exact rfl) : E3 F T k ops (o :: os) e l G :=
  gY hk hg ht hv hp (c_wop h ho hc hd) hr
theorem tC {v : AV} {c : Call} {f : FuncId} {t : Nat} (h : QV F.P F.Δ ⟨e, l, G⟩ o.op v) (hk : E5 F Q ops os e' l G) (ho : o.op = .call c := by exact rfl) (hc : c.callee = .value (.func f) := by exact rfl) (hg : o.guard = none := by exact rfl) (hd : o.dst = some t := by exact rfl)
    (he : up (kl (AV.refs (.t t)) e) t v = e' := by ((repeat (refine nlc (m' := ?_) rfl ?_; rotate_left)); exact nln rfl)) : E5 F Q ops (o :: os) e l G :=
  ⟨by simp only [evOps, hg]; exact wop_mono (fun S hS => by rw [hS, st_of (S := St.put ⟨e, l, G⟩ t v) he rfl rfl]; exact hk.h) (c_wop h ho hc hd)⟩

theorem tCg {v : AV} {c : Call} {f : FuncId} {j t u : Nat} {w p : Bool} (h : QV F.P F.Δ ⟨e, l, G⟩ o.op v) (hk : E5 F Q ops os e' l G) (ho : o.op = .call c := by exact rfl) (hc : c.callee = .value (.func f) := by exact rfl) (hd : o.dst = some u := by exact rfl) (hg : o.guard = some (j, w) := by exact rfl) (ht : gtmp ops j = some t := by exact rfl) (hv : lk e t = some (.bool p) := by exact rfl) (hp : p = w := by with_reducible exact rfl)
    (he : up (kl (AV.refs (.t u)) e) u v = e' := by ((repeat (refine nlc (m' := ?_) rfl ?_; rotate_left)); exact nln rfl)) : E5 F Q ops (o :: os) e l G :=
  tY hk hg ht hv hp (c_wop h ho hc hd) he rfl rfl

theorem oNx {s : ByteArray} {p t u : Nat} {it : Operand} {α : Type} {P : Prop} {dP : Decidable P} {X Y : Option α} {r : α} {e1 e2 : Env} (h : (if P then X else Y) = some r)
    (h1 : p < s.size → X = some r → E3 F T k ops os e1 l G) (h2 : ¬ p < s.size → Y = some r → E3 F T k ops os e2 l G)
    (ho : o.op = .next it true := by exact rfl) (hit : it = .tmp u := by exact rfl) (hd : o.dst = some t := by exact rfl) (hg : o.guard = none := by exact rfl) (hv : lk e u = some (.iter s p) := by exact rfl) (hP : P = (p < s.size) := by exact rfl) (hut : u ≠ t := by decide)
    (he1 : (St.put (St.put ⟨e, l, G⟩ u (.iter s (p + (Utf8.decode s p).2))) t (.tup [.bool true, .int .i64 p, .int .i32 (Utf8.decode s p).1])).env = e1 := by ((repeat (refine nlc (m' := ?_) rfl ?_; rotate_left)); exact nln rfl))
    (he2 : (St.put ⟨e, l, G⟩ t (.tup [.bool false])).env = e2 := by ((repeat (refine nlc (m' := ?_) rfl ?_; rotate_left)); exact nln rfl)) : E3 F T k ops (o :: os) e l G := by
  subst hit
  have hv' : St.get ⟨e, l, G⟩ u = some (.iter s p) := hv
  have hw : wop F.P F.Δ F.qt F.gs ⟨e, l, G⟩ o (fun S' => (p < s.size ∧ S' = ⟨e1, l, G⟩) ∨ (¬ p < s.size ∧ S' = ⟨e2, l, G⟩)) := by
    unfold wop
    rw [ho]
    simp only
    unfold wnext
    simp only [hd, hv']
    refine ⟨hut, fun c => ?_, fun c => ?_⟩
    · rw [st_of (S := St.put (St.put ⟨e, l, G⟩ u _) t _) he1 rfl rfl]; exact .inl ⟨c, rfl⟩
    · rw [st_of (S := St.put ⟨e, l, G⟩ t _) he2 rfl rfl]; exact .inr ⟨c, rfl⟩
  refine o_none hg hw (fun S' hS hΔ hd X' a w hr => ?_)
  rcases hS with ⟨c, rfl⟩ | ⟨c, rfl⟩
  · rw [if_pos (hP ▸ c)] at h
    exact (h1 c h).h hΔ hd X' a w hr
  · rw [if_neg (hP ▸ c)] at h
    exact (h2 c h).h hΔ hd X' a w hr

theorem oA {α : Type} {iE : Enc α} (x : α) {c : Call} {b s : Operand} {t t1 t2 u el sz by_ sz2 by2 el2 cw : Nat} {z z2 : List AV} {d : TD} {vs : AV} {cs : List AV} {m : List α} (hk : E3 F T k ops os e' l G) (ho : o.op = .call c := by exact rfl) (hc : c.callee = .builtin .append := by exact rfl)
    (ha : c.args.toList = [b, s] := by exact rfl) (hb : c.argTypes.toList = [t1, t2] := by exact rfl) (hdst : o.dst = some t := by exact rfl) (hg : o.guard = none := by exact rfl) (h1 : lk F.Δ t1 = some ⟨.slice el, sz, by_, z⟩ := by exact rfl) (h2 : lk F.Δ t2 = some ⟨.slice el2, sz2, by2, z2⟩ := by exact rfl)
    (hd : lk F.Δ el = some d := by exact rfl) (hs : St.val ⟨e, l, G⟩ s = some vs := by exact rfl) (hm : St.slOf ⟨e, l, G⟩ vs = some [cs] := by exact rfl) (hb' : b = .tmp u := by exact rfl) (hu : lk e u = some (.own cw (m.map enc)) := by exact rfl) (hcw : cw = d.size := by exact rfl)
    (a1 : d.zero.length = d.size := by exact rfl) (a2 : (match d.k with | .tup | .fn => False | _ => True) := by exact trivial) (a3 : 0 < d.bytes := by exact Nat.le_of_ble_eq_true rfl) (hx : cs = enc x := by exact rfl) (a4 : w α = d.size := by exact rfl) (a5 : (enc x).all AV.leaf = true := by exact rfl)
    (a6 : (m.length + 1) * d.bytes ≤ 140737488355328 := by (try dsimp only); omega)
    (he : (St.put (St.take ⟨e, l, G⟩ (.t u)) t (.own d.size ((m ++ [x]).map enc))).env = e' := by ((repeat (refine nlc (m' := ?_) rfl ?_; rotate_left)); exact nln rfl)) (hl : (St.put (St.take ⟨e, l, G⟩ (.t u)) t (.own d.size ((m ++ [x]).map enc))).loc = l := by exact rfl) (hG : (St.put (St.take ⟨e, l, G⟩ (.t u)) t (.own d.size ((m ++ [x]).map enc))).G = G := by exact rfl) : E3 F T k ops (o :: os) e l G := by
  subst hx hb' hcw
  have hok : apOk d (m.map enc) ([enc x]) := by
    refine ⟨a1, a2, a3, ?_, ?_, by simpa using a6⟩
    · intro es hes
      rw [List.mem_singleton.1 hes, Enc.hw, a4]
    · simpa using a5
  have hw : wop F.P F.Δ F.qt F.gs ⟨e, l, G⟩ o (fun S => S = ⟨e', l, G⟩) := by
    unfold wop
    rw [ho]
    simp only [hc, ha, hb]
    unfold wappend
    have e1 : m.map enc ++ [enc x] = (m ++ [x]).map enc := by simp
    have hu' : St.val ⟨e, l, G⟩ (.tmp u) = some (.own d.size (m.map enc)) := hu
    simp only [h1, h2, hdst, hd, hs, hm, hu']
    exact ⟨trivial, hok, by rw [e1, st_of he hl hG]⟩
  exact o_none hg hw (fun S' hS hΔ hd X a w hr => by subst hS; exact hk.h hΔ hd X a w hr)
theorem oAv {α : Type} {iE : Enc α} (x : α) {c : Call} {b s : Operand} {t t1 t2 u el sz by_ sz2 by2 el2 cw : Nat} {z z2 : List AV} {d : TD} {vs : AV} {cs : List AV} {m : List α} (hk : E3 F T k ops os e' l G) (ho : o.op = .call c := by exact rfl) (hc : c.callee = .builtin .append := by exact rfl)
    (ha : c.args.toList = [b, s] := by exact rfl) (hb : c.argTypes.toList = [t1, t2] := by exact rfl) (hdst : o.dst = some t := by exact rfl) (hg : o.guard = none := by exact rfl) (h1 : lk F.Δ t1 = some ⟨.slice el, sz, by_, z⟩ := by exact rfl) (h2 : lk F.Δ t2 = some ⟨.slice el2, sz2, by2, z2⟩ := by exact rfl)
    (hd : lk F.Δ el = some d := by exact rfl) (hs : St.val ⟨e, l, G⟩ s = some vs := by exact rfl) (hm : St.slOf ⟨e, l, G⟩ vs = some [cs] := by exact rfl) (hb' : St.val ⟨e, l, G⟩ b = some (.view (.t u)) := by exact rfl) (hu : lk e u = some (.own cw (m.map enc)) := by exact rfl) (hcw : cw = d.size := by exact rfl)
    (a1 : d.zero.length = d.size := by exact rfl) (a2 : (match d.k with | .tup | .fn => False | _ => True) := by exact trivial) (a3 : 0 < d.bytes := by exact Nat.le_of_ble_eq_true rfl) (hx : cs = enc x := by exact rfl) (a4 : w α = d.size := by exact rfl) (a5 : (enc x).all AV.leaf = true := by exact rfl)
    (a6 : (m.length + 1) * d.bytes ≤ 140737488355328 := by (try dsimp only); omega)
    (he : (St.put (St.take ⟨e, l, G⟩ (.t u)) t (.own d.size ((m ++ [x]).map enc))).env = e' := by ((repeat (refine nlc (m' := ?_) rfl ?_; rotate_left)); exact nln rfl)) (hl : (St.put (St.take ⟨e, l, G⟩ (.t u)) t (.own d.size ((m ++ [x]).map enc))).loc = l := by exact rfl) (hG : (St.put (St.take ⟨e, l, G⟩ (.t u)) t (.own d.size ((m ++ [x]).map enc))).G = G := by exact rfl) : E3 F T k ops (o :: os) e l G := by
  subst hx hcw
  have hok : apOk d (m.map enc) ([enc x]) := by
    refine ⟨a1, a2, a3, ?_, ?_, by simpa using a6⟩
    · intro es hes
      rw [List.mem_singleton.1 hes, Enc.hw, a4]
    · simpa using a5
  have hw : wop F.P F.Δ F.qt F.gs ⟨e, l, G⟩ o (fun S => S = ⟨e', l, G⟩) := by
    unfold wop
    rw [ho]
    simp only [hc, ha, hb]
    unfold wappend
    have e1 : m.map enc ++ [enc x] = (m ++ [x]).map enc := by simp
    have hu' : St.ownAt ⟨e, l, G⟩ (.t u) = some (d.size, m.map enc) := by simp only [St.ownAt, St.get, hu]
    simp only [h1, h2, hdst, hd, hs, hm, hb', hu']
    exact ⟨by simp [anyG], trivial, hok, by rw [e1, st_of he hl hG]⟩
  exact o_none hg hw (fun S' hS hΔ hd X a w hr => by subst hS; exact hk.h hΔ hd X a w hr)
theorem oAe {α : Type} [iE : Enc α] (x : α) {c : Call} {b s : Operand} {t t1 t2 el sz by_ sz2 by2 el2 : Nat} {z z2 : List AV} {d : TD} {vs : AV} {cs : List AV} (hk : E3 F T k ops os e' l G) (ho : o.op = .call c := by exact rfl) (hc : c.callee = .builtin .append := by exact rfl)
    (ha : c.args.toList = [b, s] := by exact rfl) (hb : c.argTypes.toList = [t1, t2] := by exact rfl) (hdst : o.dst = some t := by exact rfl) (hg : o.guard = none := by exact rfl) (h1 : lk F.Δ t1 = some ⟨.slice el, sz, by_, z⟩ := by exact rfl) (h2 : lk F.Δ t2 = some ⟨.slice el2, sz2, by2, z2⟩ := by exact rfl)
    (hd : lk F.Δ el = some d := by exact rfl) (hs : St.val ⟨e, l, G⟩ s = some vs := by exact rfl) (hm : St.slOf ⟨e, l, G⟩ vs = some [cs] := by exact rfl) (hb' : St.val ⟨e, l, G⟩ b = some .emp := by exact rfl)
    (a1 : d.zero.length = d.size := by exact rfl) (a2 : (match d.k with | .tup | .fn => False | _ => True) := by exact trivial) (a3 : 0 < d.bytes := by exact Nat.le_of_ble_eq_true rfl) (hx : cs = enc x := by exact rfl) (a4 : w α = d.size := by exact rfl) (a5 : (enc x).all AV.leaf = true := by exact rfl)
    (a6 : (1) * d.bytes ≤ 140737488355328 := by (try dsimp only); omega)
    (he : (St.put ⟨e, l, G⟩ t (.own d.size ((([] : List α) ++ [x]).map enc))).env = e' := by ((repeat (refine nlc (m' := ?_) rfl ?_; rotate_left)); exact nln rfl)) (hl : (St.put ⟨e, l, G⟩ t (.own d.size ((([] : List α) ++ [x]).map enc))).loc = l := by exact rfl) (hG : (St.put ⟨e, l, G⟩ t (.own d.size ((([] : List α) ++ [x]).map enc))).G = G := by exact rfl) : E3 F T k ops (o :: os) e l G := by
  subst hx 
  have hok : apOk d ([]) ([enc x]) := by
    refine ⟨a1, a2, a3, ?_, ?_, by simpa using a6⟩
    · intro es hes
      rw [List.mem_singleton.1 hes, Enc.hw, a4]
    · simpa using a5
  have hw : wop F.P F.Δ F.qt F.gs ⟨e, l, G⟩ o (fun S => S = ⟨e', l, G⟩) := by
    unfold wop
    rw [ho]
    simp only [hc, ha, hb]
    unfold wappend
    have e1 : ([] : List (List AV)) ++ [enc x] = (([] : List α) ++ [x]).map enc := by simp
    simp only [h1, h2, hdst, hd, hs, hm, hb']
    refine ⟨hok, ?_⟩
    have e2 : [enc x] = (([] : List α) ++ [x]).map enc := by simp
    rw [e2, st_of he hl hG]
  exact o_none hg hw (fun S' hS hΔ hd X a w hr => by subst hS; exact hk.h hΔ hd X a w hr)
theorem oM {α : Type} {iE : Enc α} {c : Call} {b s : Operand} {t t1 t2 u el sz by_ sz2 by2 el2 cw : Nat} {z z2 : List AV} {d : TD} {vs : AV} {ys : List α} {m : List α} (hk : E3 F T k ops os e' l G) (ho : o.op = .call c := by exact rfl) (hc : c.callee = .builtin .append := by exact rfl)
    (ha : c.args.toList = [b, s] := by exact rfl) (hb : c.argTypes.toList = [t1, t2] := by exact rfl) (hdst : o.dst = some t := by exact rfl) (hg : o.guard = none := by exact rfl) (h1 : lk F.Δ t1 = some ⟨.slice el, sz, by_, z⟩ := by exact rfl) (h2 : lk F.Δ t2 = some ⟨.slice el2, sz2, by2, z2⟩ := by exact rfl)
    (hd : lk F.Δ el = some d := by exact rfl) (hs : St.val ⟨e, l, G⟩ s = some vs := by exact rfl) (hm : St.slOf ⟨e, l, G⟩ vs = some (ys.map enc) := by exact rfl) (hb' : b = .tmp u := by exact rfl) (hu : lk e u = some (.own cw (m.map enc)) := by exact rfl) (hcw : cw = d.size := by exact rfl)
    (a1 : d.zero.length = d.size := by exact rfl) (a2 : (match d.k with | .tup | .fn => False | _ => True) := by exact trivial) (a3 : 0 < d.bytes := by exact Nat.le_of_ble_eq_true rfl) (a4 : w α = d.size := by exact rfl) (a5 : ∀ x : α, (enc x).all AV.leaf = true := by exact fun _ => rfl)
    (a6 : (m.length + ys.length) * d.bytes ≤ 140737488355328 := by (try dsimp only); omega)
    (he : (St.put (St.take ⟨e, l, G⟩ (.t u)) t (.own d.size ((m ++ ys).map enc))).env = e' := by ((repeat (refine nlc (m' := ?_) rfl ?_; rotate_left)); exact nln rfl)) (hl : (St.put (St.take ⟨e, l, G⟩ (.t u)) t (.own d.size ((m ++ ys).map enc))).loc = l := by exact rfl) (hG : (St.put (St.take ⟨e, l, G⟩ (.t u)) t (.own d.size ((m ++ ys).map enc))).G = G := by exact rfl) : E3 F T k ops (o :: os) e l G := by
  subst hb' hcw
  have hok : apOk d (m.map enc) (ys.map enc) := by
    refine ⟨a1, a2, a3, ?_, ?_, by simpa using a6⟩
    · intro es hes
      obtain ⟨y, _, rfl⟩ := List.mem_map.1 hes; rw [Enc.hw, a4]
    · rw [List.all_eq_true]
      intro y hy
      obtain ⟨cs, h1, h2⟩ := List.mem_flatten.1 hy
      obtain ⟨x, _, rfl⟩ := List.mem_map.1 h1
      exact List.all_eq_true.1 (a5 x) y h2
  have hw : wop F.P F.Δ F.qt F.gs ⟨e, l, G⟩ o (fun S => S = ⟨e', l, G⟩) := by
    unfold wop
    rw [ho]
    simp only [hc, ha, hb]
    unfold wappend
    have e1 : m.map enc ++ ys.map enc = (m ++ ys).map enc := by simp
    have hu' : St.val ⟨e, l, G⟩ (.tmp u) = some (.own d.size (m.map enc)) := hu
    simp only [h1, h2, hdst, hd, hs, hm, hu']
    exact ⟨trivial, hok, by rw [e1, st_of he hl hG]⟩
  exact o_none hg hw (fun S' hS hΔ hd X a w hr => by subst hS; exact hk.h hΔ hd X a w hr)
theorem oMv {α : Type} {iE : Enc α} {c : Call} {b s : Operand} {t t1 t2 u el sz by_ sz2 by2 el2 cw : Nat} {z z2 : List AV} {d : TD} {vs : AV} {ys : List α} {m : List α} (hk : E3 F T k ops os e' l G) (ho : o.op = .call c := by exact rfl) (hc : c.callee = .builtin .append := by exact rfl)
    (ha : c.args.toList = [b, s] := by exact rfl) (hb : c.argTypes.toList = [t1, t2] := by exact rfl) (hdst : o.dst = some t := by exact rfl) (hg : o.guard = none := by exact rfl) (h1 : lk F.Δ t1 = some ⟨.slice el, sz, by_, z⟩ := by exact rfl) (h2 : lk F.Δ t2 = some ⟨.slice el2, sz2, by2, z2⟩ := by exact rfl)
    (hd : lk F.Δ el = some d := by exact rfl) (hs : St.val ⟨e, l, G⟩ s = some vs := by exact rfl) (hm : St.slOf ⟨e, l, G⟩ vs = some (ys.map enc) := by exact rfl) (hb' : St.val ⟨e, l, G⟩ b = some (.view (.t u)) := by exact rfl) (hu : lk e u = some (.own cw (m.map enc)) := by exact rfl) (hcw : cw = d.size := by exact rfl)
    (a1 : d.zero.length = d.size := by exact rfl) (a2 : (match d.k with | .tup | .fn => False | _ => True) := by exact trivial) (a3 : 0 < d.bytes := by exact Nat.le_of_ble_eq_true rfl) (a4 : w α = d.size := by exact rfl) (a5 : ∀ x : α, (enc x).all AV.leaf = true := by exact fun _ => rfl)
    (a6 : (m.length + ys.length) * d.bytes ≤ 140737488355328 := by (try dsimp only); omega)
    (he : (St.put (St.take ⟨e, l, G⟩ (.t u)) t (.own d.size ((m ++ ys).map enc))).env = e' := by ((repeat (refine nlc (m' := ?_) rfl ?_; rotate_left)); exact nln rfl)) (hl : (St.put (St.take ⟨e, l, G⟩ (.t u)) t (.own d.size ((m ++ ys).map enc))).loc = l := by exact rfl) (hG : (St.put (St.take ⟨e, l, G⟩ (.t u)) t (.own d.size ((m ++ ys).map enc))).G = G := by exact rfl) : E3 F T k ops (o :: os) e l G := by
  subst hcw
  have hok : apOk d (m.map enc) (ys.map enc) := by
    refine ⟨a1, a2, a3, ?_, ?_, by simpa using a6⟩
    · intro es hes
      obtain ⟨y, _, rfl⟩ := List.mem_map.1 hes; rw [Enc.hw, a4]
    · rw [List.all_eq_true]
      intro y hy
      obtain ⟨cs, h1, h2⟩ := List.mem_flatten.1 hy
      obtain ⟨x, _, rfl⟩ := List.mem_map.1 h1
      exact List.all_eq_true.1 (a5 x) y h2
  have hw : wop F.P F.Δ F.qt F.gs ⟨e, l, G⟩ o (fun S => S = ⟨e', l, G⟩) := by
    unfold wop
    rw [ho]
    simp only [hc, ha, hb]
    unfold wappend
    have e1 : m.map enc ++ ys.map enc = (m ++ ys).map enc := by simp
    have hu' : St.ownAt ⟨e, l, G⟩ (.t u) = some (d.size, m.map enc) := by simp only [St.ownAt, St.get, hu]
    simp only [h1, h2, hdst, hd, hs, hm, hb', hu']
    exact ⟨by simp [anyG], trivial, hok, by rw [e1, st_of he hl hG]⟩
  exact o_none hg hw (fun S' hS hΔ hd X a w hr => by subst hS; exact hk.h hΔ hd X a w hr)
theorem oMe {α : Type} {iE : Enc α} {c : Call} {b s : Operand} {t t1 t2 el sz by_ sz2 by2 el2 : Nat} {z z2 : List AV} {d : TD} {vs : AV} {ys : List α} (hk : E3 F T k ops os e' l G) (ho : o.op = .call c := by exact rfl) (hc : c.callee = .builtin .append := by exact rfl)
    (ha : c.args.toList = [b, s] := by exact rfl) (hb : c.argTypes.toList = [t1, t2] := by exact rfl) (hdst : o.dst = some t := by exact rfl) (hg : o.guard = none := by exact rfl) (h1 : lk F.Δ t1 = some ⟨.slice el, sz, by_, z⟩ := by exact rfl) (h2 : lk F.Δ t2 = some ⟨.slice el2, sz2, by2, z2⟩ := by exact rfl)
    (hd : lk F.Δ el = some d := by exact rfl) (hs : St.val ⟨e, l, G⟩ s = some vs := by exact rfl) (hm : St.slOf ⟨e, l, G⟩ vs = some (ys.map enc) := by exact rfl) (hb' : St.val ⟨e, l, G⟩ b = some .emp := by exact rfl)
    (a1 : d.zero.length = d.size := by exact rfl) (a2 : (match d.k with | .tup | .fn => False | _ => True) := by exact trivial) (a3 : 0 < d.bytes := by exact Nat.le_of_ble_eq_true rfl) (a4 : w α = d.size := by exact rfl) (a5 : ∀ x : α, (enc x).all AV.leaf = true := by exact fun _ => rfl)
    (a6 : (ys.length) * d.bytes ≤ 140737488355328 := by (try dsimp only); omega)
    (he : (St.put ⟨e, l, G⟩ t (.own d.size ((([] : List α) ++ ys).map enc))).env = e' := by ((repeat (refine nlc (m' := ?_) rfl ?_; rotate_left)); exact nln rfl)) (hl : (St.put ⟨e, l, G⟩ t (.own d.size ((([] : List α) ++ ys).map enc))).loc = l := by exact rfl) (hG : (St.put ⟨e, l, G⟩ t (.own d.size ((([] : List α) ++ ys).map enc))).G = G := by exact rfl) : E3 F T k ops (o :: os) e l G := by
  have hok : apOk d ([]) (ys.map enc) := by
    refine ⟨a1, a2, a3, ?_, ?_, by simpa using a6⟩
    · intro es hes
      obtain ⟨y, _, rfl⟩ := List.mem_map.1 hes; rw [Enc.hw, a4]
    · rw [List.all_eq_true]
      intro y hy
      obtain ⟨cs, h1, h2⟩ := List.mem_flatten.1 hy
      obtain ⟨x, _, rfl⟩ := List.mem_map.1 h1
      exact List.all_eq_true.1 (a5 x) y h2
  have hw : wop F.P F.Δ F.qt F.gs ⟨e, l, G⟩ o (fun S => S = ⟨e', l, G⟩) := by
    unfold wop
    rw [ho]
    simp only [hc, ha, hb]
    unfold wappend
    have e1 : ([] : List (List AV)) ++ ys.map enc = (([] : List α) ++ ys).map enc := by simp
    simp only [h1, h2, hdst, hd, hs, hm, hb']
    refine ⟨hok, ?_⟩
    have e2 : ys.map enc = (([] : List α) ++ ys).map enc := by simp
    rw [e2, st_of he hl hG]
  exact o_none hg hw (fun S' hS hΔ hd X a w hr => by subst hS; exact hk.h hΔ hd X a w hr)
theorem se_wop {α : Type} {iE : Enc α} {x : α} {t c off u : Nat} {ad y : Operand} {d : TD} {m : List α} {n : Int} {v : AV} (ho : o.op = .store t ad y) (hdst : o.dst = none) (ht : lk F.Δ t = some d) (had : St.val ⟨e, l, G⟩ ad = some (.eptr (.t u) c n.toNat off)) (hu : lk e u = some (.own c (m.map enc))) (hy : St.val ⟨e, l, G⟩ y = some v) (hl : v.cells.all AV.leaf = true) (hdp : v.isDeep = true) (hs : v.cells.length = d.size) (hle : off + d.size ≤ (enc (rd m n)).length)
    (hx : over (enc (rd m n)) off v.cells = enc x) (h0 : 0 ≤ n) (h1 : n < (m.length : Int)) : wop F.P F.Δ F.qt F.gs ⟨e, l, G⟩ o (fun S => S = ⟨up e u (.own c ((m.set n.toNat x).map enc)), l, G⟩) := by
  unfold wop
  rw [ho]
  have hown : St.ownAt ⟨e, l, G⟩ (.t u) = some (c, m.map enc) := by simp only [St.ownAt, St.get, hu]
  obtain ⟨f1, f2⟩ := frz_deep (S := ⟨e, l, G⟩) hy hdp
  have hfv : St.frzv ⟨e, l, G⟩ y = ⟨e, l, G⟩ := by
    unfold St.frzv
    rw [hy]
    cases v <;> first | rfl | cases hdp
  simp only [hfv]
  refine ⟨f2 _, hdst, ?_⟩
  unfold wstore
  simp only [ht, had, hown, hy]
  refine ⟨by simp [anyG], trivial, hl, hdp, hs, _, at_enc h0 h1, hle, ?_⟩
  simp only [St.setAt, hx, List.map_set]
theorem Rv.deR {Fz : Nat → Prop} {D : Nat → Option Nat} {w : World} {r : List (List AV)} {v : Value} (h : Rv Fz D w (.sl r) v) : Rv Fz D w (.sl (r.map (List.map deEmp1))) v := by
  cases h with
  | sl0 a c => exact .sl0 a c
  | sl _ b off cap c f hz hl hw hc hr =>
    have hflat : (r.map (List.map deEmp1)).flatten = r.flatten.map deEmp1 := by simp [List.map_flatten]
    have := Rv.sl (w := w) (D := D) (r.map (List.map deEmp1)) b off cap c f hz (by simpa using hl) (fun es hes => by
      obtain ⟨y, h1, rfl⟩ := List.mem_map.1 hes
      simpa using hw y h1) (fun k x hk => by
        rw [hflat, List.getElem?_map] at hk
        obtain ⟨y, h1, rfl⟩ := Option.map_eq_some_iff.1 hk
        exact hc k y h1) (fun k x hk => by
        rw [hflat, List.getElem?_map] at hk
        obtain ⟨y, h1, rfl⟩ := Option.map_eq_some_iff.1 hk
        exact (hr k y h1).de1)
    simpa using this
theorem rx_de {X : Ctx} {a : Act} {w : World} {t : Nat} {x y : AV} (h : RX X ⟨e, l, G⟩ a w) (hx : lk e t = some x) (hd : x.isDeep = true) (hy : y.isDeep = true) (hxy : ∀ v, Rv X.Fz X.D w x v → Rv X.Fz X.D w y v) : RX X ⟨(t, y) :: e, l, G⟩ a w where
  env u z hz := by
    simp only [St.get] at hz
    rw [lk_cons] at hz
    by_cases c : t = u
    · rw [if_pos c] at hz
      cases hz
      subst c
      obtain ⟨h1, h2⟩ := h.env t x hx
      exact ⟨h1, (Rp.deep hy).2 (hxy _ ((Rp.deep hd).1 h2))⟩
    · rw [if_neg c] at hz
      obtain ⟨h1, h2⟩ := h.env u z hz
      refine ⟨h1, h2.congr (fun _ _ => rfl) (fun q hq hl => ⟨?_, rfl⟩)⟩
      cases q with
      | t n =>
        obtain ⟨c', r, e1⟩ := live_t hl
        simp only [St.get] at e1
        rw [lk_cons] at e1
        by_cases c2 : t = n
        · rw [if_pos c2] at e1; cases e1; cases hy
        · rw [if_neg c2] at e1; simp [St.ownAt, St.get, e1]
      | l k off => exact hl
      | g k off => exact hl
      | res => exact hl
  loc := h.loc
  gob := h.gob
  dis := h.dis
  inh := h.inh
theorem oBS {t1 n t : Nat} {ps : Array (Nat × Operand)} {el sz by_ : Nat} {z : List AV} {d : TD} {cs : List AV} {rows : List (List AV)} (hk : E3 F T k ops os ((t, .sl rows) :: e) l G) (ho : o.op = .buildSlice t1 (n + 1) ps := by exact rfl) (hd : o.dst = some t := by exact rfl) (hg : o.guard = none := by exact rfl)
    (hdp : St.deepArgs ⟨e, l, G⟩ (ps.toList.map (·.2)) = true := by exact rfl) (h1 : lk F.Δ t1 = some ⟨.slice el, sz, by_, z⟩ := by exact rfl) (h2 : lk F.Δ el = some d := by exact rfl)
    (h3 : (n + 1) * d.size ≤ 16777216 := by exact Nat.le_of_ble_eq_true rfl) (h4 : d.zero.length = d.size := by exact rfl) (h5 : (match d.k with | .tup | .fn => False | _ => True) := by exact trivial)
    (h6 : fillB ⟨e, l, G⟩ (fun i => some (i * d.size, d.size)) (zeros d.zero (n + 1)) ps.toList = some cs := by exact rfl)
    (h7 : (chop d.size (n + 1) cs).map (List.map deEmp1) = rows := by ((repeat (refine nlr (x' := ?_) (m' := ?_) rfl ?_ ?_; rotate_left 2; focus ((repeat (first | (refine nlc (p := AV.int _ _) (m' := ?_) rfl ?_; rotate_left) | (refine nlc (p := AV.sl _) (m' := ?_) rfl ?_; rotate_left) | (refine nlc (p := AV.bool _) (m' := ?_) rfl ?_; rotate_left) | (refine nlc (p := AV.own _ _) (m' := ?_) rfl ?_; rotate_left) | (refine nlc (p := AV.str _) (m' := ?_) rfl ?_; rotate_left) | (refine nlc (p := AV.emp) (m' := ?_) rfl ?_; rotate_left) | (refine nlc (p := AV.junk) (m' := ?_) rfl ?_; rotate_left) | (refine nlc (p := AV.nilp) (m' := ?_) rfl ?_; rotate_left) | (refine nlc (p := AV.ptrF _) (m' := ?_) rfl ?_; rotate_left) | (refine nlc (p := AV.fn _ _) (m' := ?_) rfl ?_; rotate_left) | (refine nlc (p := AV.ptr _ _) (m' := ?_) rfl ?_; rotate_left))); exact nln rfl))); exact nln rfl))
    (hr : noRefs t e = true := by exact rfl) : E3 F T k ops (o :: os) e l G := by
  have hw : wop F.P F.Δ F.qt F.gs ⟨e, l, G⟩ o (fun S => S = St.put ⟨e, l, G⟩ t (.sl (chop d.size (n + 1) cs))) := by
    unfold wop
    rw [ho]
    obtain ⟨e1, e2⟩ := frzAll_deep hdp
    simp only [e1, e2, true_and, qop]
    unfold qbslice
    simp only [h1, h2, h6]
    exact ⟨h3, h4, h5, by rw [hd]; rfl⟩
  refine o_none hg hw (fun S' hS hΔ hdd X a w hr' => ?_)
  have r1 := hr'.weaken (S' := ⟨(t, .sl (chop d.size (n + 1) cs)) :: e, l, G⟩) (by rw [hS]; exact cons_le hr)
  have r2 := rx_de (y := .sl rows) r1.rx (t := t) (x := .sl (chop d.size (n + 1) cs)) (by rw [lk_cons, if_pos rfl]) rfl rfl (fun v hv => by rw [← h7]; exact hv.deR)
  refine hk.h hΔ hdd X a w (Rdy.weaken (S := ⟨(t, .sl rows) :: (t, .sl (chop d.size (n + 1) cs)) :: e, l, G⟩) ⟨r2, r1.n, r1.d, r1.fs⟩ ⟨fun u x hx => ?_, fun _ _ h => h, fun _ _ h => h⟩)
  simp only [St.get] at hx ⊢
  rw [lk_cons] at hx ⊢
  by_cases c : t = u
  · rw [if_pos c] at hx ⊢; exact hx
  · rw [if_neg c] at hx ⊢; rw [lk_cons, if_neg c]; exact hx

theorem fin_ {x : Exit} {rs : List ResultVar} {Post : AV → Objs → Prop} (hT : ∀ x a w, (∃ S X, finQ F rs G Post x S ∧ Rdy F T S X a w) → T.Q x a w) (h : nxt k x = ([], .normal) ∨ nxt k x = ([], .ret))
    (key : evEnd F rs ⟨e, l, G⟩ (fun r G'' => ∃ G', Post r.deEmp G' ∧ (∀ id cs, G' id = some cs → G'' id = some cs) ∧ (F.qt = true → G' = G))) : E2 F T k x e l G := by
  refine ⟨fun X a w hr => ?_⟩
  rw [nxt_eq]
  rcases h with h | h <;> rw [h] <;> exact hT _ a w ⟨_, X, key, hr⟩
theorem n_end {x : Exit} {rs : List ResultVar} {Post : AV → Objs → Prop} {v : AV} {S : St} (hT : ∀ x a w, (∃ S X, finQ F rs G Post x S ∧ Rdy F T S X a w) → T.Q x a w) (hp : Post v.deEmp G) (h : nxt k x = ([], .normal) ∨ nxt k x = ([], .ret) := by first | exact .inl rfl | exact .inr rfl)
    (h1 : St.frzResOk ⟨e, l, G⟩ F rs = true := by exact rfl) (h2 : St.frzRes ⟨e, l, G⟩ F rs = S := by exact rfl) (h3 : resAll F S rs = some [v] := by exact rfl) (h4 : v.isDeep = true := by exact rfl) (h5 : S.G = G := by exact rfl) : E2 F T k x e l G := by
  refine fin_ hT h (.inr ⟨h1, ?_⟩)
  rw [h2, h3]
  exact ⟨h4, G, hp, fun id cs hh => by rw [h5]; exact hh, fun _ => rfl⟩
theorem n_ends {x : Exit} {rs : List ResultVar} {Post : AV → Objs → Prop} {v1 v2 : AV} {vs : List AV} {S : St} (hT : ∀ x a w, (∃ S X, finQ F rs G Post x S ∧ Rdy F T S X a w) → T.Q x a w) (hp : Post (AV.deEmp (.tup (v1 :: v2 :: vs))) G) (h : nxt k x = ([], .normal) ∨ nxt k x = ([], .ret) := by first | exact .inl rfl | exact .inr rfl)
    (h1 : St.frzResOk ⟨e, l, G⟩ F rs = true := by exact rfl) (h2 : St.frzRes ⟨e, l, G⟩ F rs = S := by exact rfl) (h3 : resAll F S rs = some (v1 :: v2 :: vs) := by exact rfl) (h4 : (v1 :: v2 :: vs).all AV.isDeep = true := by exact rfl) (h5 : S.G = G := by exact rfl) : E2 F T k x e l G := by
  refine fin_ hT h (.inr ⟨h1, ?_⟩)
  rw [h2, h3]
  exact ⟨h4, G, hp, fun id cs hh => by rw [h5]; exact hh, fun _ => rfl⟩

variable {A : Prop}
theorem mB {β γ : Type} {m : Option β} {c : β → Option γ} {r : γ} (h : m.bind c = some r) (h1 : ∀ t, m = some t → c t = some r → A) : A := by
  obtain ⟨t, ht, h⟩ := Option.bind_eq_some_iff.1 h
  exact h1 t ht h
theorem mI {P : Prop} {dP : Decidable P} {α : Type} {X : Option α} {r : α} (h : (if P then X else none) = some r) (h1 : P → X = some r → A) : A := by
  by_cases c : P
  · rw [if_pos c] at h; exact h1 c h
  · rw [if_neg c] at h; cases h
theorem mE {P : Prop} {dP : Decidable P} {α : Type} {X : Option α} {r : α} (h : (if P then none else X) = some r) (h1 : ¬ P → X = some r → A) : A := by
  by_cases c : P
  · rw [if_pos c] at h; cases h
  · rw [if_neg c] at h; exact h1 c h
theorem mS {β γ : Type} {v : β} {c : β → Option γ} {r : γ} (h : (some v).bind c = some r) (h1 : c v = some r → A) : A := h1 h
theorem mT {P : Prop} {dP : Decidable P} {α : Type} {X Y : Option α} {r : α} (h : (if P then X else Y) = some r) (h1 : X = some r → A) (hp : P := by first | assumption | omega | (simp [*] <;> fail)) : A := by
  rw [if_pos hp] at h; exact h1 h
theorem mF {P : Prop} {dP : Decidable P} {α : Type} {X Y : Option α} {r : α} (h : (if P then X else Y) = some r) (h1 : Y = some r → A) (hp : ¬ P := by first | assumption | omega | (simp [*] <;> fail)) : A := by
  rw [if_neg hp] at h; exact h1 h
end Go.AL
end
section
set_option linter.unusedVariables false
namespace Go.AL
variable {F : Cfg} {T : Task F} {k : List Frm} {e : Env} {l : Loc} {G : Objs}
inductive LI1 {T1 : Type} (E : T1 → Env) (L : T1 → Loc) (G : Objs) (Φ : Nat → T1 → Prop) : Nat → St → Prop
  | mk (m : Nat) (x1 : T1) (h : Φ m x1) : LI1 E L G Φ m ⟨E x1, L x1, G⟩
inductive LI2 {T1 T2 : Type} (E : T1 → T2 → Env) (L : T1 → T2 → Loc) (G : Objs) (Φ : Nat → T1 → T2 → Prop) : Nat → St → Prop
  | mk (m : Nat) (x1 : T1) (x2 : T2) (h : Φ m x1 x2) : LI2 E L G Φ m ⟨E x1 x2, L x1 x2, G⟩
theorem lp2 {T1 T2 : Type} (E : T1 → T2 → Env) (L : T1 → T2 → Loc) (Φ : Nat → T1 → T2 → Prop) {c : Code} {m : Nat} {a1 : T1} {a2 : T2} (h0 : Φ m a1 a2) (hr : ∀ (m : Nat) (x1 : T1) (x2 : T2), Φ m x1 x2 → E1 F T (.loop (LI2 E L G Φ) m :: k) c (E x1 x2) (L x1 x2) G)
    (he : leL e (E a1 a2) := by ((repeat refine And.intro rfl ?_); exact trivial)) (hl : leL l (L a1 a2) := by ((repeat refine And.intro rfl ?_); exact trivial)) : E1 F T k (.loop c) e l G := by
  refine ⟨fun hc X A w hr0 => ?_⟩
  refine wp_loop_ghost (fun m a w => ∃ S X, LI2 E L G Φ m S ∧ Rdy F T S X a w) m ⟨⟨E a1 a2, L a1 a2, G⟩, X, LI2.mk m a1 a2 h0, hr0.weaken (le_of he hl rfl)⟩ ?_
  rintro m A w ⟨S, X, hS, hR⟩
  cases hS with
  | mk x1 x2 h =>
    refine wp_mono ((hr m x1 x2 h).h (by simpa only [codeOk] using hc) X A w hR) ?_
    intro x A' w' hq
    cases x with
    | normal => obtain ⟨m', S, X, h1, h2, h3⟩ := hq; exact ⟨m', h1, S, X, h2, h3⟩
    | _ => exact hq
theorem ag2 {T1 T2 : Type} {E : T1 → T2 → Env} {L : T1 → T2 → Loc} {Φ : Nat → T1 → T2 → Prop} {k' : List Frm} {x : Exit} {m m' : Nat} {a1 : T1} {a2 : T2} (hn : nxt k x = (.loop (LI2 E L G Φ) m :: k', .normal)) (h : Φ m' a1 a2) (hm : m' < m := by omega)
    (he : leL e (E a1 a2) := by ((repeat refine And.intro rfl ?_); exact trivial)) (hl : leL l (L a1 a2) := by ((repeat refine And.intro rfl ?_); exact trivial)) : E2 F T k x e l G :=
  ⟨fun X A w hr => by rw [nxt_eq, hn]; exact ⟨m', ⟨E a1 a2, L a1 a2, G⟩, X, hm, LI2.mk m' a1 a2 h, hr.weaken (le_of he hl rfl)⟩⟩
inductive LI3 {T1 T2 T3 : Type} (E : T1 → T2 → T3 → Env) (L : T1 → T2 → T3 → Loc) (G : Objs) (Φ : Nat → T1 → T2 → T3 → Prop) : Nat → St → Prop
  | mk (m : Nat) (x1 : T1) (x2 : T2) (x3 : T3) (h : Φ m x1 x2 x3) : LI3 E L G Φ m ⟨E x1 x2 x3, L x1 x2 x3, G⟩
theorem lp3 {T1 T2 T3 : Type} (E : T1 → T2 → T3 → Env) (L : T1 → T2 → T3 → Loc) (Φ : Nat → T1 → T2 → T3 → Prop) {c : Code} {m : Nat} {a1 : T1} {a2 : T2} {a3 : T3} (h0 : Φ m a1 a2 a3) (hr : ∀ (m : Nat) (x1 : T1) (x2 : T2) (x3 : T3), Φ m x1 x2 x3 → E1 F T (.loop (LI3 E L G Φ) m :: k) c (E x1 x2 x3) (L x1 x2 x3) G)
    (he : leL e (E a1 a2 a3) := by ((repeat refine And.intro rfl ?_); exact trivial)) (hl : leL l (L a1 a2 a3) := by ((repeat refine And.intro rfl ?_); exact trivial)) : E1 F T k (.loop c) e l G := by
  refine ⟨fun hc X A w hr0 => ?_⟩
  refine wp_loop_ghost (fun m a w => ∃ S X, LI3 E L G Φ m S ∧ Rdy F T S X a w) m ⟨⟨E a1 a2 a3, L a1 a2 a3, G⟩, X, LI3.mk m a1 a2 a3 h0, hr0.weaken (le_of he hl rfl)⟩ ?_
  rintro m A w ⟨S, X, hS, hR⟩
  cases hS with
  | mk x1 x2 x3 h =>
    refine wp_mono ((hr m x1 x2 x3 h).h (by simpa only [codeOk] using hc) X A w hR) ?_
    intro x A' w' hq
    cases x with
    | normal => obtain ⟨m', S, X, h1, h2, h3⟩ := hq; exact ⟨m', h1, S, X, h2, h3⟩
    | _ => exact hq
theorem ag3 {T1 T2 T3 : Type} {E : T1 → T2 → T3 → Env} {L : T1 → T2 → T3 → Loc} {Φ : Nat → T1 → T2 → T3 → Prop} {k' : List Frm} {x : Exit} {m m' : Nat} {a1 : T1} {a2 : T2} {a3 : T3} (hn : nxt k x = (.loop (LI3 E L G Φ) m :: k', .normal)) (h : Φ m' a1 a2 a3) (hm : m' < m := by omega)
    (he : leL e (E a1 a2 a3) := by ((repeat refine And.intro rfl ?_); exact trivial)) (hl : leL l (L a1 a2 a3) := by ((repeat refine And.intro rfl ?_); exact trivial)) : E2 F T k x e l G :=
  ⟨fun X A w hr => by rw [nxt_eq, hn]; exact ⟨m', ⟨E a1 a2 a3, L a1 a2 a3, G⟩, X, hm, LI3.mk m' a1 a2 a3 h, hr.weaken (le_of he hl rfl)⟩⟩
inductive LI4 {T1 T2 T3 T4 : Type} (E : T1 → T2 → T3 → T4 → Env) (L : T1 → T2 → T3 → T4 → Loc) (G : Objs) (Φ : Nat → T1 → T2 → T3 → T4 → Prop) : Nat → St → Prop
  | mk (m : Nat) (x1 : T1) (x2 : T2) (x3 : T3) (x4 : T4) (h : Φ m x1 x2 x3 x4) : LI4 E L G Φ m ⟨E x1 x2 x3 x4, L x1 x2 x3 x4, G⟩
theorem lp4 {T1 T2 T3 T4 : Type} (E : T1 → T2 → T3 → T4 → Env) (L : T1 → T2 → T3 → T4 → Loc) (Φ : Nat → T1 → T2 → T3 → T4 → Prop) {c : Code} {m : Nat} {a1 : T1} {a2 : T2} {a3 : T3} {a4 : T4} (h0 : Φ m a1 a2 a3 a4) (hr : ∀ (m : Nat) (x1 : T1) (x2 : T2) (x3 : T3) (x4 : T4), Φ m x1 x2 x3 x4 → E1 F T (.loop (LI4 E L G Φ) m :: k) c (E x1 x2 x3 x4) (L x1 x2 x3 x4) G)
    (he : leL e (E a1 a2 a3 a4) := by ((repeat refine And.intro rfl ?_); exact trivial)) (hl : leL l (L a1 a2 a3 a4) := by ((repeat refine And.intro rfl ?_); exact trivial)) : E1 F T k (.loop c) e l G := by
  refine ⟨fun hc X A w hr0 => ?_⟩
  refine wp_loop_ghost (fun m a w => ∃ S X, LI4 E L G Φ m S ∧ Rdy F T S X a w) m ⟨⟨E a1 a2 a3 a4, L a1 a2 a3 a4, G⟩, X, LI4.mk m a1 a2 a3 a4 h0, hr0.weaken (le_of he hl rfl)⟩ ?_
  rintro m A w ⟨S, X, hS, hR⟩
  cases hS with
  | mk x1 x2 x3 x4 h =>
    refine wp_mono ((hr m x1 x2 x3 x4 h).h (by simpa only [codeOk] using hc) X A w hR) ?_
    intro x A' w' hq
    cases x with
    | normal => obtain ⟨m', S, X, h1, h2, h3⟩ := hq; exact ⟨m', h1, S, X, h2, h3⟩
    | _ => exact hq
theorem ag4 {T1 T2 T3 T4 : Type} {E : T1 → T2 → T3 → T4 → Env} {L : T1 → T2 → T3 → T4 → Loc} {Φ : Nat → T1 → T2 → T3 → T4 → Prop} {k' : List Frm} {x : Exit} {m m' : Nat} {a1 : T1} {a2 : T2} {a3 : T3} {a4 : T4} (hn : nxt k x = (.loop (LI4 E L G Φ) m :: k', .normal)) (h : Φ m' a1 a2 a3 a4) (hm : m' < m := by omega)
    (he : leL e (E a1 a2 a3 a4) := by ((repeat refine And.intro rfl ?_); exact trivial)) (hl : leL l (L a1 a2 a3 a4) := by ((repeat refine And.intro rfl ?_); exact trivial)) : E2 F T k x e l G :=
  ⟨fun X A w hr => by rw [nxt_eq, hn]; exact ⟨m', ⟨E a1 a2 a3 a4, L a1 a2 a3 a4, G⟩, X, hm, LI4.mk m' a1 a2 a3 a4 h, hr.weaken (le_of he hl rfl)⟩⟩
inductive LI5 {T1 T2 T3 T4 T5 : Type} (E : T1 → T2 → T3 → T4 → T5 → Env) (L : T1 → T2 → T3 → T4 → T5 → Loc) (G : Objs) (Φ : Nat → T1 → T2 → T3 → T4 → T5 → Prop) : Nat → St → Prop
  | mk (m : Nat) (x1 : T1) (x2 : T2) (x3 : T3) (x4 : T4) (x5 : T5) (h : Φ m x1 x2 x3 x4 x5) : LI5 E L G Φ m ⟨E x1 x2 x3 x4 x5, L x1 x2 x3 x4 x5, G⟩
theorem lp5 {T1 T2 T3 T4 T5 : Type} (E : T1 → T2 → T3 → T4 → T5 → Env) (L : T1 → T2 → T3 → T4 → T5 → Loc) (Φ : Nat → T1 → T2 → T3 → T4 → T5 → Prop) {c : Code} {m : Nat} {a1 : T1} {a2 : T2} {a3 : T3} {a4 : T4} {a5 : T5} (h0 : Φ m a1 a2 a3 a4 a5) (hr : ∀ (m : Nat) (x1 : T1) (x2 : T2) (x3 : T3) (x4 : T4) (x5 : T5), Φ m x1 x2 x3 x4 x5 → E1 F T (.loop (LI5 E L G Φ) m :: k) c (E x1 x2 x3 x4 x5) (L x1 x2 x3 x4 x5) G)
    (he : leL e (E a1 a2 a3 a4 a5) := by ((repeat refine And.intro rfl ?_); exact trivial)) (hl : leL l (L a1 a2 a3 a4 a5) := by ((repeat refine And.intro rfl ?_); exact trivial)) : E1 F T k (.loop c) e l G := by
  refine ⟨fun hc X A w hr0 => ?_⟩
  refine wp_loop_ghost (fun m a w => ∃ S X, LI5 E L G Φ m S ∧ Rdy F T S X a w) m ⟨⟨E a1 a2 a3 a4 a5, L a1 a2 a3 a4 a5, G⟩, X, LI5.mk m a1 a2 a3 a4 a5 h0, hr0.weaken (le_of he hl rfl)⟩ ?_
  rintro m A w ⟨S, X, hS, hR⟩
  cases hS with
  | mk x1 x2 x3 x4 x5 h =>
    refine wp_mono ((hr m x1 x2 x3 x4 x5 h).h (by simpa only [codeOk] using hc) X A w hR) ?_
    intro x A' w' hq
    cases x with
    | normal => obtain ⟨m', S, X, h1, h2, h3⟩ := hq; exact ⟨m', h1, S, X, h2, h3⟩
    | _ => exact hq
theorem ag5 {T1 T2 T3 T4 T5 : Type} {E : T1 → T2 → T3 → T4 → T5 → Env} {L : T1 → T2 → T3 → T4 → T5 → Loc} {Φ : Nat → T1 → T2 → T3 → T4 → T5 → Prop} {k' : List Frm} {x : Exit} {m m' : Nat} {a1 : T1} {a2 : T2} {a3 : T3} {a4 : T4} {a5 : T5} (hn : nxt k x = (.loop (LI5 E L G Φ) m :: k', .normal)) (h : Φ m' a1 a2 a3 a4 a5) (hm : m' < m := by omega)
    (he : leL e (E a1 a2 a3 a4 a5) := by ((repeat refine And.intro rfl ?_); exact trivial)) (hl : leL l (L a1 a2 a3 a4 a5) := by ((repeat refine And.intro rfl ?_); exact trivial)) : E2 F T k x e l G :=
  ⟨fun X A w hr => by rw [nxt_eq, hn]; exact ⟨m', ⟨E a1 a2 a3 a4 a5, L a1 a2 a3 a4 a5, G⟩, X, hm, LI5.mk m' a1 a2 a3 a4 a5 h, hr.weaken (le_of he hl rfl)⟩⟩
inductive LI6 {T1 T2 T3 T4 T5 T6 : Type} (E : T1 → T2 → T3 → T4 → T5 → T6 → Env) (L : T1 → T2 → T3 → T4 → T5 → T6 → Loc) (G : Objs) (Φ : Nat → T1 → T2 → T3 → T4 → T5 → T6 → Prop) : Nat → St → Prop
  | mk (m : Nat) (x1 : T1) (x2 : T2) (x3 : T3) (x4 : T4) (x5 : T5) (x6 : T6) (h : Φ m x1 x2 x3 x4 x5 x6) : LI6 E L G Φ m ⟨E x1 x2 x3 x4 x5 x6, L x1 x2 x3 x4 x5 x6, G⟩
theorem sc6 {T1 T2 T3 T4 T5 T6 : Type} (lb : Nat) (E : T1 → T2 → T3 → T4 → T5 → T6 → Env) (L : T1 → T2 → T3 → T4 → T5 → T6 → Loc) (Φ : Nat → T1 → T2 → T3 → T4 → T5 → T6 → Prop) {b rest : Code} {fr : List Frm} (hr : ∀ (m : Nat) (x1 : T1) (x2 : T2) (x3 : T3) (x4 : T4) (x5 : T5) (x6 : T6), Φ m x1 x2 x3 x4 x5 x6 → E2 F T (fr ++ .lab lb (LI6 E L G Φ) (some m) :: k) .normal (E x1 x2 x3 x4 x5 x6) (L x1 x2 x3 x4 x5 x6) G)
    (h1 : (∀ (m : Nat) (x1 : T1) (x2 : T2) (x3 : T3) (x4 : T4) (x5 : T5) (x6 : T6), Φ m x1 x2 x3 x4 x5 x6 → E2 F T (fr ++ .lab lb (LI6 E L G Φ) none :: k) .normal (E x1 x2 x3 x4 x5 x6) (L x1 x2 x3 x4 x5 x6) G) → E1 F T (.lab lb (LI6 E L G Φ) none :: k) b e l G)
    (hf : findLabel b lb = some rest := by exact rfl) (hfr : frs rest = some fr := by exact rfl) : E1 F T k (.scope b) e l G := by
  refine scope_ hf (h1 fun m x1 x2 x3 x4 x5 x6 h => ⟨fun X a w hR => lab_mono ((hr m x1 x2 x3 x4 x5 x6 h).h X a w hR)⟩) (fun m S hS X a w hR hc => ?_)
  cases hS with
  | mk x1 x2 x3 x4 x5 x6 h => exact frs_ok hfr (hr m x1 x2 x3 x4 x5 x6 h).h hc X a w hR
theorem jp6 {T1 T2 T3 T4 T5 T6 : Type} {E : T1 → T2 → T3 → T4 → T5 → T6 → Env} {L : T1 → T2 → T3 → T4 → T5 → T6 → Loc} {Φ : Nat → T1 → T2 → T3 → T4 → T5 → T6 → Prop} {k' : List Frm} {lb : Nat} {b : Option Nat} {m' : Nat} {a1 : T1} {a2 : T2} {a3 : T3} {a4 : T4} {a5 : T5} {a6 : T6} (hn : nxt k (.goto lb) = (.lab lb (LI6 E L G Φ) b :: k', .goto lb)) (h : Φ m' a1 a2 a3 a4 a5 a6) (hm : ∀ m, b = some m → m' < m := by (intro m hm; cases hm <;> omega))
    (he : leL e (E a1 a2 a3 a4 a5 a6) := by ((repeat refine And.intro rfl ?_); exact trivial)) (hl : leL l (L a1 a2 a3 a4 a5 a6) := by ((repeat refine And.intro rfl ?_); exact trivial)) : E2 F T k (.goto lb) e l G :=
  ⟨fun X A w hr => by rw [nxt_eq, hn]; exact ⟨rfl, m', ⟨E a1 a2 a3 a4 a5 a6, L a1 a2 a3 a4 a5 a6, G⟩, X, hm, LI6.mk m' a1 a2 a3 a4 a5 a6 h, hr.weaken (le_of he hl rfl)⟩⟩
inductive LI7 {T1 T2 T3 T4 T5 T6 T7 : Type} (E : T1 → T2 → T3 → T4 → T5 → T6 → T7 → Env) (L : T1 → T2 → T3 → T4 → T5 → T6 → T7 → Loc) (G : Objs) (Φ : Nat → T1 → T2 → T3 → T4 → T5 → T6 → T7 → Prop) : Nat → St → Prop
  | mk (m : Nat) (x1 : T1) (x2 : T2) (x3 : T3) (x4 : T4) (x5 : T5) (x6 : T6) (x7 : T7) (h : Φ m x1 x2 x3 x4 x5 x6 x7) : LI7 E L G Φ m ⟨E x1 x2 x3 x4 x5 x6 x7, L x1 x2 x3 x4 x5 x6 x7, G⟩
theorem lp7 {T1 T2 T3 T4 T5 T6 T7 : Type} (E : T1 → T2 → T3 → T4 → T5 → T6 → T7 → Env) (L : T1 → T2 → T3 → T4 → T5 → T6 → T7 → Loc) (Φ : Nat → T1 → T2 → T3 → T4 → T5 → T6 → T7 → Prop) {c : Code} {m : Nat} {a1 : T1} {a2 : T2} {a3 : T3} {a4 : T4} {a5 : T5} {a6 : T6} {a7 : T7} (h0 : Φ m a1 a2 a3 a4 a5 a6 a7) (hr : ∀ (m : Nat) (x1 : T1) (x2 : T2) (x3 : T3) (x4 : T4) (x5 : T5) (x6 : T6) (x7 : T7), Φ m x1 x2 x3 x4 x5 x6 x7 → E1 F T (.loop (LI7 E L G Φ) m :: k) c (E x1 x2 x3 x4 x5 x6 x7) (L x1 x2 x3 x4 x5 x6 x7) G)
    (he : leL e (E a1 a2 a3 a4 a5 a6 a7) := by ((repeat refine And.intro rfl ?_); exact trivial)) (hl : leL l (L a1 a2 a3 a4 a5 a6 a7) := by ((repeat refine And.intro rfl ?_); exact trivial)) : E1 F T k (.loop c) e l G := by
  refine ⟨fun hc X A w hr0 => ?_⟩
  refine wp_loop_ghost (fun m a w => ∃ S X, LI7 E L G Φ m S ∧ Rdy F T S X a w) m ⟨⟨E a1 a2 a3 a4 a5 a6 a7, L a1 a2 a3 a4 a5 a6 a7, G⟩, X, LI7.mk m a1 a2 a3 a4 a5 a6 a7 h0, hr0.weaken (le_of he hl rfl)⟩ ?_
  rintro m A w ⟨S, X, hS, hR⟩
  cases hS with
  | mk x1 x2 x3 x4 x5 x6 x7 h =>
    refine wp_mono ((hr m x1 x2 x3 x4 x5 x6 x7 h).h (by simpa only [codeOk] using hc) X A w hR) ?_
    intro x A' w' hq
    cases x with
    | normal => obtain ⟨m', S, X, h1, h2, h3⟩ := hq; exact ⟨m', h1, S, X, h2, h3⟩
    | _ => exact hq
theorem ag7 {T1 T2 T3 T4 T5 T6 T7 : Type} {E : T1 → T2 → T3 → T4 → T5 → T6 → T7 → Env} {L : T1 → T2 → T3 → T4 → T5 → T6 → T7 → Loc} {Φ : Nat → T1 → T2 → T3 → T4 → T5 → T6 → T7 → Prop} {k' : List Frm} {x : Exit} {m m' : Nat} {a1 : T1} {a2 : T2} {a3 : T3} {a4 : T4} {a5 : T5} {a6 : T6} {a7 : T7} (hn : nxt k x = (.loop (LI7 E L G Φ) m :: k', .normal)) (h : Φ m' a1 a2 a3 a4 a5 a6 a7) (hm : m' < m := by omega)
    (he : leL e (E a1 a2 a3 a4 a5 a6 a7) := by ((repeat refine And.intro rfl ?_); exact trivial)) (hl : leL l (L a1 a2 a3 a4 a5 a6 a7) := by ((repeat refine And.intro rfl ?_); exact trivial)) : E2 F T k x e l G :=
  ⟨fun X A w hr => by rw [nxt_eq, hn]; exact ⟨m', ⟨E a1 a2 a3 a4 a5 a6 a7, L a1 a2 a3 a4 a5 a6 a7, G⟩, X, hm, LI7.mk m' a1 a2 a3 a4 a5 a6 a7 h, hr.weaken (le_of he hl rfl)⟩⟩
inductive LI8 {T1 T2 T3 T4 T5 T6 T7 T8 : Type} (E : T1 → T2 → T3 → T4 → T5 → T6 → T7 → T8 → Env) (L : T1 → T2 → T3 → T4 → T5 → T6 → T7 → T8 → Loc) (G : Objs) (Φ : Nat → T1 → T2 → T3 → T4 → T5 → T6 → T7 → T8 → Prop) : Nat → St → Prop
  | mk (m : Nat) (x1 : T1) (x2 : T2) (x3 : T3) (x4 : T4) (x5 : T5) (x6 : T6) (x7 : T7) (x8 : T8) (h : Φ m x1 x2 x3 x4 x5 x6 x7 x8) : LI8 E L G Φ m ⟨E x1 x2 x3 x4 x5 x6 x7 x8, L x1 x2 x3 x4 x5 x6 x7 x8, G⟩
inductive LI9 {T1 T2 T3 T4 T5 T6 T7 T8 T9 : Type} (E : T1 → T2 → T3 → T4 → T5 → T6 → T7 → T8 → T9 → Env) (L : T1 → T2 → T3 → T4 → T5 → T6 → T7 → T8 → T9 → Loc) (G : Objs) (Φ : Nat → T1 → T2 → T3 → T4 → T5 → T6 → T7 → T8 → T9 → Prop) : Nat → St → Prop
  | mk (m : Nat) (x1 : T1) (x2 : T2) (x3 : T3) (x4 : T4) (x5 : T5) (x6 : T6) (x7 : T7) (x8 : T8) (x9 : T9) (h : Φ m x1 x2 x3 x4 x5 x6 x7 x8 x9) : LI9 E L G Φ m ⟨E x1 x2 x3 x4 x5 x6 x7 x8 x9, L x1 x2 x3 x4 x5 x6 x7 x8 x9, G⟩
theorem lp9 {T1 T2 T3 T4 T5 T6 T7 T8 T9 : Type} (E : T1 → T2 → T3 → T4 → T5 → T6 → T7 → T8 → T9 → Env) (L : T1 → T2 → T3 → T4 → T5 → T6 → T7 → T8 → T9 → Loc) (Φ : Nat → T1 → T2 → T3 → T4 → T5 → T6 → T7 → T8 → T9 → Prop) {c : Code} {m : Nat} {a1 : T1} {a2 : T2} {a3 : T3} {a4 : T4} {a5 : T5} {a6 : T6} {a7 : T7} {a8 : T8} {a9 : T9} (h0 : Φ m a1 a2 a3 a4 a5 a6 a7 a8 a9) (hr : ∀ (m : Nat) (x1 : T1) (x2 : T2) (x3 : T3) (x4 : T4) (x5 : T5) (x6 : T6) (x7 : T7) (x8 : T8) (x9 : T9), Φ m x1 x2 x3 x4 x5 x6 x7 x8 x9 → E1 F T (.loop (LI9 E L G Φ) m :: k) c (E x1 x2 x3 x4 x5 x6 x7 x8 x9) (L x1 x2 x3 x4 x5 x6 x7 x8 x9) G)
    (he : leL e (E a1 a2 a3 a4 a5 a6 a7 a8 a9) := by ((repeat refine And.intro rfl ?_); exact trivial)) (hl : leL l (L a1 a2 a3 a4 a5 a6 a7 a8 a9) := by ((repeat refine And.intro rfl ?_); exact trivial)) : E1 F T k (.loop c) e l G := by
  refine ⟨fun hc X A w hr0 => ?_⟩
  refine wp_loop_ghost (fun m a w => ∃ S X, LI9 E L G Φ m S ∧ Rdy F T S X a w) m ⟨⟨E a1 a2 a3 a4 a5 a6 a7 a8 a9, L a1 a2 a3 a4 a5 a6 a7 a8 a9, G⟩, X, LI9.mk m a1 a2 a3 a4 a5 a6 a7 a8 a9 h0, hr0.weaken (le_of he hl rfl)⟩ ?_
  rintro m A w ⟨S, X, hS, hR⟩
  cases hS with
  | mk x1 x2 x3 x4 x5 x6 x7 x8 x9 h =>
    refine wp_mono ((hr m x1 x2 x3 x4 x5 x6 x7 x8 x9 h).h (by simpa only [codeOk] using hc) X A w hR) ?_
    intro x A' w' hq
    cases x with
    | normal => obtain ⟨m', S, X, h1, h2, h3⟩ := hq; exact ⟨m', h1, S, X, h2, h3⟩
    | _ => exact hq
theorem ag9 {T1 T2 T3 T4 T5 T6 T7 T8 T9 : Type} {E : T1 → T2 → T3 → T4 → T5 → T6 → T7 → T8 → T9 → Env} {L : T1 → T2 → T3 → T4 → T5 → T6 → T7 → T8 → T9 → Loc} {Φ : Nat → T1 → T2 → T3 → T4 → T5 → T6 → T7 → T8 → T9 → Prop} {k' : List Frm} {x : Exit} {m m' : Nat} {a1 : T1} {a2 : T2} {a3 : T3} {a4 : T4} {a5 : T5} {a6 : T6} {a7 : T7} {a8 : T8} {a9 : T9} (hn : nxt k x = (.loop (LI9 E L G Φ) m :: k', .normal)) (h : Φ m' a1 a2 a3 a4 a5 a6 a7 a8 a9) (hm : m' < m := by omega)
    (he : leL e (E a1 a2 a3 a4 a5 a6 a7 a8 a9) := by ((repeat refine And.intro rfl ?_); exact trivial)) (hl : leL l (L a1 a2 a3 a4 a5 a6 a7 a8 a9) := by ((repeat refine And.intro rfl ?_); exact trivial)) : E2 F T k x e l G :=
  ⟨fun X A w hr => by rw [nxt_eq, hn]; exact ⟨m', ⟨E a1 a2 a3 a4 a5 a6 a7 a8 a9, L a1 a2 a3 a4 a5 a6 a7 a8 a9, G⟩, X, hm, LI9.mk m' a1 a2 a3 a4 a5 a6 a7 a8 a9 h, hr.weaken (le_of he hl rfl)⟩⟩
inductive LI10 {T1 T2 T3 T4 T5 T6 T7 T8 T9 T10 : Type} (E : T1 → T2 → T3 → T4 → T5 → T6 → T7 → T8 → T9 → T10 → Env) (L : T1 → T2 → T3 → T4 → T5 → T6 → T7 → T8 → T9 → T10 → Loc) (G : Objs) (Φ : Nat → T1 → T2 → T3 → T4 → T5 → T6 → T7 → T8 → T9 → T10 → Prop) : Nat → St → Prop
  | mk (m : Nat) (x1 : T1) (x2 : T2) (x3 : T3) (x4 : T4) (x5 : T5) (x6 : T6) (x7 : T7) (x8 : T8) (x9 : T9) (x10 : T10) (h : Φ m x1 x2 x3 x4 x5 x6 x7 x8 x9 x10) : LI10 E L G Φ m ⟨E x1 x2 x3 x4 x5 x6 x7 x8 x9 x10, L x1 x2 x3 x4 x5 x6 x7 x8 x9 x10, G⟩
theorem lp10 {T1 T2 T3 T4 T5 T6 T7 T8 T9 T10 : Type} (E : T1 → T2 → T3 → T4 → T5 → T6 → T7 → T8 → T9 → T10 → Env) (L : T1 → T2 → T3 → T4 → T5 → T6 → T7 → T8 → T9 → T10 → Loc) (Φ : Nat → T1 → T2 → T3 → T4 → T5 → T6 → T7 → T8 → T9 → T10 → Prop) {c : Code} {m : Nat} {a1 : T1} {a2 : T2} {a3 : T3} {a4 : T4} {a5 : T5} {a6 : T6} {a7 : T7} {a8 : T8} {a9 : T9} {a10 : T10} (h0 : Φ m a1 a2 a3 a4 a5 a6 a7 a8 a9 a10) (hr : ∀ (m : Nat) (x1 : T1) (x2 : T2) (x3 : T3) (x4 : T4) (x5 : T5) (x6 : T6) (x7 : T7) (x8 : T8) (x9 : T9) (x10 : T10), Φ m x1 x2 x3 x4 x5 x6 x7 x8 x9 x10 → E1 F T (.loop (LI10 E L G Φ) m :: k) c (E x1 x2 x3 x4 x5 x6 x7 x8 x9 x10) (L x1 x2 x3 x4 x5 x6 x7 x8 x9 x10) G)
    (he : leL e (E a1 a2 a3 a4 a5 a6 a7 a8 a9 a10) := by ((repeat refine And.intro rfl ?_); exact trivial)) (hl : leL l (L a1 a2 a3 a4 a5 a6 a7 a8 a9 a10) := by ((repeat refine And.intro rfl ?_); exact trivial)) : E1 F T k (.loop c) e l G := by
  refine ⟨fun hc X A w hr0 => ?_⟩
  refine wp_loop_ghost (fun m a w => ∃ S X, LI10 E L G Φ m S ∧ Rdy F T S X a w) m ⟨⟨E a1 a2 a3 a4 a5 a6 a7 a8 a9 a10, L a1 a2 a3 a4 a5 a6 a7 a8 a9 a10, G⟩, X, LI10.mk m a1 a2 a3 a4 a5 a6 a7 a8 a9 a10 h0, hr0.weaken (le_of he hl rfl)⟩ ?_
  rintro m A w ⟨S, X, hS, hR⟩
  cases hS with
  | mk x1 x2 x3 x4 x5 x6 x7 x8 x9 x10 h =>
    refine wp_mono ((hr m x1 x2 x3 x4 x5 x6 x7 x8 x9 x10 h).h (by simpa only [codeOk] using hc) X A w hR) ?_
    intro x A' w' hq
    cases x with
    | normal => obtain ⟨m', S, X, h1, h2, h3⟩ := hq; exact ⟨m', h1, S, X, h2, h3⟩
    | _ => exact hq
theorem ag10 {T1 T2 T3 T4 T5 T6 T7 T8 T9 T10 : Type} {E : T1 → T2 → T3 → T4 → T5 → T6 → T7 → T8 → T9 → T10 → Env} {L : T1 → T2 → T3 → T4 → T5 → T6 → T7 → T8 → T9 → T10 → Loc} {Φ : Nat → T1 → T2 → T3 → T4 → T5 → T6 → T7 → T8 → T9 → T10 → Prop} {k' : List Frm} {x : Exit} {m m' : Nat} {a1 : T1} {a2 : T2} {a3 : T3} {a4 : T4} {a5 : T5} {a6 : T6} {a7 : T7} {a8 : T8} {a9 : T9} {a10 : T10} (hn : nxt k x = (.loop (LI10 E L G Φ) m :: k', .normal)) (h : Φ m' a1 a2 a3 a4 a5 a6 a7 a8 a9 a10) (hm : m' < m := by omega)
    (he : leL e (E a1 a2 a3 a4 a5 a6 a7 a8 a9 a10) := by ((repeat refine And.intro rfl ?_); exact trivial)) (hl : leL l (L a1 a2 a3 a4 a5 a6 a7 a8 a9 a10) := by ((repeat refine And.intro rfl ?_); exact trivial)) : E2 F T k x e l G :=
  ⟨fun X A w hr => by rw [nxt_eq, hn]; exact ⟨m', ⟨E a1 a2 a3 a4 a5 a6 a7 a8 a9 a10, L a1 a2 a3 a4 a5 a6 a7 a8 a9 a10, G⟩, X, hm, LI10.mk m' a1 a2 a3 a4 a5 a6 a7 a8 a9 a10 h, hr.weaken (le_of he hl rfl)⟩⟩
inductive LI11 {T1 T2 T3 T4 T5 T6 T7 T8 T9 T10 T11 : Type} (E : T1 → T2 → T3 → T4 → T5 → T6 → T7 → T8 → T9 → T10 → T11 → Env) (L : T1 → T2 → T3 → T4 → T5 → T6 → T7 → T8 → T9 → T10 → T11 → Loc) (G : Objs) (Φ : Nat → T1 → T2 → T3 → T4 → T5 → T6 → T7 → T8 → T9 → T10 → T11 → Prop) : Nat → St → Prop
  | mk (m : Nat) (x1 : T1) (x2 : T2) (x3 : T3) (x4 : T4) (x5 : T5) (x6 : T6) (x7 : T7) (x8 : T8) (x9 : T9) (x10 : T10) (x11 : T11) (h : Φ m x1 x2 x3 x4 x5 x6 x7 x8 x9 x10 x11) : LI11 E L G Φ m ⟨E x1 x2 x3 x4 x5 x6 x7 x8 x9 x10 x11, L x1 x2 x3 x4 x5 x6 x7 x8 x9 x10 x11, G⟩
theorem lp11 {T1 T2 T3 T4 T5 T6 T7 T8 T9 T10 T11 : Type} (E : T1 → T2 → T3 → T4 → T5 → T6 → T7 → T8 → T9 → T10 → T11 → Env) (L : T1 → T2 → T3 → T4 → T5 → T6 → T7 → T8 → T9 → T10 → T11 → Loc) (Φ : Nat → T1 → T2 → T3 → T4 → T5 → T6 → T7 → T8 → T9 → T10 → T11 → Prop) {c : Code} {m : Nat} {a1 : T1} {a2 : T2} {a3 : T3} {a4 : T4} {a5 : T5} {a6 : T6} {a7 : T7} {a8 : T8} {a9 : T9} {a10 : T10} {a11 : T11} (h0 : Φ m a1 a2 a3 a4 a5 a6 a7 a8 a9 a10 a11) (hr : ∀ (m : Nat) (x1 : T1) (x2 : T2) (x3 : T3) (x4 : T4) (x5 : T5) (x6 : T6) (x7 : T7) (x8 : T8) (x9 : T9) (x10 : T10) (x11 : T11), Φ m x1 x2 x3 x4 x5 x6 x7 x8 x9 x10 x11 → E1 F T (.loop (LI11 E L G Φ) m :: k) c (E x1 x2 x3 x4 x5 x6 x7 x8 x9 x10 x11) (L x1 x2 x3 x4 x5 x6 x7 x8 x9 x10 x11) G)
    (he : leL e (E a1 a2 a3 a4 a5 a6 a7 a8 a9 a10 a11) := by ((repeat refine And.intro rfl ?_); exact trivial)) (hl : leL l (L a1 a2 a3 a4 a5 a6 a7 a8 a9 a10 a11) := by ((repeat refine And.intro rfl ?_); exact trivial)) : E1 F T k (.loop c) e l G := by
  refine ⟨fun hc X A w hr0 => ?_⟩
  refine wp_loop_ghost (fun m a w => ∃ S X, LI11 E L G Φ m S ∧ Rdy F T S X a w) m ⟨⟨E a1 a2 a3 a4 a5 a6 a7 a8 a9 a10 a11, L a1 a2 a3 a4 a5 a6 a7 a8 a9 a10 a11, G⟩, X, LI11.mk m a1 a2 a3 a4 a5 a6 a7 a8 a9 a10 a11 h0, hr0.weaken (le_of he hl rfl)⟩ ?_
  rintro m A w ⟨S, X, hS, hR⟩
  cases hS with
  | mk x1 x2 x3 x4 x5 x6 x7 x8 x9 x10 x11 h =>
    refine wp_mono ((hr m x1 x2 x3 x4 x5 x6 x7 x8 x9 x10 x11 h).h (by simpa only [codeOk] using hc) X A w hR) ?_
    intro x A' w' hq
    cases x with
    | normal => obtain ⟨m', S, X, h1, h2, h3⟩ := hq; exact ⟨m', h1, S, X, h2, h3⟩
    | _ => exact hq
theorem ag11 {T1 T2 T3 T4 T5 T6 T7 T8 T9 T10 T11 : Type} {E : T1 → T2 → T3 → T4 → T5 → T6 → T7 → T8 → T9 → T10 → T11 → Env} {L : T1 → T2 → T3 → T4 → T5 → T6 → T7 → T8 → T9 → T10 → T11 → Loc} {Φ : Nat → T1 → T2 → T3 → T4 → T5 → T6 → T7 → T8 → T9 → T10 → T11 → Prop} {k' : List Frm} {x : Exit} {m m' : Nat} {a1 : T1} {a2 : T2} {a3 : T3} {a4 : T4} {a5 : T5} {a6 : T6} {a7 : T7} {a8 : T8} {a9 : T9} {a10 : T10} {a11 : T11} (hn : nxt k x = (.loop (LI11 E L G Φ) m :: k', .normal)) (h : Φ m' a1 a2 a3 a4 a5 a6 a7 a8 a9 a10 a11) (hm : m' < m := by omega)
    (he : leL e (E a1 a2 a3 a4 a5 a6 a7 a8 a9 a10 a11) := by ((repeat refine And.intro rfl ?_); exact trivial)) (hl : leL l (L a1 a2 a3 a4 a5 a6 a7 a8 a9 a10 a11) := by ((repeat refine And.intro rfl ?_); exact trivial)) : E2 F T k x e l G :=
  ⟨fun X A w hr => by rw [nxt_eq, hn]; exact ⟨m', ⟨E a1 a2 a3 a4 a5 a6 a7 a8 a9 a10 a11, L a1 a2 a3 a4 a5 a6 a7 a8 a9 a10 a11, G⟩, X, hm, LI11.mk m' a1 a2 a3 a4 a5 a6 a7 a8 a9 a10 a11 h, hr.weaken (le_of he hl rfl)⟩⟩
inductive LI12 {T1 T2 T3 T4 T5 T6 T7 T8 T9 T10 T11 T12 : Type} (E : T1 → T2 → T3 → T4 → T5 → T6 → T7 → T8 → T9 → T10 → T11 → T12 → Env) (L : T1 → T2 → T3 → T4 → T5 → T6 → T7 → T8 → T9 → T10 → T11 → T12 → Loc) (G : Objs) (Φ : Nat → T1 → T2 → T3 → T4 → T5 → T6 → T7 → T8 → T9 → T10 → T11 → T12 → Prop) : Nat → St → Prop
  | mk (m : Nat) (x1 : T1) (x2 : T2) (x3 : T3) (x4 : T4) (x5 : T5) (x6 : T6) (x7 : T7) (x8 : T8) (x9 : T9) (x10 : T10) (x11 : T11) (x12 : T12) (h : Φ m x1 x2 x3 x4 x5 x6 x7 x8 x9 x10 x11 x12) : LI12 E L G Φ m ⟨E x1 x2 x3 x4 x5 x6 x7 x8 x9 x10 x11 x12, L x1 x2 x3 x4 x5 x6 x7 x8 x9 x10 x11 x12, G⟩
theorem lp12 {T1 T2 T3 T4 T5 T6 T7 T8 T9 T10 T11 T12 : Type} (E : T1 → T2 → T3 → T4 → T5 → T6 → T7 → T8 → T9 → T10 → T11 → T12 → Env) (L : T1 → T2 → T3 → T4 → T5 → T6 → T7 → T8 → T9 → T10 → T11 → T12 → Loc) (Φ : Nat → T1 → T2 → T3 → T4 → T5 → T6 → T7 → T8 → T9 → T10 → T11 → T12 → Prop) {c : Code} {m : Nat} {a1 : T1} {a2 : T2} {a3 : T3} {a4 : T4} {a5 : T5} {a6 : T6} {a7 : T7} {a8 : T8} {a9 : T9} {a10 : T10} {a11 : T11} {a12 : T12} (h0 : Φ m a1 a2 a3 a4 a5 a6 a7 a8 a9 a10 a11 a12) (hr : ∀ (m : Nat) (x1 : T1) (x2 : T2) (x3 : T3) (x4 : T4) (x5 : T5) (x6 : T6) (x7 : T7) (x8 : T8) (x9 : T9) (x10 : T10) (x11 : T11) (x12 : T12), Φ m x1 x2 x3 x4 x5 x6 x7 x8 x9 x10 x11 x12 → E1 F T (.loop (LI12 E L G Φ) m :: k) c (E x1 x2 x3 x4 x5 x6 x7 x8 x9 x10 x11 x12) (L x1 x2 x3 x4 x5 x6 x7 x8 x9 x10 x11 x12) G)
    (he : leL e (E a1 a2 a3 a4 a5 a6 a7 a8 a9 a10 a11 a12) := by ((repeat refine And.intro rfl ?_); exact trivial)) (hl : leL l (L a1 a2 a3 a4 a5 a6 a7 a8 a9 a10 a11 a12) := by ((repeat refine And.intro rfl ?_); exact trivial)) : E1 F T k (.loop c) e l G := by
  refine ⟨fun hc X A w hr0 => ?_⟩
  refine wp_loop_ghost (fun m a w => ∃ S X, LI12 E L G Φ m S ∧ Rdy F T S X a w) m ⟨⟨E a1 a2 a3 a4 a5 a6 a7 a8 a9 a10 a11 a12, L a1 a2 a3 a4 a5 a6 a7 a8 a9 a10 a11 a12, G⟩, X, LI12.mk m a1 a2 a3 a4 a5 a6 a7 a8 a9 a10 a11 a12 h0, hr0.weaken (le_of he hl rfl)⟩ ?_
  rintro m A w ⟨S, X, hS, hR⟩
  cases hS with
  | mk x1 x2 x3 x4 x5 x6 x7 x8 x9 x10 x11 x12 h =>
    refine wp_mono ((hr m x1 x2 x3 x4 x5 x6 x7 x8 x9 x10 x11 x12 h).h (by simpa only [codeOk] using hc) X A w hR) ?_
    intro x A' w' hq
    cases x with
    | normal => obtain ⟨m', S, X, h1, h2, h3⟩ := hq; exact ⟨m', h1, S, X, h2, h3⟩
    | _ => exact hq
theorem ag12 {T1 T2 T3 T4 T5 T6 T7 T8 T9 T10 T11 T12 : Type} {E : T1 → T2 → T3 → T4 → T5 → T6 → T7 → T8 → T9 → T10 → T11 → T12 → Env} {L : T1 → T2 → T3 → T4 → T5 → T6 → T7 → T8 → T9 → T10 → T11 → T12 → Loc} {Φ : Nat → T1 → T2 → T3 → T4 → T5 → T6 → T7 → T8 → T9 → T10 → T11 → T12 → Prop} {k' : List Frm} {x : Exit} {m m' : Nat} {a1 : T1} {a2 : T2} {a3 : T3} {a4 : T4} {a5 : T5} {a6 : T6} {a7 : T7} {a8 : T8} {a9 : T9} {a10 : T10} {a11 : T11} {a12 : T12} (hn : nxt k x = (.loop (LI12 E L G Φ) m :: k', .normal)) (h : Φ m' a1 a2 a3 a4 a5 a6 a7 a8 a9 a10 a11 a12) (hm : m' < m := by omega)
    (he : leL e (E a1 a2 a3 a4 a5 a6 a7 a8 a9 a10 a11 a12) := by ((repeat refine And.intro rfl ?_); exact trivial)) (hl : leL l (L a1 a2 a3 a4 a5 a6 a7 a8 a9 a10 a11 a12) := by ((repeat refine And.intro rfl ?_); exact trivial)) : E2 F T k x e l G :=
  ⟨fun X A w hr => by rw [nxt_eq, hn]; exact ⟨m', ⟨E a1 a2 a3 a4 a5 a6 a7 a8 a9 a10 a11 a12, L a1 a2 a3 a4 a5 a6 a7 a8 a9 a10 a11 a12, G⟩, X, hm, LI12.mk m' a1 a2 a3 a4 a5 a6 a7 a8 a9 a10 a11 a12 h, hr.weaken (le_of he hl rfl)⟩⟩
inductive LI13 {T1 T2 T3 T4 T5 T6 T7 T8 T9 T10 T11 T12 T13 : Type} (E : T1 → T2 → T3 → T4 → T5 → T6 → T7 → T8 → T9 → T10 → T11 → T12 → T13 → Env) (L : T1 → T2 → T3 → T4 → T5 → T6 → T7 → T8 → T9 → T10 → T11 → T12 → T13 → Loc) (G : Objs) (Φ : Nat → T1 → T2 → T3 → T4 → T5 → T6 → T7 → T8 → T9 → T10 → T11 → T12 → T13 → Prop) : Nat → St → Prop
  | mk (m : Nat) (x1 : T1) (x2 : T2) (x3 : T3) (x4 : T4) (x5 : T5) (x6 : T6) (x7 : T7) (x8 : T8) (x9 : T9) (x10 : T10) (x11 : T11) (x12 : T12) (x13 : T13) (h : Φ m x1 x2 x3 x4 x5 x6 x7 x8 x9 x10 x11 x12 x13) : LI13 E L G Φ m ⟨E x1 x2 x3 x4 x5 x6 x7 x8 x9 x10 x11 x12 x13, L x1 x2 x3 x4 x5 x6 x7 x8 x9 x10 x11 x12 x13, G⟩
inductive LI14 {T1 T2 T3 T4 T5 T6 T7 T8 T9 T10 T11 T12 T13 T14 : Type} (E : T1 → T2 → T3 → T4 → T5 → T6 → T7 → T8 → T9 → T10 → T11 → T12 → T13 → T14 → Env) (L : T1 → T2 → T3 → T4 → T5 → T6 → T7 → T8 → T9 → T10 → T11 → T12 → T13 → T14 → Loc) (G : Objs) (Φ : Nat → T1 → T2 → T3 → T4 → T5 → T6 → T7 → T8 → T9 → T10 → T11 → T12 → T13 → T14 → Prop) : Nat → St → Prop
  | mk (m : Nat) (x1 : T1) (x2 : T2) (x3 : T3) (x4 : T4) (x5 : T5) (x6 : T6) (x7 : T7) (x8 : T8) (x9 : T9) (x10 : T10) (x11 : T11) (x12 : T12) (x13 : T13) (x14 : T14) (h : Φ m x1 x2 x3 x4 x5 x6 x7 x8 x9 x10 x11 x12 x13 x14) : LI14 E L G Φ m ⟨E x1 x2 x3 x4 x5 x6 x7 x8 x9 x10 x11 x12 x13 x14, L x1 x2 x3 x4 x5 x6 x7 x8 x9 x10 x11 x12 x13 x14, G⟩
inductive LI15 {T1 T2 T3 T4 T5 T6 T7 T8 T9 T10 T11 T12 T13 T14 T15 : Type} (E : T1 → T2 → T3 → T4 → T5 → T6 → T7 → T8 → T9 → T10 → T11 → T12 → T13 → T14 → T15 → Env) (L : T1 → T2 → T3 → T4 → T5 → T6 → T7 → T8 → T9 → T10 → T11 → T12 → T13 → T14 → T15 → Loc) (G : Objs) (Φ : Nat → T1 → T2 → T3 → T4 → T5 → T6 → T7 → T8 → T9 → T10 → T11 → T12 → T13 → T14 → T15 → Prop) : Nat → St → Prop
  | mk (m : Nat) (x1 : T1) (x2 : T2) (x3 : T3) (x4 : T4) (x5 : T5) (x6 : T6) (x7 : T7) (x8 : T8) (x9 : T9) (x10 : T10) (x11 : T11) (x12 : T12) (x13 : T13) (x14 : T14) (x15 : T15) (h : Φ m x1 x2 x3 x4 x5 x6 x7 x8 x9 x10 x11 x12 x13 x14 x15) : LI15 E L G Φ m ⟨E x1 x2 x3 x4 x5 x6 x7 x8 x9 x10 x11 x12 x13 x14 x15, L x1 x2 x3 x4 x5 x6 x7 x8 x9 x10 x11 x12 x13 x14 x15, G⟩
inductive LI16 {T1 T2 T3 T4 T5 T6 T7 T8 T9 T10 T11 T12 T13 T14 T15 T16 : Type} (E : T1 → T2 → T3 → T4 → T5 → T6 → T7 → T8 → T9 → T10 → T11 → T12 → T13 → T14 → T15 → T16 → Env) (L : T1 → T2 → T3 → T4 → T5 → T6 → T7 → T8 → T9 → T10 → T11 → T12 → T13 → T14 → T15 → T16 → Loc) (G : Objs) (Φ : Nat → T1 → T2 → T3 → T4 → T5 → T6 → T7 → T8 → T9 → T10 → T11 → T12 → T13 → T14 → T15 → T16 → Prop) : Nat → St → Prop
  | mk (m : Nat) (x1 : T1) (x2 : T2) (x3 : T3) (x4 : T4) (x5 : T5) (x6 : T6) (x7 : T7) (x8 : T8) (x9 : T9) (x10 : T10) (x11 : T11) (x12 : T12) (x13 : T13) (x14 : T14) (x15 : T15) (x16 : T16) (h : Φ m x1 x2 x3 x4 x5 x6 x7 x8 x9 x10 x11 x12 x13 x14 x15 x16) : LI16 E L G Φ m ⟨E x1 x2 x3 x4 x5 x6 x7 x8 x9 x10 x11 x12 x13 x14 x15 x16, L x1 x2 x3 x4 x5 x6 x7 x8 x9 x10 x11 x12 x13 x14 x15 x16, G⟩
theorem lp16 {T1 T2 T3 T4 T5 T6 T7 T8 T9 T10 T11 T12 T13 T14 T15 T16 : Type} (E : T1 → T2 → T3 → T4 → T5 → T6 → T7 → T8 → T9 → T10 → T11 → T12 → T13 → T14 → T15 → T16 → Env) (L : T1 → T2 → T3 → T4 → T5 → T6 → T7 → T8 → T9 → T10 → T11 → T12 → T13 → T14 → T15 → T16 → Loc) (Φ : Nat → T1 → T2 → T3 → T4 → T5 → T6 → T7 → T8 → T9 → T10 → T11 → T12 → T13 → T14 → T15 → T16 → Prop) {c : Code} {m : Nat} {a1 : T1} {a2 : T2} {a3 : T3} {a4 : T4} {a5 : T5} {a6 : T6} {a7 : T7} {a8 : T8} {a9 : T9} {a10 : T10} {a11 : T11} {a12 : T12} {a13 : T13} {a14 : T14} {a15 : T15} {a16 : T16} (h0 : Φ m a1 a2 a3 a4 a5 a6 a7 a8 a9 a10 a11 a12 a13 a14 a15 a16) (hr : ∀ (m : Nat) (x1 : T1) (x2 : T2) (x3 : T3) (x4 : T4) (x5 : T5) (x6 : T6) (x7 : T7) (x8 : T8) (x9 : T9) (x10 : T10) (x11 : T11) (x12 : T12) (x13 : T13) (x14 : T14) (x15 : T15) (x16 : T16), Φ m x1 x2 x3 x4 x5 x6 x7 x8 x9 x10 x11 x12 x13 x14 x15 x16 → E1 F T (.loop (LI16 E L G Φ) m :: k) c (E x1 x2 x3 x4 x5 x6 x7 x8 x9 x10 x11 x12 x13 x14 x15 x16) (L x1 x2 x3 x4 x5 x6 x7 x8 x9 x10 x11 x12 x13 x14 x15 x16) G)
    (he : leL e (E a1 a2 a3 a4 a5 a6 a7 a8 a9 a10 a11 a12 a13 a14 a15 a16) := by ((repeat refine And.intro rfl ?_); exact trivial)) (hl : leL l (L a1 a2 a3 a4 a5 a6 a7 a8 a9 a10 a11 a12 a13 a14 a15 a16) := by ((repeat refine And.intro rfl ?_); exact trivial)) : E1 F T k (.loop c) e l G := by
  refine ⟨fun hc X A w hr0 => ?_⟩
  refine wp_loop_ghost (fun m a w => ∃ S X, LI16 E L G Φ m S ∧ Rdy F T S X a w) m ⟨⟨E a1 a2 a3 a4 a5 a6 a7 a8 a9 a10 a11 a12 a13 a14 a15 a16, L a1 a2 a3 a4 a5 a6 a7 a8 a9 a10 a11 a12 a13 a14 a15 a16, G⟩, X, LI16.mk m a1 a2 a3 a4 a5 a6 a7 a8 a9 a10 a11 a12 a13 a14 a15 a16 h0, hr0.weaken (le_of he hl rfl)⟩ ?_
  rintro m A w ⟨S, X, hS, hR⟩
  cases hS with
  | mk x1 x2 x3 x4 x5 x6 x7 x8 x9 x10 x11 x12 x13 x14 x15 x16 h =>
    refine wp_mono ((hr m x1 x2 x3 x4 x5 x6 x7 x8 x9 x10 x11 x12 x13 x14 x15 x16 h).h (by simpa only [codeOk] using hc) X A w hR) ?_
    intro x A' w' hq
    cases x with
    | normal => obtain ⟨m', S, X, h1, h2, h3⟩ := hq; exact ⟨m', h1, S, X, h2, h3⟩
    | _ => exact hq
theorem ag16 {T1 T2 T3 T4 T5 T6 T7 T8 T9 T10 T11 T12 T13 T14 T15 T16 : Type} {E : T1 → T2 → T3 → T4 → T5 → T6 → T7 → T8 → T9 → T10 → T11 → T12 → T13 → T14 → T15 → T16 → Env} {L : T1 → T2 → T3 → T4 → T5 → T6 → T7 → T8 → T9 → T10 → T11 → T12 → T13 → T14 → T15 → T16 → Loc} {Φ : Nat → T1 → T2 → T3 → T4 → T5 → T6 → T7 → T8 → T9 → T10 → T11 → T12 → T13 → T14 → T15 → T16 → Prop} {k' : List Frm} {x : Exit} {m m' : Nat} {a1 : T1} {a2 : T2} {a3 : T3} {a4 : T4} {a5 : T5} {a6 : T6} {a7 : T7} {a8 : T8} {a9 : T9} {a10 : T10} {a11 : T11} {a12 : T12} {a13 : T13} {a14 : T14} {a15 : T15} {a16 : T16} (hn : nxt k x = (.loop (LI16 E L G Φ) m :: k', .normal)) (h : Φ m' a1 a2 a3 a4 a5 a6 a7 a8 a9 a10 a11 a12 a13 a14 a15 a16) (hm : m' < m := by omega)
    (he : leL e (E a1 a2 a3 a4 a5 a6 a7 a8 a9 a10 a11 a12 a13 a14 a15 a16) := by ((repeat refine And.intro rfl ?_); exact trivial)) (hl : leL l (L a1 a2 a3 a4 a5 a6 a7 a8 a9 a10 a11 a12 a13 a14 a15 a16) := by ((repeat refine And.intro rfl ?_); exact trivial)) : E2 F T k x e l G :=
  ⟨fun X A w hr => by rw [nxt_eq, hn]; exact ⟨m', ⟨E a1 a2 a3 a4 a5 a6 a7 a8 a9 a10 a11 a12 a13 a14 a15 a16, L a1 a2 a3 a4 a5 a6 a7 a8 a9 a10 a11 a12 a13 a14 a15 a16, G⟩, X, hm, LI16.mk m' a1 a2 a3 a4 a5 a6 a7 a8 a9 a10 a11 a12 a13 a14 a15 a16 h, hr.weaken (le_of he hl rfl)⟩⟩
inductive LI17 {T1 T2 T3 T4 T5 T6 T7 T8 T9 T10 T11 T12 T13 T14 T15 T16 T17 : Type} (E : T1 → T2 → T3 → T4 → T5 → T6 → T7 → T8 → T9 → T10 → T11 → T12 → T13 → T14 → T15 → T16 → T17 → Env) (L : T1 → T2 → T3 → T4 → T5 → T6 → T7 → T8 → T9 → T10 → T11 → T12 → T13 → T14 → T15 → T16 → T17 → Loc) (G : Objs) (Φ : Nat → T1 → T2 → T3 → T4 → T5 → T6 → T7 → T8 → T9 → T10 → T11 → T12 → T13 → T14 → T15 → T16 → T17 → Prop) : Nat → St → Prop
  | mk (m : Nat) (x1 : T1) (x2 : T2) (x3 : T3) (x4 : T4) (x5 : T5) (x6 : T6) (x7 : T7) (x8 : T8) (x9 : T9) (x10 : T10) (x11 : T11) (x12 : T12) (x13 : T13) (x14 : T14) (x15 : T15) (x16 : T16) (x17 : T17) (h : Φ m x1 x2 x3 x4 x5 x6 x7 x8 x9 x10 x11 x12 x13 x14 x15 x16 x17) : LI17 E L G Φ m ⟨E x1 x2 x3 x4 x5 x6 x7 x8 x9 x10 x11 x12 x13 x14 x15 x16 x17, L x1 x2 x3 x4 x5 x6 x7 x8 x9 x10 x11 x12 x13 x14 x15 x16 x17, G⟩
theorem lp17 {T1 T2 T3 T4 T5 T6 T7 T8 T9 T10 T11 T12 T13 T14 T15 T16 T17 : Type} (E : T1 → T2 → T3 → T4 → T5 → T6 → T7 → T8 → T9 → T10 → T11 → T12 → T13 → T14 → T15 → T16 → T17 → Env) (L : T1 → T2 → T3 → T4 → T5 → T6 → T7 → T8 → T9 → T10 → T11 → T12 → T13 → T14 → T15 → T16 → T17 → Loc) (Φ : Nat → T1 → T2 → T3 → T4 → T5 → T6 → T7 → T8 → T9 → T10 → T11 → T12 → T13 → T14 → T15 → T16 → T17 → Prop) {c : Code} {m : Nat} {a1 : T1} {a2 : T2} {a3 : T3} {a4 : T4} {a5 : T5} {a6 : T6} {a7 : T7} {a8 : T8} {a9 : T9} {a10 : T10} {a11 : T11} {a12 : T12} {a13 : T13} {a14 : T14} {a15 : T15} {a16 : T16} {a17 : T17} (h0 : Φ m a1 a2 a3 a4 a5 a6 a7 a8 a9 a10 a11 a12 a13 a14 a15 a16 a17) (hr : ∀ (m : Nat) (x1 : T1) (x2 : T2) (x3 : T3) (x4 : T4) (x5 : T5) (x6 : T6) (x7 : T7) (x8 : T8) (x9 : T9) (x10 : T10) (x11 : T11) (x12 : T12) (x13 : T13) (x14 : T14) (x15 : T15) (x16 : T16) (x17 : T17), Φ m x1 x2 x3 x4 x5 x6 x7 x8 x9 x10 x11 x12 x13 x14 x15 x16 x17 → E1 F T (.loop (LI17 E L G Φ) m :: k) c (E x1 x2 x3 x4 x5 x6 x7 x8 x9 x10 x11 x12 x13 x14 x15 x16 x17) (L x1 x2 x3 x4 x5 x6 x7 x8 x9 x10 x11 x12 x13 x14 x15 x16 x17) G)
    (he : leL e (E a1 a2 a3 a4 a5 a6 a7 a8 a9 a10 a11 a12 a13 a14 a15 a16 a17) := by ((repeat refine And.intro rfl ?_); exact trivial)) (hl : leL l (L a1 a2 a3 a4 a5 a6 a7 a8 a9 a10 a11 a12 a13 a14 a15 a16 a17) := by ((repeat refine And.intro rfl ?_); exact trivial)) : E1 F T k (.loop c) e l G := by
  refine ⟨fun hc X A w hr0 => ?_⟩
  refine wp_loop_ghost (fun m a w => ∃ S X, LI17 E L G Φ m S ∧ Rdy F T S X a w) m ⟨⟨E a1 a2 a3 a4 a5 a6 a7 a8 a9 a10 a11 a12 a13 a14 a15 a16 a17, L a1 a2 a3 a4 a5 a6 a7 a8 a9 a10 a11 a12 a13 a14 a15 a16 a17, G⟩, X, LI17.mk m a1 a2 a3 a4 a5 a6 a7 a8 a9 a10 a11 a12 a13 a14 a15 a16 a17 h0, hr0.weaken (le_of he hl rfl)⟩ ?_
  rintro m A w ⟨S, X, hS, hR⟩
  cases hS with
  | mk x1 x2 x3 x4 x5 x6 x7 x8 x9 x10 x11 x12 x13 x14 x15 x16 x17 h =>
    refine wp_mono ((hr m x1 x2 x3 x4 x5 x6 x7 x8 x9 x10 x11 x12 x13 x14 x15 x16 x17 h).h (by simpa only [codeOk] using hc) X A w hR) ?_
    intro x A' w' hq
    cases x with
    | normal => obtain ⟨m', S, X, h1, h2, h3⟩ := hq; exact ⟨m', h1, S, X, h2, h3⟩
    | _ => exact hq
theorem ag17 {T1 T2 T3 T4 T5 T6 T7 T8 T9 T10 T11 T12 T13 T14 T15 T16 T17 : Type} {E : T1 → T2 → T3 → T4 → T5 → T6 → T7 → T8 → T9 → T10 → T11 → T12 → T13 → T14 → T15 → T16 → T17 → Env} {L : T1 → T2 → T3 → T4 → T5 → T6 → T7 → T8 → T9 → T10 → T11 → T12 → T13 → T14 → T15 → T16 → T17 → Loc} {Φ : Nat → T1 → T2 → T3 → T4 → T5 → T6 → T7 → T8 → T9 → T10 → T11 → T12 → T13 → T14 → T15 → T16 → T17 → Prop} {k' : List Frm} {x : Exit} {m m' : Nat} {a1 : T1} {a2 : T2} {a3 : T3} {a4 : T4} {a5 : T5} {a6 : T6} {a7 : T7} {a8 : T8} {a9 : T9} {a10 : T10} {a11 : T11} {a12 : T12} {a13 : T13} {a14 : T14} {a15 : T15} {a16 : T16} {a17 : T17} (hn : nxt k x = (.loop (LI17 E L G Φ) m :: k', .normal)) (h : Φ m' a1 a2 a3 a4 a5 a6 a7 a8 a9 a10 a11 a12 a13 a14 a15 a16 a17) (hm : m' < m := by omega)
    (he : leL e (E a1 a2 a3 a4 a5 a6 a7 a8 a9 a10 a11 a12 a13 a14 a15 a16 a17) := by ((repeat refine And.intro rfl ?_); exact trivial)) (hl : leL l (L a1 a2 a3 a4 a5 a6 a7 a8 a9 a10 a11 a12 a13 a14 a15 a16 a17) := by ((repeat refine And.intro rfl ?_); exact trivial)) : E2 F T k x e l G :=
  ⟨fun X A w hr => by rw [nxt_eq, hn]; exact ⟨m', ⟨E a1 a2 a3 a4 a5 a6 a7 a8 a9 a10 a11 a12 a13 a14 a15 a16 a17, L a1 a2 a3 a4 a5 a6 a7 a8 a9 a10 a11 a12 a13 a14 a15 a16 a17, G⟩, X, hm, LI17.mk m' a1 a2 a3 a4 a5 a6 a7 a8 a9 a10 a11 a12 a13 a14 a15 a16 a17 h, hr.weaken (le_of he hl rfl)⟩⟩
inductive LI18 {T1 T2 T3 T4 T5 T6 T7 T8 T9 T10 T11 T12 T13 T14 T15 T16 T17 T18 : Type} (E : T1 → T2 → T3 → T4 → T5 → T6 → T7 → T8 → T9 → T10 → T11 → T12 → T13 → T14 → T15 → T16 → T17 → T18 → Env) (L : T1 → T2 → T3 → T4 → T5 → T6 → T7 → T8 → T9 → T10 → T11 → T12 → T13 → T14 → T15 → T16 → T17 → T18 → Loc) (G : Objs) (Φ : Nat → T1 → T2 → T3 → T4 → T5 → T6 → T7 → T8 → T9 → T10 → T11 → T12 → T13 → T14 → T15 → T16 → T17 → T18 → Prop) : Nat → St → Prop
  | mk (m : Nat) (x1 : T1) (x2 : T2) (x3 : T3) (x4 : T4) (x5 : T5) (x6 : T6) (x7 : T7) (x8 : T8) (x9 : T9) (x10 : T10) (x11 : T11) (x12 : T12) (x13 : T13) (x14 : T14) (x15 : T15) (x16 : T16) (x17 : T17) (x18 : T18) (h : Φ m x1 x2 x3 x4 x5 x6 x7 x8 x9 x10 x11 x12 x13 x14 x15 x16 x17 x18) : LI18 E L G Φ m ⟨E x1 x2 x3 x4 x5 x6 x7 x8 x9 x10 x11 x12 x13 x14 x15 x16 x17 x18, L x1 x2 x3 x4 x5 x6 x7 x8 x9 x10 x11 x12 x13 x14 x15 x16 x17 x18, G⟩
inductive LI19 {T1 T2 T3 T4 T5 T6 T7 T8 T9 T10 T11 T12 T13 T14 T15 T16 T17 T18 T19 : Type} (E : T1 → T2 → T3 → T4 → T5 → T6 → T7 → T8 → T9 → T10 → T11 → T12 → T13 → T14 → T15 → T16 → T17 → T18 → T19 → Env) (L : T1 → T2 → T3 → T4 → T5 → T6 → T7 → T8 → T9 → T10 → T11 → T12 → T13 → T14 → T15 → T16 → T17 → T18 → T19 → Loc) (G : Objs) (Φ : Nat → T1 → T2 → T3 → T4 → T5 → T6 → T7 → T8 → T9 → T10 → T11 → T12 → T13 → T14 → T15 → T16 → T17 → T18 → T19 → Prop) : Nat → St → Prop
  | mk (m : Nat) (x1 : T1) (x2 : T2) (x3 : T3) (x4 : T4) (x5 : T5) (x6 : T6) (x7 : T7) (x8 : T8) (x9 : T9) (x10 : T10) (x11 : T11) (x12 : T12) (x13 : T13) (x14 : T14) (x15 : T15) (x16 : T16) (x17 : T17) (x18 : T18) (x19 : T19) (h : Φ m x1 x2 x3 x4 x5 x6 x7 x8 x9 x10 x11 x12 x13 x14 x15 x16 x17 x18 x19) : LI19 E L G Φ m ⟨E x1 x2 x3 x4 x5 x6 x7 x8 x9 x10 x11 x12 x13 x14 x15 x16 x17 x18 x19, L x1 x2 x3 x4 x5 x6 x7 x8 x9 x10 x11 x12 x13 x14 x15 x16 x17 x18 x19, G⟩
inductive LI20 {T1 T2 T3 T4 T5 T6 T7 T8 T9 T10 T11 T12 T13 T14 T15 T16 T17 T18 T19 T20 : Type} (E : T1 → T2 → T3 → T4 → T5 → T6 → T7 → T8 → T9 → T10 → T11 → T12 → T13 → T14 → T15 → T16 → T17 → T18 → T19 → T20 → Env) (L : T1 → T2 → T3 → T4 → T5 → T6 → T7 → T8 → T9 → T10 → T11 → T12 → T13 → T14 → T15 → T16 → T17 → T18 → T19 → T20 → Loc) (G : Objs) (Φ : Nat → T1 → T2 → T3 → T4 → T5 → T6 → T7 → T8 → T9 → T10 → T11 → T12 → T13 → T14 → T15 → T16 → T17 → T18 → T19 → T20 → Prop) : Nat → St → Prop
  | mk (m : Nat) (x1 : T1) (x2 : T2) (x3 : T3) (x4 : T4) (x5 : T5) (x6 : T6) (x7 : T7) (x8 : T8) (x9 : T9) (x10 : T10) (x11 : T11) (x12 : T12) (x13 : T13) (x14 : T14) (x15 : T15) (x16 : T16) (x17 : T17) (x18 : T18) (x19 : T19) (x20 : T20) (h : Φ m x1 x2 x3 x4 x5 x6 x7 x8 x9 x10 x11 x12 x13 x14 x15 x16 x17 x18 x19 x20) : LI20 E L G Φ m ⟨E x1 x2 x3 x4 x5 x6 x7 x8 x9 x10 x11 x12 x13 x14 x15 x16 x17 x18 x19 x20, L x1 x2 x3 x4 x5 x6 x7 x8 x9 x10 x11 x12 x13 x14 x15 x16 x17 x18 x19 x20, G⟩
inductive LI21 {T1 T2 T3 T4 T5 T6 T7 T8 T9 T10 T11 T12 T13 T14 T15 T16 T17 T18 T19 T20 T21 : Type} (E : T1 → T2 → T3 → T4 → T5 → T6 → T7 → T8 → T9 → T10 → T11 → T12 → T13 → T14 → T15 → T16 → T17 → T18 → T19 → T20 → T21 → Env) (L : T1 → T2 → T3 → T4 → T5 → T6 → T7 → T8 → T9 → T10 → T11 → T12 → T13 → T14 → T15 → T16 → T17 → T18 → T19 → T20 → T21 → Loc) (G : Objs) (Φ : Nat → T1 → T2 → T3 → T4 → T5 → T6 → T7 → T8 → T9 → T10 → T11 → T12 → T13 → T14 → T15 → T16 → T17 → T18 → T19 → T20 → T21 → Prop) : Nat → St → Prop
  | mk (m : Nat) (x1 : T1) (x2 : T2) (x3 : T3) (x4 : T4) (x5 : T5) (x6 : T6) (x7 : T7) (x8 : T8) (x9 : T9) (x10 : T10) (x11 : T11) (x12 : T12) (x13 : T13) (x14 : T14) (x15 : T15) (x16 : T16) (x17 : T17) (x18 : T18) (x19 : T19) (x20 : T20) (x21 : T21) (h : Φ m x1 x2 x3 x4 x5 x6 x7 x8 x9 x10 x11 x12 x13 x14 x15 x16 x17 x18 x19 x20 x21) : LI21 E L G Φ m ⟨E x1 x2 x3 x4 x5 x6 x7 x8 x9 x10 x11 x12 x13 x14 x15 x16 x17 x18 x19 x20 x21, L x1 x2 x3 x4 x5 x6 x7 x8 x9 x10 x11 x12 x13 x14 x15 x16 x17 x18 x19 x20 x21, G⟩
inductive LI22 {T1 T2 T3 T4 T5 T6 T7 T8 T9 T10 T11 T12 T13 T14 T15 T16 T17 T18 T19 T20 T21 T22 : Type} (E : T1 → T2 → T3 → T4 → T5 → T6 → T7 → T8 → T9 → T10 → T11 → T12 → T13 → T14 → T15 → T16 → T17 → T18 → T19 → T20 → T21 → T22 → Env) (L : T1 → T2 → T3 → T4 → T5 → T6 → T7 → T8 → T9 → T10 → T11 → T12 → T13 → T14 → T15 → T16 → T17 → T18 → T19 → T20 → T21 → T22 → Loc) (G : Objs) (Φ : Nat → T1 → T2 → T3 → T4 → T5 → T6 → T7 → T8 → T9 → T10 → T11 → T12 → T13 → T14 → T15 → T16 → T17 → T18 → T19 → T20 → T21 → T22 → Prop) : Nat → St → Prop
  | mk (m : Nat) (x1 : T1) (x2 : T2) (x3 : T3) (x4 : T4) (x5 : T5) (x6 : T6) (x7 : T7) (x8 : T8) (x9 : T9) (x10 : T10) (x11 : T11) (x12 : T12) (x13 : T13) (x14 : T14) (x15 : T15) (x16 : T16) (x17 : T17) (x18 : T18) (x19 : T19) (x20 : T20) (x21 : T21) (x22 : T22) (h : Φ m x1 x2 x3 x4 x5 x6 x7 x8 x9 x10 x11 x12 x13 x14 x15 x16 x17 x18 x19 x20 x21 x22) : LI22 E L G Φ m ⟨E x1 x2 x3 x4 x5 x6 x7 x8 x9 x10 x11 x12 x13 x14 x15 x16 x17 x18 x19 x20 x21 x22, L x1 x2 x3 x4 x5 x6 x7 x8 x9 x10 x11 x12 x13 x14 x15 x16 x17 x18 x19 x20 x21 x22, G⟩
inductive LI23 {T1 T2 T3 T4 T5 T6 T7 T8 T9 T10 T11 T12 T13 T14 T15 T16 T17 T18 T19 T20 T21 T22 T23 : Type} (E : T1 → T2 → T3 → T4 → T5 → T6 → T7 → T8 → T9 → T10 → T11 → T12 → T13 → T14 → T15 → T16 → T17 → T18 → T19 → T20 → T21 → T22 → T23 → Env) (L : T1 → T2 → T3 → T4 → T5 → T6 → T7 → T8 → T9 → T10 → T11 → T12 → T13 → T14 → T15 → T16 → T17 → T18 → T19 → T20 → T21 → T22 → T23 → Loc) (G : Objs) (Φ : Nat → T1 → T2 → T3 → T4 → T5 → T6 → T7 → T8 → T9 → T10 → T11 → T12 → T13 → T14 → T15 → T16 → T17 → T18 → T19 → T20 → T21 → T22 → T23 → Prop) : Nat → St → Prop
  | mk (m : Nat) (x1 : T1) (x2 : T2) (x3 : T3) (x4 : T4) (x5 : T5) (x6 : T6) (x7 : T7) (x8 : T8) (x9 : T9) (x10 : T10) (x11 : T11) (x12 : T12) (x13 : T13) (x14 : T14) (x15 : T15) (x16 : T16) (x17 : T17) (x18 : T18) (x19 : T19) (x20 : T20) (x21 : T21) (x22 : T22) (x23 : T23) (h : Φ m x1 x2 x3 x4 x5 x6 x7 x8 x9 x10 x11 x12 x13 x14 x15 x16 x17 x18 x19 x20 x21 x22 x23) : LI23 E L G Φ m ⟨E x1 x2 x3 x4 x5 x6 x7 x8 x9 x10 x11 x12 x13 x14 x15 x16 x17 x18 x19 x20 x21 x22 x23, L x1 x2 x3 x4 x5 x6 x7 x8 x9 x10 x11 x12 x13 x14 x15 x16 x17 x18 x19 x20 x21 x22 x23, G⟩
inductive LI24 {T1 T2 T3 T4 T5 T6 T7 T8 T9 T10 T11 T12 T13 T14 T15 T16 T17 T18 T19 T20 T21 T22 T23 T24 : Type} (E : T1 → T2 → T3 → T4 → T5 → T6 → T7 → T8 → T9 → T10 → T11 → T12 → T13 → T14 → T15 → T16 → T17 → T18 → T19 → T20 → T21 → T22 → T23 → T24 → Env) (L : T1 → T2 → T3 → T4 → T5 → T6 → T7 → T8 → T9 → T10 → T11 → T12 → T13 → T14 → T15 → T16 → T17 → T18 → T19 → T20 → T21 → T22 → T23 → T24 → Loc) (G : Objs) (Φ : Nat → T1 → T2 → T3 → T4 → T5 → T6 → T7 → T8 → T9 → T10 → T11 → T12 → T13 → T14 → T15 → T16 → T17 → T18 → T19 → T20 → T21 → T22 → T23 → T24 → Prop) : Nat → St → Prop
  | mk (m : Nat) (x1 : T1) (x2 : T2) (x3 : T3) (x4 : T4) (x5 : T5) (x6 : T6) (x7 : T7) (x8 : T8) (x9 : T9) (x10 : T10) (x11 : T11) (x12 : T12) (x13 : T13) (x14 : T14) (x15 : T15) (x16 : T16) (x17 : T17) (x18 : T18) (x19 : T19) (x20 : T20) (x21 : T21) (x22 : T22) (x23 : T23) (x24 : T24) (h : Φ m x1 x2 x3 x4 x5 x6 x7 x8 x9 x10 x11 x12 x13 x14 x15 x16 x17 x18 x19 x20 x21 x22 x23 x24) : LI24 E L G Φ m ⟨E x1 x2 x3 x4 x5 x6 x7 x8 x9 x10 x11 x12 x13 x14 x15 x16 x17 x18 x19 x20 x21 x22 x23 x24, L x1 x2 x3 x4 x5 x6 x7 x8 x9 x10 x11 x12 x13 x14 x15 x16 x17 x18 x19 x20 x21 x22 x23 x24, G⟩
end Go.AL
end
section
set_option linter.unusedVariables false
set_option linter.unusedSimpArgs false
namespace Go.AL
open Enc
variable {F : Cfg} {T : Task F} {k : List Frm} {K Q : St → Prop} {e e' : Env} {l l' : Loc} {G : Objs} {ops : Array Oper} {o : Oper} {os : List Oper} {n : Nat}
theorem apl_wop {α : Type} {iE : Enc α} {ys : List α} {c : Call} {b s : Operand} {q : Pl} {t t1 t2 el sz by_ sz2 by2 el2 cw : Nat} {z z2 : List AV} {d : TD} {vs : AV} {cs : List (List AV)} {m : List α} (ho : o.op = .call c) (hc : c.callee = .builtin .append)
    (ha : c.args.toList = [b, s]) (hb : c.argTypes.toList = [t1, t2]) (hdst : o.dst = some t) (h1 : lk F.Δ t1 = some ⟨.slice el, sz, by_, z⟩) (h2 : lk F.Δ t2 = some ⟨.slice el2, sz2, by2, z2⟩)
    (hd : lk F.Δ el = some d) (hs : St.val ⟨e, l, G⟩ s = some vs) (hm : St.slOf ⟨e, l, G⟩ vs = some cs) (hb' : St.val ⟨e, l, G⟩ b = some (.view q)) (hu : St.ownAt ⟨e, l, G⟩ q = some (cw, m.map enc)) (hcw : cw = d.size) (hq : (F.qt && anyG q) = false)
    (a1 : d.zero.length = d.size) (a2 : (match d.k with | .tup | .fn => False | _ => True)) (a3 : 0 < d.bytes) (hx : cs = ys.map enc) (a4 : w α = d.size) (a5 : ∀ x : α, (enc x).all AV.leaf = true)
    (a6 : (m.length + ys.length) * d.bytes ≤ 140737488355328) : wop F.P F.Δ F.qt F.gs ⟨e, l, G⟩ o (fun S => S = St.put (St.take ⟨e, l, G⟩ q) t (.own d.size ((m ++ ys).map enc))) := by
  subst hx hcw
  have hok : apOk d (m.map enc) (ys.map enc) := by
    refine ⟨a1, a2, a3, ?_, ?_, by simpa using a6⟩
    · intro es hes
      obtain ⟨y, _, rfl⟩ := List.mem_map.1 hes; rw [Enc.hw, a4]
    · rw [List.all_eq_true]
      intro y hy
      obtain ⟨cs, h1, h2⟩ := List.mem_flatten.1 hy
      obtain ⟨x, _, rfl⟩ := List.mem_map.1 h1
      exact List.all_eq_true.1 (a5 x) y h2
  unfold wop
  rw [ho]
  simp only [hc, ha, hb]
  unfold wappend
  simp only [h1, h2, hdst, hd, hs, hm, hb', hu]
  exact ⟨hq, trivial, hok, by rw [List.map_append]⟩
theorem oAl {α : Type} {iE : Enc α} (x : α) {c : Call} {b s : Operand} {q : Pl} {t t1 t2 el sz by_ sz2 by2 el2 cw : Nat} {z z2 : List AV} {d : TD} {vs : AV} {m : List α} {S' : St} {cs : List AV} (hk : E3 F T k ops os e' l' G) (ho : o.op = .call c := by exact rfl) (hc : c.callee = .builtin .append := by exact rfl)
    (ha : c.args.toList = [b, s] := by exact rfl) (hb : c.argTypes.toList = [t1, t2] := by exact rfl) (hdst : o.dst = some t := by exact rfl) (hg : o.guard = none := by exact rfl) (h1 : lk F.Δ t1 = some ⟨.slice el, sz, by_, z⟩ := by exact rfl) (h2 : lk F.Δ t2 = some ⟨.slice el2, sz2, by2, z2⟩ := by exact rfl)
    (hd : lk F.Δ el = some d := by exact rfl) (hb' : St.val ⟨e, l, G⟩ b = some (.view q) := by exact rfl) (hu : St.ownAt ⟨e, l, G⟩ q = some (cw, m.map enc) := by exact rfl) (hcw : cw = d.size := by exact rfl) (hs : St.val ⟨e, l, G⟩ s = some vs := by exact rfl) (hm : St.slOf ⟨e, l, G⟩ vs = some ([cs]) := by exact rfl) (hx : cs = enc x := by exact rfl) (hq : (F.qt && anyG q) = false := by exact rfl)
    (a1 : d.zero.length = d.size := by exact rfl) (a2 : (match d.k with | .tup | .fn => False | _ => True) := by exact trivial) (a3 : 0 < d.bytes := by exact Nat.le_of_ble_eq_true rfl) (a4 : w α = d.size := by exact rfl) (a5 : ∀ x : α, (enc x).all AV.leaf = true := by exact fun _ => rfl)
    (a6 : (m.length + 1) * d.bytes ≤ 140737488355328 := by (try dsimp only); omega)
    (hS : St.put (St.take ⟨e, l, G⟩ q) t (.own d.size ((m ++ [x]).map enc)) = S' := by exact rfl)
    (he : S'.env = e' := by ((repeat (refine nlc (m' := ?_) rfl ?_; rotate_left)); exact nln rfl)) (hl : S'.loc = l' := by ((repeat (refine nlp (x' := ?_) (m' := ?_) rfl ?_ ?_; rotate_left 2; focus ((repeat (first | (refine nlc (p := AV.int _ _) (m' := ?_) rfl ?_; rotate_left) | (refine nlc (p := AV.sl _) (m' := ?_) rfl ?_; rotate_left) | (refine nlc (p := AV.bool _) (m' := ?_) rfl ?_; rotate_left) | (refine nlc (p := AV.own _ _) (m' := ?_) rfl ?_; rotate_left) | (refine nlc (p := AV.str _) (m' := ?_) rfl ?_; rotate_left) | (refine nlc (p := AV.emp) (m' := ?_) rfl ?_; rotate_left) | (refine nlc (p := AV.junk) (m' := ?_) rfl ?_; rotate_left) | (refine nlc (p := AV.nilp) (m' := ?_) rfl ?_; rotate_left) | (refine nlc (p := AV.ptrF _) (m' := ?_) rfl ?_; rotate_left) | (refine nlc (p := AV.fn _ _) (m' := ?_) rfl ?_; rotate_left) | (refine nlc (p := AV.ptr _ _) (m' := ?_) rfl ?_; rotate_left))); exact nln rfl))); exact nln rfl)) (hG : S'.G = G := by exact rfl) : E3 F T k ops (o :: os) e l G :=
  o_none hg (apl_wop (ys := [x]) ho hc ha hb hdst h1 h2 hd hs hm hb' hu hcw hq a1 a2 a3 (by rw [hx]; rfl) a4 a5 (by simpa using a6)) (fun S'' hS'' hΔ hd X a w hr => hk.h hΔ hd X a w (by rw [← st_of he hl hG, ← hS, ← hS'']; exact hr))
theorem oMl {α : Type} {iE : Enc α} {ys : List α} {c : Call} {b s : Operand} {q : Pl} {t t1 t2 el sz by_ sz2 by2 el2 cw : Nat} {z z2 : List AV} {d : TD} {vs : AV} {m : List α} {S' : St} (hk : E3 F T k ops os e' l' G) (ho : o.op = .call c := by exact rfl) (hc : c.callee = .builtin .append := by exact rfl)
    (ha : c.args.toList = [b, s] := by exact rfl) (hb : c.argTypes.toList = [t1, t2] := by exact rfl) (hdst : o.dst = some t := by exact rfl) (hg : o.guard = none := by exact rfl) (h1 : lk F.Δ t1 = some ⟨.slice el, sz, by_, z⟩ := by exact rfl) (h2 : lk F.Δ t2 = some ⟨.slice el2, sz2, by2, z2⟩ := by exact rfl)
    (hd : lk F.Δ el = some d := by exact rfl) (hb' : St.val ⟨e, l, G⟩ b = some (.view q) := by exact rfl) (hu : St.ownAt ⟨e, l, G⟩ q = some (cw, m.map enc) := by exact rfl) (hcw : cw = d.size := by exact rfl) (hs : St.val ⟨e, l, G⟩ s = some vs := by exact rfl) (hm : St.slOf ⟨e, l, G⟩ vs = some (ys.map enc) := by exact rfl) (hq : (F.qt && anyG q) = false := by exact rfl)
    (a1 : d.zero.length = d.size := by exact rfl) (a2 : (match d.k with | .tup | .fn => False | _ => True) := by exact trivial) (a3 : 0 < d.bytes := by exact Nat.le_of_ble_eq_true rfl) (a4 : w α = d.size := by exact rfl) (a5 : ∀ x : α, (enc x).all AV.leaf = true := by exact fun _ => rfl)
    (a6 : (m.length + ys.length) * d.bytes ≤ 140737488355328 := by (try dsimp only); omega)
    (hS : St.put (St.take ⟨e, l, G⟩ q) t (.own d.size ((m ++ ys).map enc)) = S' := by exact rfl)
    (he : S'.env = e' := by ((repeat (refine nlc (m' := ?_) rfl ?_; rotate_left)); exact nln rfl)) (hl : S'.loc = l' := by ((repeat (refine nlp (x' := ?_) (m' := ?_) rfl ?_ ?_; rotate_left 2; focus ((repeat (first | (refine nlc (p := AV.int _ _) (m' := ?_) rfl ?_; rotate_left) | (refine nlc (p := AV.sl _) (m' := ?_) rfl ?_; rotate_left) | (refine nlc (p := AV.bool _) (m' := ?_) rfl ?_; rotate_left) | (refine nlc (p := AV.own _ _) (m' := ?_) rfl ?_; rotate_left) | (refine nlc (p := AV.str _) (m' := ?_) rfl ?_; rotate_left) | (refine nlc (p := AV.emp) (m' := ?_) rfl ?_; rotate_left) | (refine nlc (p := AV.junk) (m' := ?_) rfl ?_; rotate_left) | (refine nlc (p := AV.nilp) (m' := ?_) rfl ?_; rotate_left) | (refine nlc (p := AV.ptrF _) (m' := ?_) rfl ?_; rotate_left) | (refine nlc (p := AV.fn _ _) (m' := ?_) rfl ?_; rotate_left) | (refine nlc (p := AV.ptr _ _) (m' := ?_) rfl ?_; rotate_left))); exact nln rfl))); exact nln rfl)) (hG : S'.G = G := by exact rfl) : E3 F T k ops (o :: os) e l G :=
  o_none hg (apl_wop (ys := ys) ho hc ha hb hdst h1 h2 hd hs hm hb' hu hcw hq a1 a2 a3 rfl a4 a5 (by simpa using a6)) (fun S'' hS'' hΔ hd X a w hr => hk.h hΔ hd X a w (by rw [← st_of he hl hG, ← hS, ← hS'']; exact hr))
theorem tAl {α : Type} {iE : Enc α} (x : α) {c : Call} {b s : Operand} {q : Pl} {t t1 t2 el sz by_ sz2 by2 el2 cw : Nat} {z z2 : List AV} {d : TD} {vs : AV} {m : List α} {S' : St} {cs : List AV} (hk : E5 F Q ops os e' l' G) (ho : o.op = .call c := by exact rfl) (hc : c.callee = .builtin .append := by exact rfl)
    (ha : c.args.toList = [b, s] := by exact rfl) (hb : c.argTypes.toList = [t1, t2] := by exact rfl) (hdst : o.dst = some t := by exact rfl) (hg : o.guard = none := by exact rfl) (h1 : lk F.Δ t1 = some ⟨.slice el, sz, by_, z⟩ := by exact rfl) (h2 : lk F.Δ t2 = some ⟨.slice el2, sz2, by2, z2⟩ := by exact rfl)
    (hd : lk F.Δ el = some d := by exact rfl) (hb' : St.val ⟨e, l, G⟩ b = some (.view q) := by exact rfl) (hu : St.ownAt ⟨e, l, G⟩ q = some (cw, m.map enc) := by exact rfl) (hcw : cw = d.size := by exact rfl) (hs : St.val ⟨e, l, G⟩ s = some vs := by exact rfl) (hm : St.slOf ⟨e, l, G⟩ vs = some ([cs]) := by exact rfl) (hx : cs = enc x := by exact rfl) (hq : (F.qt && anyG q) = false := by exact rfl)
    (a1 : d.zero.length = d.size := by exact rfl) (a2 : (match d.k with | .tup | .fn => False | _ => True) := by exact trivial) (a3 : 0 < d.bytes := by exact Nat.le_of_ble_eq_true rfl) (a4 : w α = d.size := by exact rfl) (a5 : ∀ x : α, (enc x).all AV.leaf = true := by exact fun _ => rfl)
    (a6 : (m.length + 1) * d.bytes ≤ 140737488355328 := by (try dsimp only); omega)
    (hS : St.put (St.take ⟨e, l, G⟩ q) t (.own d.size ((m ++ [x]).map enc)) = S' := by exact rfl)
    (he : S'.env = e' := by ((repeat (refine nlc (m' := ?_) rfl ?_; rotate_left)); exact nln rfl)) (hl : S'.loc = l' := by ((repeat (refine nlp (x' := ?_) (m' := ?_) rfl ?_ ?_; rotate_left 2; focus ((repeat (first | (refine nlc (p := AV.int _ _) (m' := ?_) rfl ?_; rotate_left) | (refine nlc (p := AV.sl _) (m' := ?_) rfl ?_; rotate_left) | (refine nlc (p := AV.bool _) (m' := ?_) rfl ?_; rotate_left) | (refine nlc (p := AV.own _ _) (m' := ?_) rfl ?_; rotate_left) | (refine nlc (p := AV.str _) (m' := ?_) rfl ?_; rotate_left) | (refine nlc (p := AV.emp) (m' := ?_) rfl ?_; rotate_left) | (refine nlc (p := AV.junk) (m' := ?_) rfl ?_; rotate_left) | (refine nlc (p := AV.nilp) (m' := ?_) rfl ?_; rotate_left) | (refine nlc (p := AV.ptrF _) (m' := ?_) rfl ?_; rotate_left) | (refine nlc (p := AV.fn _ _) (m' := ?_) rfl ?_; rotate_left) | (refine nlc (p := AV.ptr _ _) (m' := ?_) rfl ?_; rotate_left))); exact nln rfl))); exact nln rfl)) (hG : S'.G = G := by exact rfl) : E5 F Q ops (o :: os) e l G :=
  ⟨by simp only [evOps, hg]; exact wop_mono (fun S hS'' => by rw [hS'', hS, st_of he hl hG]; exact hk.h) (apl_wop (ys := [x]) ho hc ha hb hdst h1 h2 hd hs hm hb' hu hcw hq a1 a2 a3 (by rw [hx]; rfl) a4 a5 (by simpa using a6))⟩
theorem tMl {α : Type} {iE : Enc α} {ys : List α} {c : Call} {b s : Operand} {q : Pl} {t t1 t2 el sz by_ sz2 by2 el2 cw : Nat} {z z2 : List AV} {d : TD} {vs : AV} {m : List α} {S' : St} (hk : E5 F Q ops os e' l' G) (ho : o.op = .call c := by exact rfl) (hc : c.callee = .builtin .append := by exact rfl)
    (ha : c.args.toList = [b, s] := by exact rfl) (hb : c.argTypes.toList = [t1, t2] := by exact rfl) (hdst : o.dst = some t := by exact rfl) (hg : o.guard = none := by exact rfl) (h1 : lk F.Δ t1 = some ⟨.slice el, sz, by_, z⟩ := by exact rfl) (h2 : lk F.Δ t2 = some ⟨.slice el2, sz2, by2, z2⟩ := by exact rfl)
    (hd : lk F.Δ el = some d := by exact rfl) (hb' : St.val ⟨e, l, G⟩ b = some (.view q) := by exact rfl) (hu : St.ownAt ⟨e, l, G⟩ q = some (cw, m.map enc) := by exact rfl) (hcw : cw = d.size := by exact rfl) (hs : St.val ⟨e, l, G⟩ s = some vs := by exact rfl) (hm : St.slOf ⟨e, l, G⟩ vs = some (ys.map enc) := by exact rfl) (hq : (F.qt && anyG q) = false := by exact rfl)
    (a1 : d.zero.length = d.size := by exact rfl) (a2 : (match d.k with | .tup | .fn => False | _ => True) := by exact trivial) (a3 : 0 < d.bytes := by exact Nat.le_of_ble_eq_true rfl) (a4 : w α = d.size := by exact rfl) (a5 : ∀ x : α, (enc x).all AV.leaf = true := by exact fun _ => rfl)
    (a6 : (m.length + ys.length) * d.bytes ≤ 140737488355328 := by (try dsimp only); omega)
    (hS : St.put (St.take ⟨e, l, G⟩ q) t (.own d.size ((m ++ ys).map enc)) = S' := by exact rfl)
    (he : S'.env = e' := by ((repeat (refine nlc (m' := ?_) rfl ?_; rotate_left)); exact nln rfl)) (hl : S'.loc = l' := by ((repeat (refine nlp (x' := ?_) (m' := ?_) rfl ?_ ?_; rotate_left 2; focus ((repeat (first | (refine nlc (p := AV.int _ _) (m' := ?_) rfl ?_; rotate_left) | (refine nlc (p := AV.sl _) (m' := ?_) rfl ?_; rotate_left) | (refine nlc (p := AV.bool _) (m' := ?_) rfl ?_; rotate_left) | (refine nlc (p := AV.own _ _) (m' := ?_) rfl ?_; rotate_left) | (refine nlc (p := AV.str _) (m' := ?_) rfl ?_; rotate_left) | (refine nlc (p := AV.emp) (m' := ?_) rfl ?_; rotate_left) | (refine nlc (p := AV.junk) (m' := ?_) rfl ?_; rotate_left) | (refine nlc (p := AV.nilp) (m' := ?_) rfl ?_; rotate_left) | (refine nlc (p := AV.ptrF _) (m' := ?_) rfl ?_; rotate_left) | (refine nlc (p := AV.fn _ _) (m' := ?_) rfl ?_; rotate_left) | (refine nlc (p := AV.ptr _ _) (m' := ?_) rfl ?_; rotate_left))); exact nln rfl))); exact nln rfl)) (hG : S'.G = G := by exact rfl) : E5 F Q ops (o :: os) e l G :=
  ⟨by simp only [evOps, hg]; exact wop_mono (fun S hS'' => by rw [hS'', hS, st_of he hl hG]; exact hk.h) (apl_wop (ys := ys) ho hc ha hb hdst h1 h2 hd hs hm hb' hu hcw hq a1 a2 a3 rfl a4 a5 (by simpa using a6))⟩
theorem tA {α : Type} {iE : Enc α} (x : α) {c : Call} {b s : Operand} {t t1 t2 u el sz by_ sz2 by2 el2 cw : Nat} {z z2 : List AV} {d : TD} {vs : AV} {cs : List AV} {m : List α} (hk : E5 F Q ops os e' l G) (ho : o.op = .call c := by exact rfl) (hc : c.callee = .builtin .append := by exact rfl)
    (ha : c.args.toList = [b, s] := by exact rfl) (hb : c.argTypes.toList = [t1, t2] := by exact rfl) (hdst : o.dst = some t := by exact rfl) (hg : o.guard = none := by exact rfl) (h1 : lk F.Δ t1 = some ⟨.slice el, sz, by_, z⟩ := by exact rfl) (h2 : lk F.Δ t2 = some ⟨.slice el2, sz2, by2, z2⟩ := by exact rfl)
    (hd : lk F.Δ el = some d := by exact rfl) (hs : St.val ⟨e, l, G⟩ s = some vs := by exact rfl) (hm : St.slOf ⟨e, l, G⟩ vs = some [cs] := by exact rfl) (hb' : b = .tmp u := by exact rfl) (hu : lk e u = some (.own cw (m.map enc)) := by exact rfl) (hcw : cw = d.size := by exact rfl)
    (a1 : d.zero.length = d.size := by exact rfl) (a2 : (match d.k with | .tup | .fn => False | _ => True) := by exact trivial) (a3 : 0 < d.bytes := by exact Nat.le_of_ble_eq_true rfl) (hx : cs = enc x := by exact rfl) (a4 : w α = d.size := by exact rfl) (a5 : (enc x).all AV.leaf = true := by exact rfl)
    (a6 : (m.length + 1) * d.bytes ≤ 140737488355328 := by (try dsimp only); omega)
    (he : (St.put (St.take ⟨e, l, G⟩ (.t u)) t (.own d.size ((m ++ [x]).map enc))).env = e' := by ((repeat (refine nlc (m' := ?_) rfl ?_; rotate_left)); exact nln rfl)) (hl : (St.put (St.take ⟨e, l, G⟩ (.t u)) t (.own d.size ((m ++ [x]).map enc))).loc = l := by exact rfl) (hG : (St.put (St.take ⟨e, l, G⟩ (.t u)) t (.own d.size ((m ++ [x]).map enc))).G = G := by exact rfl) : E5 F Q ops (o :: os) e l G := by
  subst hx hb' hcw
  have hok : apOk d (m.map enc) ([enc x]) := by
    refine ⟨a1, a2, a3, ?_, ?_, by simpa using a6⟩
    · intro es hes
      rw [List.mem_singleton.1 hes, Enc.hw, a4]
    · simpa using a5
  have hw : wop F.P F.Δ F.qt F.gs ⟨e, l, G⟩ o (fun S => S = ⟨e', l, G⟩) := by
    unfold wop
    rw [ho]
    simp only [hc, ha, hb]
    unfold wappend
    have e1 : m.map enc ++ [enc x] = (m ++ [x]).map enc := by simp
    have hu' : St.val ⟨e, l, G⟩ (.tmp u) = some (.own d.size (m.map enc)) := hu
    simp only [h1, h2, hdst, hd, hs, hm, hu']
    exact ⟨trivial, hok, by rw [e1, st_of he hl hG]⟩
  exact ⟨by simp only [evOps, hg]; exact wop_mono (fun S hS => by rw [hS]; exact hk.h) hw⟩
theorem tAe {α : Type} [iE : Enc α] (x : α) {c : Call} {b s : Operand} {t t1 t2 el sz by_ sz2 by2 el2 : Nat} {z z2 : List AV} {d : TD} {vs : AV} {cs : List AV} (hk : E5 F Q ops os e' l G) (ho : o.op = .call c := by exact rfl) (hc : c.callee = .builtin .append := by exact rfl)
    (ha : c.args.toList = [b, s] := by exact rfl) (hb : c.argTypes.toList = [t1, t2] := by exact rfl) (hdst : o.dst = some t := by exact rfl) (hg : o.guard = none := by exact rfl) (h1 : lk F.Δ t1 = some ⟨.slice el, sz, by_, z⟩ := by exact rfl) (h2 : lk F.Δ t2 = some ⟨.slice el2, sz2, by2, z2⟩ := by exact rfl)
    (hd : lk F.Δ el = some d := by exact rfl) (hs : St.val ⟨e, l, G⟩ s = some vs := by exact rfl) (hm : St.slOf ⟨e, l, G⟩ vs = some [cs] := by exact rfl) (hb' : St.val ⟨e, l, G⟩ b = some .emp := by exact rfl)
    (a1 : d.zero.length = d.size := by exact rfl) (a2 : (match d.k with | .tup | .fn => False | _ => True) := by exact trivial) (a3 : 0 < d.bytes := by exact Nat.le_of_ble_eq_true rfl) (hx : cs = enc x := by exact rfl) (a4 : w α = d.size := by exact rfl) (a5 : (enc x).all AV.leaf = true := by exact rfl)
    (a6 : (1) * d.bytes ≤ 140737488355328 := by (try dsimp only); omega)
    (he : (St.put ⟨e, l, G⟩ t (.own d.size ((([] : List α) ++ [x]).map enc))).env = e' := by ((repeat (refine nlc (m' := ?_) rfl ?_; rotate_left)); exact nln rfl)) (hl : (St.put ⟨e, l, G⟩ t (.own d.size ((([] : List α) ++ [x]).map enc))).loc = l := by exact rfl) (hG : (St.put ⟨e, l, G⟩ t (.own d.size ((([] : List α) ++ [x]).map enc))).G = G := by exact rfl) : E5 F Q ops (o :: os) e l G := by
  subst hx 
  have hok : apOk d ([]) ([enc x]) := by
    refine ⟨a1, a2, a3, ?_, ?_, by simpa using a6⟩
    · intro es hes
      rw [List.mem_singleton.1 hes, Enc.hw, a4]
    · simpa using a5
  have hw : wop F.P F.Δ F.qt F.gs ⟨e, l, G⟩ o (fun S => S = ⟨e', l, G⟩) := by
    unfold wop
    rw [ho]
    simp only [hc, ha, hb]
    unfold wappend
    have e1 : ([] : List (List AV)) ++ [enc x] = (([] : List α) ++ [x]).map enc := by simp
    simp only [h1, h2, hdst, hd, hs, hm, hb']
    refine ⟨hok, ?_⟩
    have e2 : [enc x] = (([] : List α) ++ [x]).map enc := by simp
    rw [e2, st_of he hl hG]
  exact ⟨by simp only [evOps, hg]; exact wop_mono (fun S hS => by rw [hS]; exact hk.h) hw⟩
theorem tM {α : Type} {iE : Enc α} {c : Call} {b s : Operand} {t t1 t2 u el sz by_ sz2 by2 el2 cw : Nat} {z z2 : List AV} {d : TD} {vs : AV} {ys : List α} {m : List α} (hk : E5 F Q ops os e' l G) (ho : o.op = .call c := by exact rfl) (hc : c.callee = .builtin .append := by exact rfl)
    (ha : c.args.toList = [b, s] := by exact rfl) (hb : c.argTypes.toList = [t1, t2] := by exact rfl) (hdst : o.dst = some t := by exact rfl) (hg : o.guard = none := by exact rfl) (h1 : lk F.Δ t1 = some ⟨.slice el, sz, by_, z⟩ := by exact rfl) (h2 : lk F.Δ t2 = some ⟨.slice el2, sz2, by2, z2⟩ := by exact rfl)
    (hd : lk F.Δ el = some d := by exact rfl) (hs : St.val ⟨e, l, G⟩ s = some vs := by exact rfl) (hm : St.slOf ⟨e, l, G⟩ vs = some (ys.map enc) := by exact rfl) (hb' : b = .tmp u := by exact rfl) (hu : lk e u = some (.own cw (m.map enc)) := by exact rfl) (hcw : cw = d.size := by exact rfl)
    (a1 : d.zero.length = d.size := by exact rfl) (a2 : (match d.k with | .tup | .fn => False | _ => True) := by exact trivial) (a3 : 0 < d.bytes := by exact Nat.le_of_ble_eq_true rfl) (a4 : w α = d.size := by exact rfl) (a5 : ∀ x : α, (enc x).all AV.leaf = true := by exact fun _ => rfl)
    (a6 : (m.length + ys.length) * d.bytes ≤ 140737488355328 := by (try dsimp only); omega)
    (he : (St.put (St.take ⟨e, l, G⟩ (.t u)) t (.own d.size ((m ++ ys).map enc))).env = e' := by ((repeat (refine nlc (m' := ?_) rfl ?_; rotate_left)); exact nln rfl)) (hl : (St.put (St.take ⟨e, l, G⟩ (.t u)) t (.own d.size ((m ++ ys).map enc))).loc = l := by exact rfl) (hG : (St.put (St.take ⟨e, l, G⟩ (.t u)) t (.own d.size ((m ++ ys).map enc))).G = G := by exact rfl) : E5 F Q ops (o :: os) e l G := by
  subst hb' hcw
  have hok : apOk d (m.map enc) (ys.map enc) := by
    refine ⟨a1, a2, a3, ?_, ?_, by simpa using a6⟩
    · intro es hes
      obtain ⟨y, _, rfl⟩ := List.mem_map.1 hes; rw [Enc.hw, a4]
    · rw [List.all_eq_true]
      intro y hy
      obtain ⟨cs, h1, h2⟩ := List.mem_flatten.1 hy
      obtain ⟨x, _, rfl⟩ := List.mem_map.1 h1
      exact List.all_eq_true.1 (a5 x) y h2
  have hw : wop F.P F.Δ F.qt F.gs ⟨e, l, G⟩ o (fun S => S = ⟨e', l, G⟩) := by
    unfold wop
    rw [ho]
    simp only [hc, ha, hb]
    unfold wappend
    have e1 : m.map enc ++ ys.map enc = (m ++ ys).map enc := by simp
    have hu' : St.val ⟨e, l, G⟩ (.tmp u) = some (.own d.size (m.map enc)) := hu
    simp only [h1, h2, hdst, hd, hs, hm, hu']
    exact ⟨trivial, hok, by rw [e1, st_of he hl hG]⟩
  exact ⟨by simp only [evOps, hg]; exact wop_mono (fun S hS => by rw [hS]; exact hk.h) hw⟩
theorem tMe {α : Type} {iE : Enc α} {c : Call} {b s : Operand} {t t1 t2 el sz by_ sz2 by2 el2 : Nat} {z z2 : List AV} {d : TD} {vs : AV} {ys : List α} (hk : E5 F Q ops os e' l G) (ho : o.op = .call c := by exact rfl) (hc : c.callee = .builtin .append := by exact rfl)
    (ha : c.args.toList = [b, s] := by exact rfl) (hb : c.argTypes.toList = [t1, t2] := by exact rfl) (hdst : o.dst = some t := by exact rfl) (hg : o.guard = none := by exact rfl) (h1 : lk F.Δ t1 = some ⟨.slice el, sz, by_, z⟩ := by exact rfl) (h2 : lk F.Δ t2 = some ⟨.slice el2, sz2, by2, z2⟩ := by exact rfl)
    (hd : lk F.Δ el = some d := by exact rfl) (hs : St.val ⟨e, l, G⟩ s = some vs := by exact rfl) (hm : St.slOf ⟨e, l, G⟩ vs = some (ys.map enc) := by exact rfl) (hb' : St.val ⟨e, l, G⟩ b = some .emp := by exact rfl)
    (a1 : d.zero.length = d.size := by exact rfl) (a2 : (match d.k with | .tup | .fn => False | _ => True) := by exact trivial) (a3 : 0 < d.bytes := by exact Nat.le_of_ble_eq_true rfl) (a4 : w α = d.size := by exact rfl) (a5 : ∀ x : α, (enc x).all AV.leaf = true := by exact fun _ => rfl)
    (a6 : (ys.length) * d.bytes ≤ 140737488355328 := by (try dsimp only); omega)
    (he : (St.put ⟨e, l, G⟩ t (.own d.size ((([] : List α) ++ ys).map enc))).env = e' := by ((repeat (refine nlc (m' := ?_) rfl ?_; rotate_left)); exact nln rfl)) (hl : (St.put ⟨e, l, G⟩ t (.own d.size ((([] : List α) ++ ys).map enc))).loc = l := by exact rfl) (hG : (St.put ⟨e, l, G⟩ t (.own d.size ((([] : List α) ++ ys).map enc))).G = G := by exact rfl) : E5 F Q ops (o :: os) e l G := by
  have hok : apOk d ([]) (ys.map enc) := by
    refine ⟨a1, a2, a3, ?_, ?_, by simpa using a6⟩
    · intro es hes
      obtain ⟨y, _, rfl⟩ := List.mem_map.1 hes; rw [Enc.hw, a4]
    · rw [List.all_eq_true]
      intro y hy
      obtain ⟨cs, h1, h2⟩ := List.mem_flatten.1 hy
      obtain ⟨x, _, rfl⟩ := List.mem_map.1 h1
      exact List.all_eq_true.1 (a5 x) y h2
  have hw : wop F.P F.Δ F.qt F.gs ⟨e, l, G⟩ o (fun S => S = ⟨e', l, G⟩) := by
    unfold wop
    rw [ho]
    simp only [hc, ha, hb]
    unfold wappend
    have e1 : ([] : List (List AV)) ++ ys.map enc = (([] : List α) ++ ys).map enc := by simp
    simp only [h1, h2, hdst, hd, hs, hm, hb']
    refine ⟨hok, ?_⟩
    have e2 : ys.map enc = (([] : List α) ++ ys).map enc := by simp
    rw [e2, st_of he hl hG]
  exact ⟨by simp only [evOps, hg]; exact wop_mono (fun S hS => by rw [hS]; exact hk.h) hw⟩
theorem oSf {α β : Type} [iE : Enc α] (up_ : α → β → α) (cv : β → AV) {zz : β} {t c off u : Nat} {ad y : Operand} {d : TD} {m : List α} {n : Int} {v : AV} (hk : E3 F T k ops os e' l G) (ho : o.op = .store t ad y := by exact rfl) (hdst : o.dst = none := by exact rfl) (hg : o.guard = none := by exact rfl) (ht : lk F.Δ t = some d := by exact rfl) (had : St.val ⟨e, l, G⟩ ad = some (.eptr (.t u) c n.toNat off) := by exact rfl) (hu : lk e u = some (.own c (m.map enc)) := by exact rfl) (hy : St.val ⟨e, l, G⟩ y = some v := by exact rfl) (hv : v = cv zz := by exact rfl)
    (hlf : v.cells.all AV.leaf = true := by exact rfl) (hdp : v.isDeep = true := by exact rfl) (hs : v.cells.length = d.size := by exact rfl) (hle : off + d.size ≤ (enc (rd m n)).length := by exact Nat.le_of_ble_eq_true rfl) (hx : ∀ (q : α) (z : β), over (enc q) off (cv z).cells = enc (up_ q z) := by exact fun _ _ => rfl) (h0 : 0 ≤ n := by omega) (h1 : n < (m.length : Int) := by first | omega | (simp only [List.length_set] at *; omega))
    (he : up e u (.own c ((m.set n.toNat (up_ (rd m n) zz)).map enc)) = e' := by ((repeat (refine nlc (m' := ?_) rfl ?_; rotate_left)); exact nln rfl)) : E3 F T k ops (o :: os) e l G := by
  subst he
  exact o_none hg (se_wop ho hdst ht had hu hy hlf hdp hs hle (by rw [hv]; exact hx _ _) h0 h1) (fun S' hS hΔ hd X a w hr => by subst hS; exact hk.h hΔ hd X a w hr)
theorem tSf {α β : Type} [iE : Enc α] (up_ : α → β → α) (cv : β → AV) {zz : β} {t c off u : Nat} {ad y : Operand} {d : TD} {m : List α} {n : Int} {v : AV} (hk : E5 F Q ops os e' l G) (ho : o.op = .store t ad y := by exact rfl) (hdst : o.dst = none := by exact rfl) (hg : o.guard = none := by exact rfl) (ht : lk F.Δ t = some d := by exact rfl) (had : St.val ⟨e, l, G⟩ ad = some (.eptr (.t u) c n.toNat off) := by exact rfl) (hu : lk e u = some (.own c (m.map enc)) := by exact rfl) (hy : St.val ⟨e, l, G⟩ y = some v := by exact rfl) (hv : v = cv zz := by exact rfl)
    (hlf : v.cells.all AV.leaf = true := by exact rfl) (hdp : v.isDeep = true := by exact rfl) (hs : v.cells.length = d.size := by exact rfl) (hle : off + d.size ≤ (enc (rd m n)).length := by exact Nat.le_of_ble_eq_true rfl) (hx : ∀ (q : α) (z : β), over (enc q) off (cv z).cells = enc (up_ q z) := by exact fun _ _ => rfl) (h0 : 0 ≤ n := by omega) (h1 : n < (m.length : Int) := by first | omega | (simp only [List.length_set] at *; omega))
    (he : up e u (.own c ((m.set n.toNat (up_ (rd m n) zz)).map enc)) = e' := by ((repeat (refine nlc (m' := ?_) rfl ?_; rotate_left)); exact nln rfl)) : E5 F Q ops (o :: os) e l G := by
  subst he
  exact ⟨by simp only [evOps, hg]; exact wop_mono (fun S hS => by rw [hS]; exact hk.h) (se_wop ho hdst ht had hu hy hlf hdp hs hle (by rw [hv]; exact hx _ _) h0 h1)⟩
theorem fzo (q : Pl) {c : Code} {cw : Nat} {m : List (List AV)} {S' : St} (hk : E1 F T k c e' l' G) (hw : St.ownAt ⟨e, l, G⟩ q = some (cw, m) := by exact rfl) (hq : (F.qt && anyG q) = false := by exact rfl) (hS : frz1 ⟨e, l, G⟩ q = S' := by exact rfl)
    (he : S'.env = e' := by ((repeat (refine nlc (m' := ?_) rfl ?_; rotate_left)); exact nln rfl)) (hl : S'.loc = l' := by ((repeat (refine nlp (x' := ?_) (m' := ?_) rfl ?_ ?_; rotate_left 2; focus ((repeat (first | (refine nlc (p := AV.int _ _) (m' := ?_) rfl ?_; rotate_left) | (refine nlc (p := AV.sl _) (m' := ?_) rfl ?_; rotate_left) | (refine nlc (p := AV.bool _) (m' := ?_) rfl ?_; rotate_left) | (refine nlc (p := AV.own _ _) (m' := ?_) rfl ?_; rotate_left) | (refine nlc (p := AV.str _) (m' := ?_) rfl ?_; rotate_left) | (refine nlc (p := AV.emp) (m' := ?_) rfl ?_; rotate_left) | (refine nlc (p := AV.junk) (m' := ?_) rfl ?_; rotate_left) | (refine nlc (p := AV.nilp) (m' := ?_) rfl ?_; rotate_left) | (refine nlc (p := AV.ptrF _) (m' := ?_) rfl ?_; rotate_left) | (refine nlc (p := AV.fn _ _) (m' := ?_) rfl ?_; rotate_left) | (refine nlc (p := AV.ptr _ _) (m' := ?_) rfl ?_; rotate_left))); exact nln rfl))); exact nln rfl)) (hG : S'.G = G := by exact rfl) : E1 F T k c e l G := by
  refine ⟨fun hc X a w hr => ?_⟩
  obtain ⟨X', h1, h2⟩ := hr.rx.frz1 (q := q) hq
  rw [hS, st_of he hl hG] at h1
  exact hk.h hc X' a w ⟨h1, hr.n, hr.d, hr.fs.trans h2⟩
theorem vBd {P : Program} {Δ : Tab} {S : St} {t : Nat} {ps : Array (Nat × Operand)} {cs cs' : List AV} (h : qop P Δ S (.build t ps) (fun v => v = .agg cs) := by first | exact ⟨rfl, rfl⟩ | exact rfl) (hcs : cs = cs' := by ((repeat (refine nlc (m' := ?_) rfl ?_; rotate_left)); exact nln rfl)) : QV P Δ S (.build t ps) (.agg cs') :=
  ⟨hcs ▸ h⟩
theorem tl_eq {s t : ByteArray} : (s.toList = t.toList) = (s = t) := by
  refine propext ⟨fun e => ?_, fun e => by rw [e]⟩
  rw [ByteArray.toList_eq, ByteArray.toList_eq] at e
  exact ByteArray.ext (Array.toList_inj.1 e)
theorem tl_lit {s : ByteArray} {a : UInt8} {l : List UInt8} : (s.toList = a :: l) = (s = ⟨(a :: l).toArray⟩) :=
  (congrArg (fun z => s.toList = z) (ByteArray.toList_mk (a :: l)).symm).trans tl_eq
theorem tl_nil {s : ByteArray} : (s.toList = []) = (s = ⟨([] : List UInt8).toArray⟩) :=
  (congrArg (fun z => s.toList = z) (ByteArray.toList_mk []).symm).trans tl_eq
theorem lenC {α : Type} (a : α) (l : List α) : (((a :: l).length : Int) = 0) = False := by simp; omega
theorem lenN {α : Type} : ((([] : List α).length : Int) = 0) = True := by simp
theorem bl {s t : ByteArray} : (s.toList == t.toList) = decide (s = t) := by
  by_cases h : s = t
  · subst h; simp
  · rw [decide_eq_false h]
    refine beq_eq_false_iff_ne.2 (fun e => h ?_)
    rw [ByteArray.toList_eq, ByteArray.toList_eq] at e
    exact ByteArray.ext (Array.toList_inj.1 e)
theorem vBS {P : Program} {Δ : Tab} {S : St} {t1 n : Nat} {ps : Array (Nat × Operand)} {el sz by_ : Nat} {z : List AV} {d : TD} {cs : List AV} {rows : List (List AV)} (h1 : lk Δ t1 = some ⟨.slice el, sz, by_, z⟩ := by exact rfl) (h2 : lk Δ el = some d := by exact rfl)
    (h3 : (n + 1) * d.size ≤ 16777216 := by exact Nat.le_of_ble_eq_true rfl) (h4 : d.zero.length = d.size := by exact rfl) (h5 : (match d.k with | .tup | .fn => False | _ => True) := by exact trivial)
    (h6 : fillB S (fun i => some (i * d.size, d.size)) (zeros d.zero (n + 1)) ps.toList = some cs := by exact rfl)
    (h7 : chop d.size (n + 1) cs = rows := by ((repeat (refine nlr (x' := ?_) (m' := ?_) rfl ?_ ?_; rotate_left 2; focus ((repeat (first | (refine nlc (p := AV.int _ _) (m' := ?_) rfl ?_; rotate_left) | (refine nlc (p := AV.sl _) (m' := ?_) rfl ?_; rotate_left) | (refine nlc (p := AV.bool _) (m' := ?_) rfl ?_; rotate_left) | (refine nlc (p := AV.own _ _) (m' := ?_) rfl ?_; rotate_left) | (refine nlc (p := AV.str _) (m' := ?_) rfl ?_; rotate_left) | (refine nlc (p := AV.emp) (m' := ?_) rfl ?_; rotate_left) | (refine nlc (p := AV.junk) (m' := ?_) rfl ?_; rotate_left) | (refine nlc (p := AV.nilp) (m' := ?_) rfl ?_; rotate_left) | (refine nlc (p := AV.ptrF _) (m' := ?_) rfl ?_; rotate_left) | (refine nlc (p := AV.fn _ _) (m' := ?_) rfl ?_; rotate_left) | (refine nlc (p := AV.ptr _ _) (m' := ?_) rfl ?_; rotate_left))); exact nln rfl))); exact nln rfl)) : QV P Δ S (.buildSlice t1 (n + 1) ps) (.sl rows) := by
  refine ⟨?_⟩
  simp only [qop]
  unfold qbslice
  simp only [h1, h2, h6]
  exact ⟨h3, h4, h5, by rw [h7]⟩
end Go.AL
end
