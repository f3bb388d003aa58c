/- Our own text: a logic over abstract values for the model of Go (the part of it that the law MarksPlay needs; in 3 texts, this is the one numbered 3). -/
import Derived.Test.YthfijdffkbkifaaA1MarksPlay
section
set_option linter.unusedVariables false
set_option linter.unusedSimpArgs false
namespace Go.AL
variable {F : Cfg} {T : Task F} {k : List Frm} {K Q : St → Prop} {e e' : Env} {l l' : Loc} {G : Objs} {ops : Array Oper} {o : Oper} {os : List Oper}

theorem up_same {α : Type} : ∀ {l : List (Nat × α)} {t : Nat} {v : α}, lk l t = some v → up l t v = l
  | [], t, v, h => by simp at h
  | (a, x) :: l, t, v, h => by
    rw [lk_cons] at h
    rw [up_cons]
    by_cases hc : a = t
    · rw [if_pos hc] at h ⊢; cases h; rw [hc]
    · rw [if_neg hc] at h ⊢; rw [up_same h]
def noRefs (t : Nat) : Env → Bool
  | [] => true
  | (_, x) :: e => match x.refs (.t t) with | true => false | false => noRefs t e
theorem noRefs_spec {t u : Nat} {y : AV} : ∀ {e : Env}, noRefs t e = true → lk e u = some y → y.refs (.t t) = false
  | [], _, h => by simp at h
  | (a, x) :: e, hn, h => by
    simp only [noRefs] at hn
    split at hn
    · cases hn
    · rename_i hx
      rw [lk_cons] at h
      by_cases c : a = u
      · rw [if_pos c] at h; cases h; exact hx
      · rw [if_neg c] at h; exact noRefs_spec hn h
theorem cons_le {t : Nat} {v : AV} (hr : noRefs t e = true) : St.Le ⟨(t, v) :: e, l, G⟩ (St.put ⟨e, l, G⟩ t v) := by
  refine ⟨fun u x h => ?_, fun _ _ h => h, fun _ _ h => h⟩
  simp only [St.get] at h
  rw [lk_cons] at h
  refine St.put_get ?_
  by_cases c : t = u
  · rw [if_pos c] at h; cases h; exact .inl ⟨c.symm, rfl⟩
  · rw [if_neg c] at h; exact .inr ⟨fun c' => c c'.symm, h, noRefs_spec hr h⟩
theorem consb_le {t : Nat} {v : AV} (hv : lk e t = some v) : St.Le ⟨(t, v) :: e, l, G⟩ ⟨e, l, G⟩ := by
  refine ⟨fun u x h => ?_, fun _ _ h => h, fun _ _ h => h⟩
  simp only [St.get] at h ⊢
  rw [lk_cons] at h
  by_cases c : t = u
  · rw [if_pos c] at h; cases h; rw [← c]; exact hv
  · rw [if_neg c] at h; exact h

theorem put_defers (a : Act) (dst : Option Nat) (v : Value) : (a.put dst v).defers = a.defers := by cases dst <;> rfl

theorem o_wop (hΔ : Tab.Ok F.P F.Δ) (hd : ∀ o' ∈ o :: os, ∀ t, o'.dst = some t → t < T.n) {S : St} {X : Ctx} {a : Act} {w : World} (hr : Rdy F T S X a w) {K : St → Prop} (h : wop F.P F.Δ F.qt F.gs S o K)
    (hk : ∀ S', K S' → ∀ X a w, Rdy F T S' X a w → wpList F.P ops (Kof F T k) os a w) (Q : Exit → Act → World → Prop) : o.wp F.P a w (wpList F.P ops (Kof F T k) os) Q := by
  refine wop_ok hΔ hr.rx (hr.fs.fin T.fin) (fun t ht => by rw [hr.n]; exact hd o (by simp) t ht) h _ _ (fun v w' S' X' k1 k2 k3 => ?_)
  exact hk S' k1 X' _ w' ⟨k2, by rw [size_put]; exact hr.n, by rw [put_defers]; exact hr.d, hr.fs.trans k3⟩
theorem o_none (hg : o.guard = none) {K : St → Prop} (h : wop F.P F.Δ F.qt F.gs ⟨e, l, G⟩ o K) (hk : ∀ S', K S' → Tab.Ok F.P F.Δ → (∀ o ∈ os, ∀ t, o.dst = some t → t < T.n) → ∀ X a w, Rdy F T S' X a w → wpList F.P ops (Kof F T k) os a w) : E3 F T k ops (o :: os) e l G := by
  refine ⟨fun hΔ hd X a w hr => ?_⟩
  unfold wpList
  rw [if_pos (by simp [Region.wanted, hg])]
  exact .inl (o_wop hΔ hd hr h (fun S' h' => hk S' h' hΔ (fun o' ho' => hd o' (by simp [ho']))) _)
theorem o_yes {j t : Nat} {w : Bool} (hg : o.guard = some (j, w)) (ht : gtmp ops j = some t) (hv : lk e t = some (.bool w)) {K : St → Prop} (h : wop F.P F.Δ F.qt F.gs ⟨e, l, G⟩ o K) (hk : ∀ S', K S' → Tab.Ok F.P F.Δ → (∀ o ∈ os, ∀ t, o.dst = some t → t < T.n) → ∀ X a w, Rdy F T S' X a w → wpList F.P ops (Kof F T k) os a w) : E3 F T k ops (o :: os) e l G := by
  refine ⟨fun hΔ hd X a w hr => ?_⟩
  have hy := yielded_ok hr.rx ht (show St.get ⟨e, l, G⟩ t = _ from hv)
  unfold wpList
  rw [if_pos (by simp [Region.wanted, hg, hy])]
  exact .inl (o_wop hΔ hd hr h (fun S' h' => hk S' h' hΔ (fun o' ho' => hd o' (by simp [ho']))) _)
theorem o_no {t : Nat} (hd0 : o.dst = some t) (hr0 : noRefs t e = true) (hn : ∀ X a w, Rdy F T ⟨e, l, G⟩ X a w → Region.wanted o (yielded ops a.tmps) = false) (hk : E3 F T k ops os ((t, .tup []) :: e) l G) : E3 F T k ops (o :: os) e l G := by
  refine ⟨fun hΔ hd X a w hr => ?_⟩
  unfold wpList
  rw [if_neg (by rw [hn X a w hr]; simp)]
  refine hk.h hΔ (fun o' ho' => hd o' (by simp [ho'])) X _ w ⟨RX.weaken (S := St.put ⟨e, l, G⟩ t (.tup [])) ?_ (cons_le hr0), by rw [size_put]; exact hr.n, by rw [put_defers]; exact hr.d, hr.fs⟩
  have := puto_undef hr.rx o.dst (fun t ht => by rw [hr.n]; exact hd o (by simp) t ht)
  rw [hd0] at this ⊢
  exact this

theorem oW {t : Nat} {v : AV} (hk : E3 F T k ops os ((t, v) :: e) l G) (hg : o.guard = none := by exact rfl)
    (h : wop F.P F.Δ F.qt F.gs ⟨e, l, G⟩ o (fun S => S = St.put ⟨e, l, G⟩ t v) := by first | exact rfl | exact ⟨rfl, rfl⟩ | exact ⟨rfl, rfl, rfl⟩ | exact ⟨_, rfl, rfl⟩ | exact ⟨Nat.le_of_ble_eq_true rfl, rfl⟩ | exact ⟨Nat.le_of_ble_eq_true rfl, rfl, rfl⟩ | exact ⟨trivial, rfl⟩ | exact ⟨rfl, rfl, rfl, rfl, rfl, Nat.le_of_ble_eq_true rfl, rfl⟩ | exact ⟨rfl, rfl, rfl, Nat.le_of_ble_eq_true rfl, rfl⟩ | exact ⟨rfl, Nat.le_of_ble_eq_true rfl, rfl, trivial, rfl⟩ | exact ⟨Nat.ne_of_beq_eq_false rfl, rfl⟩ | exact ⟨by first | omega | assumption, rfl⟩ | exact ⟨rfl, by first | omega | assumption, rfl⟩ | exact ⟨by omega, by omega, by omega, rfl⟩ | exact ⟨by omega, by omega, by omega, by omega, rfl⟩) (hr : noRefs t e = true := by exact rfl) : E3 F T k ops (o :: os) e l G :=
  o_none hg h (fun S' hS hΔ hd X a w hr' => hk.h hΔ hd X a w (hr'.weaken (by rw [hS]; exact cons_le hr)))
theorem oWs {S' : St} (hk : E3 F T k ops os e' l G) (hg : o.guard = none := by exact rfl)
    (h : wop F.P F.Δ F.qt F.gs ⟨e, l, G⟩ o (fun S => S = S') := by first | exact rfl | exact ⟨rfl, rfl⟩ | exact ⟨rfl, rfl, rfl⟩ | exact ⟨_, rfl, rfl⟩ | exact ⟨Nat.le_of_ble_eq_true rfl, rfl⟩ | exact ⟨Nat.le_of_ble_eq_true rfl, rfl, rfl⟩ | exact ⟨trivial, rfl⟩ | exact ⟨rfl, rfl, rfl, rfl, rfl, Nat.le_of_ble_eq_true rfl, rfl⟩ | exact ⟨rfl, rfl, rfl, Nat.le_of_ble_eq_true rfl, rfl⟩ | exact ⟨rfl, Nat.le_of_ble_eq_true rfl, rfl, trivial, rfl⟩ | exact ⟨Nat.ne_of_beq_eq_false rfl, rfl⟩ | exact ⟨by first | omega | assumption, rfl⟩ | exact ⟨rfl, by first | omega | assumption, rfl⟩ | exact ⟨by omega, by omega, by omega, rfl⟩ | exact ⟨by omega, by omega, by omega, by omega, rfl⟩)
    (he : S'.env = e' := by ((repeat (refine nlc (m' := ?_) rfl ?_; rotate_left)); exact nln rfl)) (hl : S'.loc = l := by exact rfl) (hG : S'.G = G := by exact rfl) : E3 F T k ops (o :: os) e l G :=
  o_none hg h (fun S'' hS hΔ hd X a w hr' => hk.h hΔ hd X a w (by rw [← st_of he hl hG, ← hS]; exact hr'))
theorem oWl {S' : St} (hk : E3 F T k ops os e' l' G) (hg : o.guard = none := by exact rfl)
    (h : wop F.P F.Δ F.qt F.gs ⟨e, l, G⟩ o (fun S => S = S') := by first | exact rfl | exact ⟨rfl, rfl⟩ | exact ⟨rfl, rfl, rfl⟩ | exact ⟨_, rfl, rfl⟩ | exact ⟨Nat.le_of_ble_eq_true rfl, rfl⟩ | exact ⟨Nat.le_of_ble_eq_true rfl, rfl, rfl⟩ | exact ⟨trivial, rfl⟩ | exact ⟨rfl, rfl, rfl, rfl, rfl, Nat.le_of_ble_eq_true rfl, rfl⟩ | exact ⟨rfl, rfl, rfl, Nat.le_of_ble_eq_true rfl, rfl⟩ | exact ⟨rfl, Nat.le_of_ble_eq_true rfl, rfl, trivial, rfl⟩ | exact ⟨Nat.ne_of_beq_eq_false rfl, rfl⟩ | exact ⟨by first | omega | assumption, rfl⟩ | exact ⟨rfl, by first | omega | assumption, rfl⟩ | exact ⟨by omega, by omega, by omega, rfl⟩ | exact ⟨by omega, by omega, by omega, by omega, rfl⟩)
    (he : S'.env = e' := by ((repeat (refine nlc (m' := ?_) rfl ?_; rotate_left)); exact nln rfl)) (hl : S'.loc = l' := by ((repeat (refine nlp (x' := ?_) (m' := ?_) rfl ?_ ?_; rotate_left 2; focus ((repeat (first | (refine nlc (p := AV.int _ _) (m' := ?_) rfl ?_; rotate_left) | (refine nlc (p := AV.sl _) (m' := ?_) rfl ?_; rotate_left) | (refine nlc (p := AV.bool _) (m' := ?_) rfl ?_; rotate_left) | (refine nlc (p := AV.own _ _) (m' := ?_) rfl ?_; rotate_left) | (refine nlc (p := AV.str _) (m' := ?_) rfl ?_; rotate_left) | (refine nlc (p := AV.emp) (m' := ?_) rfl ?_; rotate_left) | (refine nlc (p := AV.junk) (m' := ?_) rfl ?_; rotate_left) | (refine nlc (p := AV.nilp) (m' := ?_) rfl ?_; rotate_left) | (refine nlc (p := AV.ptrF _) (m' := ?_) rfl ?_; rotate_left) | (refine nlc (p := AV.fn _ _) (m' := ?_) rfl ?_; rotate_left) | (refine nlc (p := AV.ptr _ _) (m' := ?_) rfl ?_; rotate_left))); exact nln rfl))); exact nln rfl)) (hG : S'.G = G := by exact rfl) : E3 F T k ops (o :: os) e l G :=
  o_none hg h (fun S'' hS hΔ hd X a w hr' => hk.h hΔ hd X a w (by rw [← st_of he hl hG, ← hS]; exact hr'))
def isQ (o : Oper) : Bool := match o.op with
  | .assign _ | .alloc _ | .box .. | .store .. | .makeSlice .. | .range .. | .next .. | .build .. | .buildSlice .. | .load .. | .panic _ => false
  | .call c => match c.callee with
    | .builtin .append => false
    | .value _ => false
    | _ => true
  | _ => true
theorem isQ_wop {P : Program} {Δ : Tab} {qt : Bool} {gs : Nat → Bool} {S : St} {o : Oper} {K : St → Prop} (hq : isQ o = true) (h : qop P Δ S o.op (fun v => K (S.puto o.dst v))) : wop P Δ qt gs S o K := by
  unfold isQ at hq
  unfold wop
  split <;> simp_all
  split <;> simp_all
structure QV (P : Program) (Δ : Tab) (S : St) (op : Op) (v : AV) : Prop where
  h : qop P Δ S op (fun x => x = v)
theorem q_wop {v : AV} {t : Nat} (h : QV F.P F.Δ ⟨e, l, G⟩ o.op v) (hd : o.dst = some t) (hq : isQ o = true) : wop F.P F.Δ F.qt F.gs ⟨e, l, G⟩ o (fun S => S = St.put ⟨e, l, G⟩ t v) :=
  isQ_wop hq (qop_mono (fun x hx => by rw [hd, hx]; rfl) h.h)
theorem oQ {v : AV} {t : Nat} (h : QV F.P F.Δ ⟨e, l, G⟩ o.op v) (hk : E3 F T k ops os ((t, v) :: e) l G) (hd : o.dst = some t := by exact rfl) (hg : o.guard = none := by exact rfl) (hq : isQ o = true := by exact rfl) (hr : noRefs t e = true := by exact rfl) : E3 F T k ops (o :: os) e l G :=
  oW hk hg (q_wop h hd hq) hr

theorem gY {j t u : Nat} {w p : Bool} {v : AV} (hk : E3 F T k ops os ((u, v) :: e) l G) (hg : o.guard = some (j, w) := by exact rfl) (ht : gtmp ops j = some t := by exact rfl) (hv : lk e t = some (.bool p) := by exact rfl) (hp : p = w := by with_reducible exact rfl)
    (h : wop F.P F.Δ F.qt F.gs ⟨e, l, G⟩ o (fun S => S = St.put ⟨e, l, G⟩ u v) := by first | exact rfl | exact ⟨rfl, rfl⟩ | exact ⟨rfl, rfl, rfl⟩ | exact ⟨_, rfl, rfl⟩ | exact ⟨Nat.le_of_ble_eq_true rfl, rfl⟩ | exact ⟨Nat.le_of_ble_eq_true rfl, rfl, rfl⟩ | exact ⟨trivial, rfl⟩ | exact ⟨rfl, rfl, rfl, rfl, rfl, Nat.le_of_ble_eq_true rfl, rfl⟩ | exact ⟨rfl, rfl, rfl, Nat.le_of_ble_eq_true rfl, rfl⟩ | exact ⟨rfl, Nat.le_of_ble_eq_true rfl, rfl, trivial, rfl⟩ | exact ⟨Nat.ne_of_beq_eq_false rfl, rfl⟩ | exact ⟨by first | omega | assumption, rfl⟩ | exact ⟨rfl, by first | omega | assumption, rfl⟩ | exact ⟨by omega, by omega, by omega, rfl⟩ | exact ⟨by omega, by omega, by omega, by omega, rfl⟩) (hr : noRefs u e = true := by exact rfl) : E3 F T k ops (o :: os) e l G :=
  o_yes hg ht (hp ▸ hv) h (fun S' hS hΔ hd X a w hr' => hk.h hΔ hd X a w (hr'.weaken (by rw [hS]; exact cons_le hr)))
theorem gYs {j t : Nat} {w p : Bool} {S' : St} (hk : E3 F T k ops os e' l' G) (hg : o.guard = some (j, w) := by exact rfl) (ht : gtmp ops j = some t := by exact rfl) (hv : lk e t = some (.bool p) := by exact rfl) (hp : p = w := by with_reducible exact rfl)
    (h : wop F.P F.Δ F.qt F.gs ⟨e, l, G⟩ o (fun S => S = S') := by first | exact rfl | exact ⟨rfl, rfl⟩ | exact ⟨rfl, rfl, rfl⟩ | exact ⟨_, rfl, rfl⟩ | exact ⟨Nat.le_of_ble_eq_true rfl, rfl⟩ | exact ⟨Nat.le_of_ble_eq_true rfl, rfl, rfl⟩ | exact ⟨trivial, rfl⟩ | exact ⟨rfl, rfl, rfl, rfl, rfl, Nat.le_of_ble_eq_true rfl, rfl⟩ | exact ⟨rfl, rfl, rfl, Nat.le_of_ble_eq_true rfl, rfl⟩ | exact ⟨rfl, Nat.le_of_ble_eq_true rfl, rfl, trivial, rfl⟩ | exact ⟨Nat.ne_of_beq_eq_false rfl, rfl⟩ | exact ⟨by first | omega | assumption, rfl⟩ | exact ⟨rfl, by first | omega | assumption, rfl⟩ | exact ⟨by omega, by omega, by omega, rfl⟩ | exact ⟨by omega, by omega, by omega, by omega, rfl⟩)
    (he : S'.env = e' := by ((repeat (refine nlc (m' := ?_) rfl ?_; rotate_left)); exact nln rfl)) (hl : S'.loc = l' := by ((repeat (refine nlp (x' := ?_) (m' := ?_) rfl ?_ ?_; rotate_left 2; focus ((repeat (first | (refine nlc (p := AV.int _ _) (m' := ?_) rfl ?_; rotate_left) | (refine nlc (p := AV.sl _) (m' := ?_) rfl ?_; rotate_left) | (refine nlc (p := AV.bool _) (m' := ?_) rfl ?_; rotate_left) | (refine nlc (p := AV.own _ _) (m' := ?_) rfl ?_; rotate_left) | (refine nlc (p := AV.str _) (m' := ?_) rfl ?_; rotate_left) | (refine nlc (p := AV.emp) (m' := ?_) rfl ?_; rotate_left) | (refine nlc (p := AV.junk) (m' := ?_) rfl ?_; rotate_left) | (refine nlc (p := AV.nilp) (m' := ?_) rfl ?_; rotate_left) | (refine nlc (p := AV.ptrF _) (m' := ?_) rfl ?_; rotate_left) | (refine nlc (p := AV.fn _ _) (m' := ?_) rfl ?_; rotate_left) | (refine nlc (p := AV.ptr _ _) (m' := ?_) rfl ?_; rotate_left))); exact nln rfl))); exact nln rfl)) (hG : S'.G = G := by exact rfl) : E3 F T k ops (o :: os) e l G :=
  o_yes hg ht (hp ▸ hv) h (fun S'' hS hΔ hd X a w hr' => hk.h hΔ hd X a w (by rw [← st_of he hl hG, ← hS]; exact hr'))
theorem gYq {j t u : Nat} {w p : Bool} {v : AV} (h : QV F.P F.Δ ⟨e, l, G⟩ o.op v) (hk : E3 F T k ops os ((u, v) :: e) l G) (hd : o.dst = some u := by exact rfl) (hg : o.guard = some (j, w) := by exact rfl) (ht : gtmp ops j = some t := by exact rfl) (hv : lk e t = some (.bool p) := by exact rfl) (hp : p = w := by with_reducible exact rfl) (hq : isQ o = true := by exact rfl) (hr : noRefs u e = true := by exact rfl) : E3 F T k ops (o :: os) e l G :=
  gY hk hg ht hv hp (q_wop h hd hq) hr
theorem gN {j t u : Nat} {p : Bool} (hk : E3 F T k ops os ((u, .tup []) :: e) l G) (hg : o.guard = some (j, true) := by exact rfl) (ht : gtmp ops j = some t := by exact rfl) (hv : lk e t = some (.bool p) := by exact rfl) (hp : p = false := by with_reducible exact rfl) (hd : o.dst = some u := by exact rfl) (hr : noRefs u e = true := by exact rfl) : E3 F T k ops (o :: os) e l G :=
  o_no hd hr (fun X a W h' => by
    have hy := yielded_ok h'.rx ht (show St.get ⟨e, l, G⟩ t = _ from hv)
    subst hp
    simp [Region.wanted, hg, hy]) hk
theorem gNf {j t u : Nat} {p : Bool} (hk : E3 F T k ops os ((u, .tup []) :: e) l G) (hg : o.guard = some (j, false) := by exact rfl) (ht : gtmp ops j = some t := by exact rfl) (hv : lk e t = some (.bool p) := by exact rfl) (hp : p = true := by with_reducible exact rfl) (hd : o.dst = some u := by exact rfl) (hr : noRefs u e = true := by exact rfl) : E3 F T k ops (o :: os) e l G :=
  o_no hd hr (fun X a W h' => by
    have hy := yielded_ok h'.rx ht (show St.get ⟨e, l, G⟩ t = _ from hv)
    subst hp
    simp [Region.wanted, hg, hy]) hk
theorem gT {j t u : Nat} {w : Bool} (hk : E3 F T k ops os ((u, .tup []) :: e) l G) (hg : o.guard = some (j, w) := by exact rfl) (ht : gtmp ops j = some t := by exact rfl) (hv : lk e t = some (.tup []) := by exact rfl) (hd : o.dst = some u := by exact rfl) (hr : noRefs u e = true := by exact rfl) : E3 F T k ops (o :: os) e l G :=
  o_no hd hr (fun X a W h' => by
    have hy := not_yielded h'.rx ht (show St.get ⟨e, l, G⟩ t = _ from hv)
    simp [Region.wanted, hg, hy]) hk
theorem wk3 (h : E3 F T k ops os e' l' G) (he : St.Le ⟨e', l', G⟩ ⟨e, l, G⟩) : E3 F T k ops os e l G :=
  ⟨fun hΔ hd X a w hr => h.h hΔ hd X a w (hr.weaken he)⟩
theorem gS {j t : Nat} {w p : Bool} (h1 : p = true → E3 F T k ops (o :: os) ((t, .bool true) :: e) l G) (h2 : p = false → E3 F T k ops (o :: os) ((t, .bool false) :: e) l G) (hg : o.guard = some (j, w) := by exact rfl) (ht : gtmp ops j = some t := by exact rfl) (hv : lk e t = some (.bool p) := by exact rfl) : E3 F T k ops (o :: os) e l G := by
  cases p
  · exact wk3 (h2 rfl) (consb_le hv)
  · exact wk3 (h1 rfl) (consb_le hv)
theorem gif {j t : Nat} {w p : Bool} {P : Prop} {dP : Decidable P} {α : Type} {X Y : Option α} {r : α} (h : (if P then X else Y) = some r) (h1 : P → X = some r → E3 F T k ops (o :: os) ((t, .bool true) :: e) l G) (h2 : ¬ P → Y = some r → E3 F T k ops (o :: os) ((t, .bool false) :: e) l G)
    (hg : o.guard = some (j, w) := by exact rfl) (ht : gtmp ops j = some t := by exact rfl) (hv : lk e t = some (.bool p) := by exact rfl) (hp : p = decide P := by with_reducible exact rfl) : E3 F T k ops (o :: os) e l G := by
  refine gS (p := p) (fun e => ?_) (fun e => ?_) hg ht hv
  · have c : P := of_decide_eq_true (hp ▸ e)
    rw [if_pos c] at h; exact h1 c h
  · have c : ¬ P := of_decide_eq_false (hp ▸ e)
    rw [if_neg c] at h; exact h2 c h
theorem gfi {j t : Nat} {w p : Bool} {P : Prop} {dP : Decidable P} {α : Type} {X Y : Option α} {r : α} (h : (if P then X else Y) = some r) (h1 : P → X = some r → E3 F T k ops (o :: os) ((t, .bool false) :: e) l G) (h2 : ¬ P → Y = some r → E3 F T k ops (o :: os) ((t, .bool true) :: e) l G)
    (hg : o.guard = some (j, w) := by exact rfl) (ht : gtmp ops j = some t := by exact rfl) (hv : lk e t = some (.bool p) := by exact rfl) (hp : p = !decide P := by with_reducible exact rfl) : E3 F T k ops (o :: os) e l G := by
  refine gS (p := p) (fun e => ?_) (fun e => ?_) hg ht hv
  · have c : ¬ P := fun c => by simp [hp, c] at e
    rw [if_neg c] at h; exact h2 c h
  · have c : P := Classical.byContradiction fun c => by simp [hp, c] at e
    rw [if_pos c] at h; exact h1 c h
theorem gifs {j t : Nat} {w p : Bool} {P : Prop} {dP : Decidable P} {α : Type} {X Y : Option α} {r : α} (h : (if P then X else Y) = some r) (h1 : P → X = some r → E3 F T k ops (o :: os) ((t, .bool true) :: e) l G) (h2 : ¬ P → Y = some r → E3 F T k ops (o :: os) ((t, .bool false) :: e) l G)
    (hg : o.guard = some (j, w) := by exact rfl) (ht : gtmp ops j = some t := by exact rfl) (hv : lk e t = some (.bool p) := by exact rfl) (hp : p = decide P := by first | exact rfl | exact dtt _ | (simp <;> fail)) : E3 F T k ops (o :: os) e l G := gif h h1 h2 hg ht hv hp
theorem gfis {j t : Nat} {w p : Bool} {P : Prop} {dP : Decidable P} {α : Type} {X Y : Option α} {r : α} (h : (if P then X else Y) = some r) (h1 : P → X = some r → E3 F T k ops (o :: os) ((t, .bool false) :: e) l G) (h2 : ¬ P → Y = some r → E3 F T k ops (o :: os) ((t, .bool true) :: e) l G)
    (hg : o.guard = some (j, w) := by exact rfl) (ht : gtmp ops j = some t := by exact rfl) (hv : lk e t = some (.bool p) := by exact rfl) (hp : p = !decide P := by first | exact rfl | exact ntt _ | (simp <;> fail)) : E3 F T k ops (o :: os) e l G := gfi h h1 h2 hg ht hv hp
theorem c_dt {c : Operand} {a b : Code} {p : Bool} (h1 : E1 F T k a e l G) (hv : St.val ⟨e, l, G⟩ c = some (.bool p) := by exact rfl) (hp : p = true := by first | assumption | exact eq_false_of_ne_true (by assumption) | (simp only [decide_eq_true_eq, decide_eq_false_iff_not, Bool.not_eq_true', Bool.not_eq_false']; omega) | (simp [*] <;> fail)) : E1 F T k (.cond c a b) e l G :=
  c_cond (fun _ => h1) (fun h => by rw [hp] at h; cases h) hv
theorem c_df {c : Operand} {a b : Code} {p : Bool} (h1 : E1 F T k b e l G) (hv : St.val ⟨e, l, G⟩ c = some (.bool p) := by exact rfl) (hp : p = false := by first | assumption | exact eq_false_of_ne_true (by assumption) | (simp only [decide_eq_true_eq, decide_eq_false_iff_not, Bool.not_eq_true', Bool.not_eq_false']; omega) | (simp [*] <;> fail)) : E1 F T k (.cond c a b) e l G :=
  c_cond (fun h => by rw [hp] at h; cases h) (fun _ => h1) hv
theorem g_lit {j t : Nat} {w p : Bool} (h1 : False) (hg : o.guard = some (j, w) := by exact rfl) (ht : gtmp ops j = some t := by exact rfl) (hv : lk e t = some (.bool p) := by exact rfl) (hp : p = true ∨ p = false := by first | exact .inl (by with_reducible exact rfl) | exact .inr (by with_reducible exact rfl)) : E3 F T k ops (o :: os) e l G := h1.elim
theorem g_dt {j t : Nat} {w p : Bool} (h1 : E3 F T k ops (o :: os) ((t, .bool true) :: e) l G) (hg : o.guard = some (j, w) := by exact rfl) (ht : gtmp ops j = some t := by exact rfl) (hv : lk e t = some (.bool p) := by exact rfl) (hp : p = true := by first | assumption | exact eq_false_of_ne_true (by assumption) | (simp only [decide_eq_true_eq, decide_eq_false_iff_not, Bool.not_eq_true', Bool.not_eq_false']; omega) | (simp [*] <;> fail)) : E3 F T k ops (o :: os) e l G :=
  gS (fun _ => h1) (fun h => by rw [hp] at h; cases h) hg ht hv
theorem g_df {j t : Nat} {w p : Bool} (h1 : E3 F T k ops (o :: os) ((t, .bool false) :: e) l G) (hg : o.guard = some (j, w) := by exact rfl) (ht : gtmp ops j = some t := by exact rfl) (hv : lk e t = some (.bool p) := by exact rfl) (hp : p = false := by first | assumption | exact eq_false_of_ne_true (by assumption) | (simp only [decide_eq_true_eq, decide_eq_false_iff_not, Bool.not_eq_true', Bool.not_eq_false']; omega) | (simp [*] <;> fail)) : E3 F T k ops (o :: os) e l G :=
  gS (fun h => by rw [hp] at h; cases h) (fun _ => h1) hg ht hv

open Enc
variable {P : Program} {Δ : Tab} {S : St}
theorem vE {α : Type} {iE : Enc α} {t sz by_ : Nat} {z : List AV} {el : Nat} {d : TD} {x i : Operand} {m : List α} {kd : IntKind} {n : Int} (hx : S.val x = some (.sl (m.map enc)) := by exact rfl) (hi : S.val i = some (.int kd n) := by exact rfl)
    (ht : lk Δ t = some ⟨.slice el, sz, by_, z⟩ := by exact rfl) (hd : lk Δ el = some d := by exact rfl) (hw : w α = d.size := by exact rfl) (h0 : 0 ≤ n := by omega) (h1 : n < (m.length : Int) := by first | omega | (simp only [List.length_set] at *; omega)) :
    QV P Δ S (.indexAddr t x i) (.ptrF (enc (rd m n))) := by
  refine ⟨?_⟩
  unfold qop qiaddr
  simp only [ht, hi, hd, hx]
  exact ⟨h0, _, at_enc h0 h1, (Enc.hw _).trans hw, rfl⟩
theorem vEv {α : Type} {iE : Enc α} {t sz by_ c : Nat} {z : List AV} {el : Nat} {d : TD} {x i : Operand} {q : Pl} {m : List α} {kd : IntKind} {n : Int} (hx : S.val x = some (.view q) := by exact rfl) (hq : S.ownAt q = some (c, m.map enc) := by exact rfl) (hi : S.val i = some (.int kd n) := by exact rfl)
    (ht : lk Δ t = some ⟨.slice el, sz, by_, z⟩ := by exact rfl) (hd : lk Δ el = some d := by exact rfl) (hw : c = d.size := by exact rfl) (h0 : 0 ≤ n := by omega) (h1 : n < (m.length : Int) := by first | omega | (simp only [List.length_set] at *; omega)) :
    QV P Δ S (.indexAddr t x i) (.eptr q c n.toNat 0) := by
  refine ⟨?_⟩
  unfold qop qiaddr
  simp only [ht, hi, hd, hx, hq]
  exact ⟨h0, by simp; omega, hw, trivial⟩
theorem vEo {α : Type} {iE : Enc α} {t sz by_ c u : Nat} {z : List AV} {el : Nat} {d : TD} {i : Operand} {m : List α} {kd : IntKind} {n : Int} (hx : S.val (.tmp u) = some (.own c (m.map enc)) := by exact rfl) (hi : S.val i = some (.int kd n) := by exact rfl)
    (ht : lk Δ t = some ⟨.slice el, sz, by_, z⟩ := by exact rfl) (hd : lk Δ el = some d := by exact rfl) (hw : c = d.size := by exact rfl) (h0 : 0 ≤ n := by omega) (h1 : n < (m.length : Int) := by first | omega | (simp only [List.length_set] at *; omega)) :
    QV P Δ S (.indexAddr t (.tmp u) i) (.eptr (.t u) c n.toNat 0) := by
  refine ⟨?_⟩
  unfold qop qiaddr
  simp only [ht, hi, hd, hx]
  exact ⟨h0, by simp; omega, hw, trivial⟩
theorem vLe {α : Type} {iE : Enc α} {t c off : Nat} {d : TD} {x : Operand} {q : Pl} {m : List α} {n : Int} {v : AV} (hx : S.val x = some (.eptr q c n.toNat off) := by exact rfl) (hq : S.ownAt q = some (c, m.map enc) := by exact rfl)
    (hd : lk Δ t = some d := by exact rfl) (hv : qcells d ((enc (rd m n)).drop off) (fun y => y = v) := by first | exact rfl | exact ⟨Nat.le_of_ble_eq_true rfl, rfl⟩) (h0 : 0 ≤ n := by omega) (h1 : n < (m.length : Int) := by first | omega | (simp only [List.length_set] at *; omega)) : QV P Δ S (.load t x) v := by
  refine ⟨?_⟩
  unfold qop qload
  simp only [hd, hx, hq]
  exact ⟨trivial, _, at_enc h0 h1, hv⟩
theorem vL {α : Type} {iE : Enc α} {x : Operand} {c : Call} {m : List α} {t : Nat} (hc : c.callee = .builtin .len := by exact rfl) (ha : c.args.toList = [x] := by exact rfl) (hb : c.argTypes.toList = [t] := by exact rfl) (hx : S.val x = some (.sl (m.map enc)) := by exact rfl)
    (ht : (match lk Δ t with | some ⟨.slice _, _, _, _⟩ => true | _ => false) = true := by exact rfl) : QV P Δ S (.call c) (.int .i64 (m.length : Int)) := by
  refine ⟨?_⟩
  simp only [qop, hc, ha, hb]
  unfold qlen
  split at ht
  · rename_i h; simp [h, hx, St.slOf]
  · cases ht
theorem vLv {α : Type} {iE : Enc α} {x : Operand} {c : Call} {q : Pl} {cw : Nat} {m : List α} {t : Nat} (hc : c.callee = .builtin .len := by exact rfl) (ha : c.args.toList = [x] := by exact rfl) (hb : c.argTypes.toList = [t] := by exact rfl) (hx : S.val x = some (.view q) := by exact rfl) (hq : S.ownAt q = some (cw, m.map enc) := by exact rfl)
    (ht : (match lk Δ t with | some ⟨.slice _, _, _, _⟩ => true | _ => false) = true := by exact rfl) : QV P Δ S (.call c) (.int .i64 (m.length : Int)) := by
  refine ⟨?_⟩
  simp only [qop, hc, ha, hb]
  unfold qlen
  split at ht
  · rename_i h; simp [h, hx, St.slOf, hq]
  · cases ht
theorem vmax {x y : Operand} {c : Call} {kd kd' : IntKind} {a b : Int} (hc : c.callee = .builtin .max := by exact rfl) (ha : c.args.toList = [x, y] := by exact rfl) (hx : S.val x = some (.int kd a) := by exact rfl) (hy : S.val y = some (.int kd' b) := by exact rfl) : QV P Δ S (.call c) (.int kd (max a b)) := by
  refine ⟨?_⟩
  simp only [qop, hc, ha, List.map_cons, List.map_nil, hx, hy, qmm, cond_true]
theorem vpt {c x y : Operand} {v : AV} {p : Bool} (hc : S.val c = some (.bool p) := by exact rfl) (hp : p = true := by with_reducible exact rfl) (hx : S.val x = some v := by exact rfl) (hv : v.leafNoRef = true := by exact rfl) : QV P Δ S (.pick c x y) v := by
  subst hp
  have hm : qmove S x (fun z => z = v) := by
    unfold qmove
    rw [hx]
    cases v <;> first | (cases x <;> exact ⟨rfl, rfl⟩) | cases hv
  refine ⟨?_⟩
  unfold qop
  simp only [hc]
  rw [hx]
  split
  · rename_i a b h1 h2
    cases h1; rfl
  · exact ⟨fun _ => hm, fun h => by cases h⟩
theorem vpf {c x y : Operand} {v : AV} {p : Bool} (hc : S.val c = some (.bool p) := by exact rfl) (hp : p = false := by with_reducible exact rfl) (hx : S.val y = some v := by exact rfl) (hv : v.leafNoRef = true := by exact rfl) : QV P Δ S (.pick c x y) v := by
  subst hp
  have hm : qmove S y (fun z => z = v) := by
    unfold qmove
    rw [hx]
    cases v <;> first | (cases y <;> exact ⟨rfl, rfl⟩) | cases hv
  refine ⟨?_⟩
  unfold qop
  simp only [hc]
  rw [hx]
  split
  · rename_i a b h1 h2
    cases h2; rfl
  · first | exact hm | exact fun _ => hm | simpa using hm
def bt (s : ByteArray) (i : Int) : Int := if h : i.toNat < s.size then ((s[i.toNat]'h).toNat : Int) else 0
theorem vB {t sz by_ : Nat} {z : List AV} {x i : Operand} {s : ByteArray} {kd : IntKind} {n : Int} (hx : S.val x = some (.str s) := by exact rfl) (hi : S.val i = some (.int kd n) := by exact rfl)
    (ht : lk Δ t = some ⟨.str, sz, by_, z⟩ := by exact rfl) (h0 : 0 ≤ n := by omega) (h1 : n < (s.size : Int) := by omega) : QV P Δ S (.index t x i) (.int .u8 (bt s n)) := by
  refine ⟨?_⟩
  unfold qop qindex
  simp only [ht, hi, hx]
  have h : n.toNat < s.size := by omega
  refine ⟨h0, s[n.toNat], ?_, by simp [bt, h]⟩
  simp [h]
theorem vSl {α : Type} {iE : Enc α} {t sz by_ el : Nat} {z : List AV} {d : TD} {x lo : Operand} {m : List α} {k1 : IntKind} {a : Int} (hx : S.val x = some (.sl (m.map enc)) := by exact rfl) (h1 : S.val lo = some (.int k1 a) := by exact rfl)
    (ht : lk Δ t = some ⟨.slice el, sz, by_, z⟩ := by exact rfl) (hd : lk Δ el = some d := by exact rfl) (hw : w α = d.size := by exact rfl) (c0 : 0 ≤ a := by omega) (c1 : a ≤ (m.length : Int) := by omega) :
    QV P Δ S (.slice t x (some lo) none none) (.sl ((m.drop a.toNat).map enc)) := by
  refine ⟨?_⟩
  unfold qop qslice
  simp only [ht, hd, hx, bound, h1]
  refine ⟨c0, Nat.le_refl _, by simp; omega, ?_, by simp [List.take_of_length_le]⟩
  intro cs hcs
  obtain ⟨y, _, rfl⟩ := List.mem_map.1 hcs
  rw [Enc.hw, hw]
theorem vSh {α : Type} {iE : Enc α} {t sz by_ el : Nat} {z : List AV} {d : TD} {x hi : Operand} {m : List α} {k2 : IntKind} {b : Int} (hx : S.val x = some (.sl (m.map enc)) := by exact rfl) (h2 : S.val hi = some (.int k2 b) := by exact rfl)
    (ht : lk Δ t = some ⟨.slice el, sz, by_, z⟩ := by exact rfl) (hd : lk Δ el = some d := by exact rfl) (hw : w α = d.size := by exact rfl) (c0 : 0 ≤ b := by omega) (c1 : b ≤ (m.length : Int) := by omega) :
    QV P Δ S (.slice t x none (some hi) none) (.sl ((m.take b.toNat).map enc)) := by
  refine ⟨?_⟩
  unfold qop qslice
  simp only [ht, hd, hx, bound, h2]
  refine ⟨c0, by simp; omega, by omega, ?_, by simp⟩
  intro cs hcs
  obtain ⟨y, _, rfl⟩ := List.mem_map.1 hcs
  rw [Enc.hw, hw]
theorem oLe_w {t tp : Nat} {x : Operand} {v : AV} {q : Pl} {c i off : Nat} (h : QV F.P F.Δ ⟨e, l, G⟩ o.op v) (ho : o.op = .load t x := by exact rfl) (hx : St.val ⟨e, l, G⟩ x = some (.eptr q c i off) := by exact rfl) (hd : o.dst = some tp := by exact rfl) : wop F.P F.Δ F.qt F.gs ⟨e, l, G⟩ o (fun S => S = St.put ⟨e, l, G⟩ tp (v)) := by
  unfold wop
  rw [ho]
  have hf : St.frzLoad ⟨e, l, G⟩ F.Δ F.qt t x = ⟨e, l, G⟩ := by
    unfold St.frzLoad
    rw [hx]
    split <;> simp_all
  have h' := h.h
  rw [ho] at h'
  simp only [hf]
  exact qop_mono (fun y hy => by rw [hy, hd]; rfl) h'

theorem oLe {t tp : Nat} {x : Operand} {v : AV} {q : Pl} {c i off : Nat} (h : QV F.P F.Δ ⟨e, l, G⟩ o.op v) (hk : E3 F T k ops os ((tp, v) :: e) l G) (ho : o.op = .load t x := by exact rfl) (hx : St.val ⟨e, l, G⟩ x = some (.eptr q c i off) := by exact rfl) (hg : o.guard = none := by exact rfl) (hd : o.dst = some tp := by exact rfl) (hr : noRefs tp e = true := by exact rfl) : E3 F T k ops (o :: os) e l G :=
  oW hk hg (oLe_w h ho hx hd) hr
theorem gLe {jj gg : Nat} {ww pp : Bool} {t tp : Nat} {x : Operand} {v : AV} {q : Pl} {c i off : Nat} (h : QV F.P F.Δ ⟨e, l, G⟩ o.op v) (hk : E3 F T k ops os ((tp, v) :: e) l G) (ho : o.op = .load t x := by exact rfl) (hx : St.val ⟨e, l, G⟩ x = some (.eptr q c i off) := by exact rfl) (hg : o.guard = some (jj, ww) := by exact rfl) (htt : gtmp ops jj = some gg := by exact rfl) (hvv : lk e gg = some (.bool pp) := by exact rfl) (hpp : pp = ww := by with_reducible exact rfl) (hd : o.dst = some tp := by exact rfl) (hr : noRefs tp e = true := by exact rfl) : E3 F T k ops (o :: os) e l G :=
  gY hk hg htt hvv hpp (oLe_w h ho hx hd) hr
theorem fz (t : Nat) {q : Pl} (hk : E3 F T k ops os e' l G) (hv : lk e t = some (.view q) := by exact rfl) (hq : St.frzOk ⟨e, l, G⟩ F.qt (.tmp t) = true := by exact rfl) (he : (St.frz ⟨e, l, G⟩ (.tmp t)).env = e' := by ((repeat (refine nlc (m' := ?_) rfl ?_; rotate_left)); exact nln rfl)) (hl : (St.frz ⟨e, l, G⟩ (.tmp t)).loc = l := by exact rfl) (hG : (St.frz ⟨e, l, G⟩ (.tmp t)).G = G := by exact rfl) : E3 F T k ops os e l G := by
  refine ⟨fun hΔ hd X a w hr => ?_⟩
  obtain ⟨X', h1, h2⟩ := hr.rx.frz (x := .tmp t) hq
  rw [st_of he hl hG] at h1
  exact hk.h hΔ hd X' a w ⟨h1, hr.n, hr.d, hr.fs.trans h2⟩

theorem frz_deep {x : Operand} {v : AV} (hv : S.val x = some v) (hd : v.isDeep = true) : S.frz x = S ∧ ∀ qt, S.frzOk qt x = true := by
  cases x with
  | tmp t =>
    have hg : S.get t = some v := hv
    refine ⟨?_, fun qt => ?_⟩
    · simp only [St.frz, hg]
      cases v <;> first | rfl | cases hd
    · simp only [St.frzOk, hg]
      cases v <;> first | rfl | cases hd
  | const c => exact ⟨rfl, fun _ => rfl⟩
  | global g => exact ⟨rfl, fun _ => rfl⟩
  | func f => exact ⟨rfl, fun _ => rfl⟩
theorem frzAll_deep : ∀ {xs : List Operand}, S.deepArgs xs = true → S.frzAll xs = S ∧ ∀ qt, S.frzAllOk qt xs = true
  | [], _ => ⟨rfl, fun _ => rfl⟩
  | x :: xs, h => by
    simp only [St.deepArgs, Bool.and_eq_true] at h
    obtain ⟨h1, h2⟩ := h
    split at h1
    · rename_i v hv
      obtain ⟨e1, e2⟩ := frz_deep hv h1
      obtain ⟨e3, e4⟩ := frzAll_deep h2
      exact ⟨by simp only [St.frzAll, e1, e3], fun qt => by simp only [St.frzAllOk, e1, e2, e4, Bool.and_self]⟩
    · cases h1
theorem frz1_deep {q : Pl} (h : S.ownAt q = none) : frz1 S q = S := by simp only [frz1, h]
theorem frzCells_deep {pl : Nat → Pl} {off : Nat} : ∀ {n : Nat}, (∀ j, j < n → S.ownAt (pl (off + j)) = none) → S.frzCells pl off n = S
  | 0, _ => rfl
  | n + 1, h => by
    simp only [St.frzCells]
    rw [frzCells_deep (fun j hj => h j (by omega))]
    exact frz1_deep (h n (by omega))
theorem own_deep {k off n : Nat} {cs : List AV} (hc : lk S.loc k = some cs) (hall : ((cs.drop off).take n).all AV.isDeep = true) : ∀ j, j < n → S.ownAt (.l k (off + j)) = none := by
  intro j hj
  rw [ownAt_l, hc]
  simp only [Option.bind_some]
  cases hx : cs[off + j]? with
  | none => rfl
  | some x =>
    have : x ∈ (cs.drop off).take n := by
      refine List.mem_of_getElem? (i := j) ?_
      rw [List.getElem?_take, if_pos hj, List.getElem?_drop]; exact hx
    have hd := List.all_eq_true.1 hall x this
    cases x <;> first | rfl | cases hd
theorem oLd_w {t k0 off : Nat} {x : Operand} {d : TD} {cs cs' : List AV} {tp : Nat} (ho : o.op = .load t x := by exact rfl) (hx : St.val ⟨e, l, G⟩ x = some (.lptr k0 off) := by exact rfl) (ht : lk F.Δ t = some d := by exact rfl) (hag : d.agg = true := by exact rfl) (hc : lk l k0 = some cs := by exact rfl)
    (hcs : (cs.drop off).take d.size = cs' := by ((repeat (refine nlc (m' := ?_) rfl ?_; rotate_left)); exact nln rfl)) (hall : cs'.all AV.isDeep = true := by exact rfl) (hlen : d.size ≤ (cs.drop off).length := by exact Nat.le_of_ble_eq_true rfl)
    (hd : o.dst = some tp := by exact rfl) : wop F.P F.Δ F.qt F.gs ⟨e, l, G⟩ o (fun S => S = St.put ⟨e, l, G⟩ tp (.agg cs')) := by
  unfold wop
  rw [ho]
  have hf : St.frzLoad ⟨e, l, G⟩ F.Δ F.qt t x = ⟨e, l, G⟩ := by
    unfold St.frzLoad
    simp only [ht, hx, hag, cond_true]
    exact frzCells_deep (own_deep (by exact hc) (by rw [hcs]; exact hall))
  simp only [hf, qop]
  unfold qload
  simp only [ht, hx, hc]
  unfold qobj
  simp only [hag, cond_true, hcs]
  exact ⟨hlen, hall, by rw [hd]; rfl⟩
theorem oLd {t k0 off : Nat} {x : Operand} {d : TD} {cs cs' : List AV} {tp : Nat} (hk : E3 F T k ops os ((tp, .agg cs') :: e) l G) (ho : o.op = .load t x := by exact rfl) (hx : St.val ⟨e, l, G⟩ x = some (.lptr k0 off) := by exact rfl) (ht : lk F.Δ t = some d := by exact rfl) (hag : d.agg = true := by exact rfl) (hc : lk l k0 = some cs := by exact rfl)
    (hcs : (cs.drop off).take d.size = cs' := by ((repeat (refine nlc (m' := ?_) rfl ?_; rotate_left)); exact nln rfl)) (hall : cs'.all AV.isDeep = true := by exact rfl) (hlen : d.size ≤ (cs.drop off).length := by exact Nat.le_of_ble_eq_true rfl)
    (hg : o.guard = none := by exact rfl) (hd : o.dst = some tp := by exact rfl) (hr : noRefs tp e = true := by exact rfl) : E3 F T k ops (o :: os) e l G :=
  oW hk hg (oLd_w ho hx ht hag hc hcs hall hlen hd) hr
theorem oB_w {t : Nat} {ps : Array (Nat × Operand)} {cs cs' : List AV} {tp : Nat} (ho : o.op = .build t ps := by exact rfl) (hdp : St.deepArgs ⟨e, l, G⟩ (ps.toList.map (·.2)) = true := by exact rfl)
    (h : qop F.P F.Δ ⟨e, l, G⟩ (.build t ps) (fun v => v = .agg cs) := by first | exact ⟨rfl, rfl⟩ | exact rfl) (hcs : cs = cs' := by ((repeat (refine nlc (m' := ?_) rfl ?_; rotate_left)); exact nln rfl))
    (hd : o.dst = some tp := by exact rfl) : wop F.P F.Δ F.qt F.gs ⟨e, l, G⟩ o (fun S => S = St.put ⟨e, l, G⟩ tp (.agg cs')) := by
  unfold wop
  rw [ho]
  obtain ⟨e1, e2⟩ := frzAll_deep hdp
  simp only [e1, e2, true_and]
  exact qop_mono (fun v hv => by rw [hv, hcs, hd]; rfl) h
theorem oB {t : Nat} {ps : Array (Nat × Operand)} {cs cs' : List AV} {tp : Nat} (hk : E3 F T k ops os ((tp, .agg cs') :: e) l G) (ho : o.op = .build t ps := by exact rfl) (hdp : St.deepArgs ⟨e, l, G⟩ (ps.toList.map (·.2)) = true := by exact rfl)
    (h : qop F.P F.Δ ⟨e, l, G⟩ (.build t ps) (fun v => v = .agg cs) := by first | exact ⟨rfl, rfl⟩ | exact rfl) (hcs : cs = cs' := by ((repeat (refine nlc (m' := ?_) rfl ?_; rotate_left)); exact nln rfl))
    (hg : o.guard = none := by exact rfl) (hd : o.dst = some tp := by exact rfl) (hr : noRefs tp e = true := by exact rfl) : E3 F T k ops (o :: os) e l G :=
  oW hk hg (oB_w ho hdp h hcs hd) hr
end Go.AL
end
section
set_option linter.unusedVariables false
set_option linter.unusedSimpArgs false
namespace Go.AL
open Enc
variable {F : Cfg} {T : Task F} {k : List Frm} {K Q : St → Prop} {e e' : Env} {l l' : Loc} {G : Objs} {ops : Array Oper} {o : Oper} {os : List Oper} {n : Nat}

theorem dQ {v : AV} {t : Nat} (h : QV F.P F.Δ ⟨e, l, G⟩ o.op v) (hk : E4 F K ops os e' l G) (hd : o.dst = some t := by exact rfl) (hg : o.guard = none := by exact rfl) (hc : v.copyable = true := by exact rfl)
    (he : up e t v = e' := by ((repeat (refine nlc (m' := ?_) rfl ?_; rotate_left)); exact nln rfl)) : E4 F K ops (o :: os) e l G :=
  ⟨by simp only [evQ, hg, hd]; exact qop_mono (fun x hx => by subst hx; subst he; exact ⟨hc, hk.h⟩) h.h⟩
theorem dW {v : AV} {t : Nat} (hk : E4 F K ops os e' l G) (hg : o.guard = none := by exact rfl)
    (h : qop F.P F.Δ ⟨e, l, G⟩ o.op (fun x => x = v) := by first | exact rfl | exact ⟨rfl, rfl⟩ | exact ⟨rfl, rfl, rfl⟩ | exact ⟨_, rfl, rfl⟩ | exact ⟨Nat.le_of_ble_eq_true rfl, rfl⟩ | exact ⟨Nat.le_of_ble_eq_true rfl, rfl, rfl⟩ | exact ⟨trivial, rfl⟩ | exact ⟨rfl, rfl, rfl, rfl, rfl, Nat.le_of_ble_eq_true rfl, rfl⟩ | exact ⟨rfl, rfl, rfl, Nat.le_of_ble_eq_true rfl, rfl⟩ | exact ⟨rfl, Nat.le_of_ble_eq_true rfl, rfl, trivial, rfl⟩ | exact ⟨Nat.ne_of_beq_eq_false rfl, rfl⟩ | exact ⟨by first | omega | assumption, rfl⟩ | exact ⟨rfl, by first | omega | assumption, rfl⟩ | exact ⟨by omega, by omega, by omega, rfl⟩ | exact ⟨by omega, by omega, by omega, by omega, rfl⟩)
    (hd : o.dst = some t := by exact rfl) (hc : v.copyable = true := by exact rfl)
    (he : up e t v = e' := by ((repeat (refine nlc (m' := ?_) rfl ?_; rotate_left)); exact nln rfl)) : E4 F K ops (o :: os) e l G := dQ ⟨h⟩ hk hd hg hc he
theorem evqg {K : St → Prop} {S : St} {j t u : Nat} {w p : Bool} (hd : o.dst = some u) (hg : o.guard = some (j, w)) (ht : gtmp ops j = some t) (hv : S.get t = some (.bool p)) (h1 : p = w → qop F.P F.Δ (S.setb t w) o.op (fun v => v.copyable = true ∧ evQ F.P F.Δ ops K os ((S.setb t w).add u v)))
    (h2 : p = (!w) → evQ F.P F.Δ ops K os ((S.setb t (!w)).add u (.tup []))) : evQ F.P F.Δ ops K (o :: os) S := by
  simp only [evQ, hd, hg, ht, hv]
  exact ⟨h1, h2⟩
theorem dYq {j t u : Nat} {w p : Bool} {v : AV} (h : QV F.P F.Δ ⟨e, l, G⟩ o.op v) (hk : E4 F K ops os e' l G) (hd : o.dst = some u := by exact rfl) (hg : o.guard = some (j, w) := by exact rfl) (ht : gtmp ops j = some t := by exact rfl) (hv : lk e t = some (.bool p) := by exact rfl) (hp : p = w := by with_reducible exact rfl) (hc : v.copyable = true := by exact rfl)
    (he : up e u v = e' := by ((repeat (refine nlc (m' := ?_) rfl ?_; rotate_left)); exact nln rfl)) : E4 F K ops (o :: os) e l G := by
  have hv := hp ▸ hv
  refine ⟨evqg hd hg ht hv (fun _ => ?_) (fun h => by cases w <;> cases h)⟩
  simp only [St.setb, up_same hv]
  exact qop_mono (fun x hx => by subst hx; subst he; exact ⟨hc, hk.h⟩) h.h
theorem dY {j t u : Nat} {w p : Bool} {v : AV} (hk : E4 F K ops os e' l G) (hg : o.guard = some (j, w) := by exact rfl) (ht : gtmp ops j = some t := by exact rfl) (hv : lk e t = some (.bool p) := by exact rfl) (hp : p = w := by with_reducible exact rfl)
    (h : qop F.P F.Δ ⟨e, l, G⟩ o.op (fun x => x = v) := by first | exact rfl | exact ⟨rfl, rfl⟩ | exact ⟨rfl, rfl, rfl⟩ | exact ⟨_, rfl, rfl⟩ | exact ⟨Nat.le_of_ble_eq_true rfl, rfl⟩ | exact ⟨Nat.le_of_ble_eq_true rfl, rfl, rfl⟩ | exact ⟨trivial, rfl⟩ | exact ⟨rfl, rfl, rfl, rfl, rfl, Nat.le_of_ble_eq_true rfl, rfl⟩ | exact ⟨rfl, rfl, rfl, Nat.le_of_ble_eq_true rfl, rfl⟩ | exact ⟨rfl, Nat.le_of_ble_eq_true rfl, rfl, trivial, rfl⟩ | exact ⟨Nat.ne_of_beq_eq_false rfl, rfl⟩ | exact ⟨by first | omega | assumption, rfl⟩ | exact ⟨rfl, by first | omega | assumption, rfl⟩ | exact ⟨by omega, by omega, by omega, rfl⟩ | exact ⟨by omega, by omega, by omega, by omega, rfl⟩)
    (hd : o.dst = some u := by exact rfl) (hc : v.copyable = true := by exact rfl)
    (he : up e u v = e' := by ((repeat (refine nlc (m' := ?_) rfl ?_; rotate_left)); exact nln rfl)) : E4 F K ops (o :: os) e l G := dYq ⟨h⟩ hk hd hg ht hv hp hc he
theorem dN {j t u : Nat} {p : Bool} (hk : E4 F K ops os e' l G) (hg : o.guard = some (j, true) := by exact rfl) (ht : gtmp ops j = some t := by exact rfl) (hv : lk e t = some (.bool p) := by exact rfl) (hw : p = false := by with_reducible exact rfl) (hd : o.dst = some u := by exact rfl)
    (he : up e u (.tup []) = e' := by ((repeat (refine nlc (m' := ?_) rfl ?_; rotate_left)); exact nln rfl)) : E4 F K ops (o :: os) e l G := by
  subst hw
  refine ⟨evqg hd hg ht hv (fun h => by cases h) (fun _ => ?_)⟩
  show evQ F.P F.Δ ops _ os ⟨up (up e t (.bool false)) u (.tup []), l, G⟩
  rw [up_same hv]
  subst he
  exact hk.h
theorem dNf {j t u : Nat} {p : Bool} (hk : E4 F K ops os e' l G) (hg : o.guard = some (j, false) := by exact rfl) (ht : gtmp ops j = some t := by exact rfl) (hv : lk e t = some (.bool p) := by exact rfl) (hw : p = true := by with_reducible exact rfl) (hd : o.dst = some u := by exact rfl)
    (he : up e u (.tup []) = e' := by ((repeat (refine nlc (m' := ?_) rfl ?_; rotate_left)); exact nln rfl)) : E4 F K ops (o :: os) e l G := by
  subst hw
  refine ⟨evqg hd hg ht hv (fun h => by cases h) (fun _ => ?_)⟩
  show evQ F.P F.Δ ops _ os ⟨up (up e t (.bool true)) u (.tup []), l, G⟩
  rw [up_same hv]
  subst he
  exact hk.h
theorem dT {j t u : Nat} {w : Bool} (hk : E4 F K ops os e' l G) (hg : o.guard = some (j, w) := by exact rfl) (ht : gtmp ops j = some t := by exact rfl) (hv : lk e t = some (.tup []) := by exact rfl) (hd : o.dst = some u := by exact rfl)
    (he : up e u (.tup []) = e' := by ((repeat (refine nlc (m' := ?_) rfl ?_; rotate_left)); exact nln rfl)) : E4 F K ops (o :: os) e l G := by
  refine ⟨?_⟩
  simp only [evQ, hg, ht, St.get, hv, hd]
  subst he
  exact hk.h
theorem dS {j t : Nat} {w p : Bool} {e1 e2 : Env} (h1 : p = true → E4 F K ops (o :: os) e1 l G) (h2 : p = false → E4 F K ops (o :: os) e2 l G) (hg : o.guard = some (j, w) := by exact rfl) (ht : gtmp ops j = some t := by exact rfl) (hv : lk e t = some (.bool p) := by exact rfl)
    (he1 : up e t (.bool true) = e1 := by ((repeat (refine nlc (m' := ?_) rfl ?_; rotate_left)); exact nln rfl)) (he2 : up e t (.bool false) = e2 := by ((repeat (refine nlc (m' := ?_) rfl ?_; rotate_left)); exact nln rfl)) : E4 F K ops (o :: os) e l G := by
  cases p
  · rw [up_same hv] at he2; subst he2; exact h2 rfl
  · rw [up_same hv] at he1; subst he1; exact h1 rfl
theorem dif_ {j t : Nat} {w p : Bool} {e1 e2 : Env} {P : Prop} {dP : Decidable P} {α : Type} {X Y : Option α} {r : α} (h : (if P then X else Y) = some r) (h1 : P → X = some r → E4 F K ops (o :: os) e1 l G) (h2 : ¬ P → Y = some r → E4 F K ops (o :: os) e2 l G)
    (hg : o.guard = some (j, w) := by exact rfl) (ht : gtmp ops j = some t := by exact rfl) (hv : lk e t = some (.bool p) := by exact rfl) (hp : p = decide P := by with_reducible exact rfl)
    (he1 : up e t (.bool true) = e1 := by ((repeat (refine nlc (m' := ?_) rfl ?_; rotate_left)); exact nln rfl)) (he2 : up e t (.bool false) = e2 := by ((repeat (refine nlc (m' := ?_) rfl ?_; rotate_left)); exact nln rfl)) : E4 F K ops (o :: os) e l G := by
  refine dS (p := p) (fun e => ?_) (fun e => ?_) hg ht hv he1 he2
  · have c : P := of_decide_eq_true (hp ▸ e)
    rw [if_pos c] at h; exact h1 c h
  · have c : ¬ P := of_decide_eq_false (hp ▸ e)
    rw [if_neg c] at h; exact h2 c h
theorem dif_s {j t : Nat} {w p : Bool} {e1 e2 : Env} {P : Prop} {dP : Decidable P} {α : Type} {X Y : Option α} {r : α} (h : (if P then X else Y) = some r) (h1 : P → X = some r → E4 F K ops (o :: os) e1 l G) (h2 : ¬ P → Y = some r → E4 F K ops (o :: os) e2 l G)
    (hg : o.guard = some (j, w) := by exact rfl) (ht : gtmp ops j = some t := by exact rfl) (hv : lk e t = some (.bool p) := by exact rfl) (hp : p = decide P := by first | exact rfl | exact dtt _ | (simp <;> fail))
    (he1 : up e t (.bool true) = e1 := by ((repeat (refine nlc (m' := ?_) rfl ?_; rotate_left)); exact nln rfl)) (he2 : up e t (.bool false) = e2 := by ((repeat (refine nlc (m' := ?_) rfl ?_; rotate_left)); exact nln rfl)) : E4 F K ops (o :: os) e l G := by
  refine dS (p := p) (fun e => ?_) (fun e => ?_) hg ht hv he1 he2
  · have c : P := of_decide_eq_true (hp ▸ e)
    rw [if_pos c] at h; exact h1 c h
  · have c : ¬ P := of_decide_eq_false (hp ▸ e)
    rw [if_neg c] at h; exact h2 c h
theorem dfi {j t : Nat} {w p : Bool} {e1 e2 : Env} {P : Prop} {dP : Decidable P} {α : Type} {X Y : Option α} {r : α} (h : (if P then X else Y) = some r) (h1 : P → X = some r → E4 F K ops (o :: os) e2 l G) (h2 : ¬ P → Y = some r → E4 F K ops (o :: os) e1 l G)
    (hg : o.guard = some (j, w) := by exact rfl) (ht : gtmp ops j = some t := by exact rfl) (hv : lk e t = some (.bool p) := by exact rfl) (hp : p = !decide P := by with_reducible exact rfl)
    (he1 : up e t (.bool true) = e1 := by ((repeat (refine nlc (m' := ?_) rfl ?_; rotate_left)); exact nln rfl)) (he2 : up e t (.bool false) = e2 := by ((repeat (refine nlc (m' := ?_) rfl ?_; rotate_left)); exact nln rfl)) : E4 F K ops (o :: os) e l G := by
  refine dS (p := p) (fun e => ?_) (fun e => ?_) hg ht hv he1 he2
  · have c : ¬ P := fun c => by simp [hp, c] at e
    rw [if_neg c] at h; exact h2 c h
  · have c : P := Classical.byContradiction fun c => by simp [hp, c] at e
    rw [if_pos c] at h; exact h1 c h
theorem dfis {j t : Nat} {w p : Bool} {e1 e2 : Env} {P : Prop} {dP : Decidable P} {α : Type} {X Y : Option α} {r : α} (h : (if P then X else Y) = some r) (h1 : P → X = some r → E4 F K ops (o :: os) e2 l G) (h2 : ¬ P → Y = some r → E4 F K ops (o :: os) e1 l G)
    (hg : o.guard = some (j, w) := by exact rfl) (ht : gtmp ops j = some t := by exact rfl) (hv : lk e t = some (.bool p) := by exact rfl) (hp : p = !decide P := by first | exact rfl | exact ntt _ | (simp <;> fail))
    (he1 : up e t (.bool true) = e1 := by ((repeat (refine nlc (m' := ?_) rfl ?_; rotate_left)); exact nln rfl)) (he2 : up e t (.bool false) = e2 := by ((repeat (refine nlc (m' := ?_) rfl ?_; rotate_left)); exact nln rfl)) : E4 F K ops (o :: os) e l G := by
  refine dS (p := p) (fun e => ?_) (fun e => ?_) hg ht hv he1 he2
  · have c : ¬ P := fun c => by simp [hp, c] at e
    rw [if_neg c] at h; exact h2 c h
  · have c : P := Classical.byContradiction fun c => by simp [hp, c] at e
    rw [if_pos c] at h; exact h1 c h
theorem dE {os os' : List Oper} (hk : E5 F Q ops os e l G) (h' : ops = os'.toArray := by exact rfl) (hn : lit? n = none := by exact rfl) (h : os'.drop (tl n) = os := by ((repeat (refine nlc (m' := ?_) rfl ?_; rotate_left)); exact nln rfl)) : E4 F (TailK F Q ops n) ops [] e l G :=
  ⟨⟨by subst h; subst h'; exact ⟨hk.h, fun u a b t h1 => by rw [hn] at h1; cases h1⟩⟩⟩
theorem dEl {os os' : List Oper} {u t : Nat} {a b : Oper} (hk : E5 F Q ops (b :: os) e l G) (hk2 : E5 F Q ops (b :: a :: os) e' l G) (h' : ops = os'.toArray := by exact rfl) (hn : lit? n = some u := by exact rfl) (h : os'.drop (tl n) = b :: os := by ((repeat (refine nlc (m' := ?_) rfl ?_; rotate_left)); exact nln rfl)) (ha : os'[u]? = some a := by exact rfl) (ht : a.dst = some t := by exact rfl)
    (he : rm e t = e' := by ((repeat (refine nlc (m' := ?_) rfl ?_; rotate_left)); exact nln rfl)) : E4 F (TailK F Q ops n) ops [] e l G := by
  refine ⟨⟨?_⟩⟩
  subst he h'
  refine ⟨by rw [List.toList_toArray, h]; exact hk.h, fun u' a' b' t' h1 h2 h3 h4 => ?_⟩
  rw [hn] at h1; cases h1
  have e1 : os'[u]? = some a' := by simpa using h2
  rw [ha] at e1; cases e1
  rw [ht] at h4; cases h4
  have e2 : (os'.drop (tl n))[0]? = some b' := by rw [List.getElem?_drop]; simpa using h3
  rw [h] at e2; cases e2
  have e3 : os'.drop (tl n + 1) = os := by rw [← List.drop_drop, h]; rfl
  rw [List.toList_toArray, e3]
  exact hk2.h
theorem tW {S' : St} (hk : E5 F Q ops os e' l' G) (hg : o.guard = none := by exact rfl)
    (h : wop F.P F.Δ F.qt F.gs ⟨e, l, G⟩ o (fun S => S = S') := by first | exact rfl | exact ⟨rfl, rfl⟩ | exact ⟨rfl, rfl, rfl⟩ | exact ⟨_, rfl, rfl⟩ | exact ⟨Nat.le_of_ble_eq_true rfl, rfl⟩ | exact ⟨Nat.le_of_ble_eq_true rfl, rfl, rfl⟩ | exact ⟨trivial, rfl⟩ | exact ⟨rfl, rfl, rfl, rfl, rfl, Nat.le_of_ble_eq_true rfl, rfl⟩ | exact ⟨rfl, rfl, rfl, Nat.le_of_ble_eq_true rfl, rfl⟩ | exact ⟨rfl, Nat.le_of_ble_eq_true rfl, rfl, trivial, rfl⟩ | exact ⟨Nat.ne_of_beq_eq_false rfl, rfl⟩ | exact ⟨by first | omega | assumption, rfl⟩ | exact ⟨rfl, by first | omega | assumption, rfl⟩ | exact ⟨by omega, by omega, by omega, rfl⟩ | exact ⟨by omega, by omega, by omega, by omega, rfl⟩) (he : S'.env = e' := by ((repeat (refine nlc (m' := ?_) rfl ?_; rotate_left)); exact nln rfl)) (hl : S'.loc = l' := by ((repeat (refine nlp (x' := ?_) (m' := ?_) rfl ?_ ?_; rotate_left 2; focus ((repeat (first | (refine nlc (p := AV.int _ _) (m' := ?_) rfl ?_; rotate_left) | (refine nlc (p := AV.sl _) (m' := ?_) rfl ?_; rotate_left) | (refine nlc (p := AV.bool _) (m' := ?_) rfl ?_; rotate_left) | (refine nlc (p := AV.own _ _) (m' := ?_) rfl ?_; rotate_left) | (refine nlc (p := AV.str _) (m' := ?_) rfl ?_; rotate_left) | (refine nlc (p := AV.emp) (m' := ?_) rfl ?_; rotate_left) | (refine nlc (p := AV.junk) (m' := ?_) rfl ?_; rotate_left) | (refine nlc (p := AV.nilp) (m' := ?_) rfl ?_; rotate_left) | (refine nlc (p := AV.ptrF _) (m' := ?_) rfl ?_; rotate_left) | (refine nlc (p := AV.fn _ _) (m' := ?_) rfl ?_; rotate_left) | (refine nlc (p := AV.ptr _ _) (m' := ?_) rfl ?_; rotate_left))); exact nln rfl))); exact nln rfl)) (hG : S'.G = G := by exact rfl) : E5 F Q ops (o :: os) e l G :=
  ⟨by simp only [evOps, hg]; exact wop_mono (fun S hS => by rw [hS, st_of he hl hG]; exact hk.h) h⟩
theorem tQ {v : AV} {t : Nat} (h : QV F.P F.Δ ⟨e, l, G⟩ o.op v) (hk : E5 F Q ops os e' l G) (hd : o.dst = some t := by exact rfl) (hg : o.guard = none := by exact rfl) (hq : isQ o = true := by exact rfl)
    (he : up (kl (AV.refs (.t t)) e) t v = e' := by ((repeat (refine nlc (m' := ?_) rfl ?_; rotate_left)); exact nln rfl)) : E5 F Q ops (o :: os) e l G :=
  ⟨by simp only [evOps, hg]; exact wop_mono (fun S hS => by rw [hS, st_of (S := St.put ⟨e, l, G⟩ t v) he rfl rfl]; exact hk.h) (q_wop h hd hq)⟩

theorem evgt {Q : St → Prop} {S : St} {j t : Nat} {w p : Bool} (hg : o.guard = some (j, w)) (ht : gtmp ops j = some t) (hv : S.get t = some (.bool p)) (h1 : p = w → wop F.P F.Δ F.qt F.gs (S.setb t w) o (evOps F.P F.Δ F.qt F.gs ops Q os))
    (h2 : p = (!w) → evOps F.P F.Δ F.qt F.gs ops Q os ((S.setb t (!w)).puto o.dst (.tup []))) : evOps F.P F.Δ F.qt F.gs ops Q (o :: os) S := by
  simp only [evOps, hg, ht, hv]
  exact ⟨h1, h2⟩
theorem tY {j t : Nat} {w p : Bool} {S' : St} (hk : E5 F Q ops os e' l' G) (hg : o.guard = some (j, w) := by exact rfl) (ht : gtmp ops j = some t := by exact rfl) (hv : lk e t = some (.bool p) := by exact rfl) (hp : p = w := by with_reducible exact rfl)
    (h : wop F.P F.Δ F.qt F.gs ⟨e, l, G⟩ o (fun S => S = S') := by first | exact rfl | exact ⟨rfl, rfl⟩ | exact ⟨rfl, rfl, rfl⟩ | exact ⟨_, rfl, rfl⟩ | exact ⟨Nat.le_of_ble_eq_true rfl, rfl⟩ | exact ⟨Nat.le_of_ble_eq_true rfl, rfl, rfl⟩ | exact ⟨trivial, rfl⟩ | exact ⟨rfl, rfl, rfl, rfl, rfl, Nat.le_of_ble_eq_true rfl, rfl⟩ | exact ⟨rfl, rfl, rfl, Nat.le_of_ble_eq_true rfl, rfl⟩ | exact ⟨rfl, Nat.le_of_ble_eq_true rfl, rfl, trivial, rfl⟩ | exact ⟨Nat.ne_of_beq_eq_false rfl, rfl⟩ | exact ⟨by first | omega | assumption, rfl⟩ | exact ⟨rfl, by first | omega | assumption, rfl⟩ | exact ⟨by omega, by omega, by omega, rfl⟩ | exact ⟨by omega, by omega, by omega, by omega, rfl⟩) (he : S'.env = e' := by ((repeat (refine nlc (m' := ?_) rfl ?_; rotate_left)); exact nln rfl)) (hl : S'.loc = l' := by ((repeat (refine nlp (x' := ?_) (m' := ?_) rfl ?_ ?_; rotate_left 2; focus ((repeat (first | (refine nlc (p := AV.int _ _) (m' := ?_) rfl ?_; rotate_left) | (refine nlc (p := AV.sl _) (m' := ?_) rfl ?_; rotate_left) | (refine nlc (p := AV.bool _) (m' := ?_) rfl ?_; rotate_left) | (refine nlc (p := AV.own _ _) (m' := ?_) rfl ?_; rotate_left) | (refine nlc (p := AV.str _) (m' := ?_) rfl ?_; rotate_left) | (refine nlc (p := AV.emp) (m' := ?_) rfl ?_; rotate_left) | (refine nlc (p := AV.junk) (m' := ?_) rfl ?_; rotate_left) | (refine nlc (p := AV.nilp) (m' := ?_) rfl ?_; rotate_left) | (refine nlc (p := AV.ptrF _) (m' := ?_) rfl ?_; rotate_left) | (refine nlc (p := AV.fn _ _) (m' := ?_) rfl ?_; rotate_left) | (refine nlc (p := AV.ptr _ _) (m' := ?_) rfl ?_; rotate_left))); exact nln rfl))); exact nln rfl)) (hG : S'.G = G := by exact rfl) : E5 F Q ops (o :: os) e l G := by
  have hv := hp ▸ hv
  refine ⟨evgt hg ht hv (fun _ => ?_) (fun h => by cases w <;> cases h)⟩
  simp only [St.setb, up_same hv]
  exact wop_mono (fun S hS => by rw [hS, st_of he hl hG]; exact hk.h) h
theorem tYq {j t u : Nat} {w p : Bool} {v : AV} (h : QV F.P F.Δ ⟨e, l, G⟩ o.op v) (hk : E5 F Q ops os e' l G) (hd : o.dst = some u := by exact rfl) (hg : o.guard = some (j, w) := by exact rfl) (ht : gtmp ops j = some t := by exact rfl) (hv : lk e t = some (.bool p) := by exact rfl) (hp : p = w := by with_reducible exact rfl) (hq : isQ o = true := by exact rfl)
    (he : up (kl (AV.refs (.t u)) e) u v = e' := by ((repeat (refine nlc (m' := ?_) rfl ?_; rotate_left)); exact nln rfl)) : E5 F Q ops (o :: os) e l G :=
  tY hk hg ht hv hp (q_wop h hd hq) he rfl rfl
theorem tN {j t u : Nat} {p : Bool} (hk : E5 F Q ops os e' l G) (hg : o.guard = some (j, true) := by exact rfl) (ht : gtmp ops j = some t := by exact rfl) (hv : lk e t = some (.bool p) := by exact rfl) (hp : p = false := by with_reducible exact rfl) (hd : o.dst = some u := by exact rfl)
    (he : up (kl (AV.refs (.t u)) e) u (.tup []) = e' := by ((repeat (refine nlc (m' := ?_) rfl ?_; rotate_left)); exact nln rfl)) : E5 F Q ops (o :: os) e l G := by
  subst hp
  refine ⟨evgt hg ht hv (fun h => by cases h) (fun _ => ?_)⟩
  show evOps F.P F.Δ F.qt F.gs ops _ os (St.puto ⟨up e t (.bool false), l, G⟩ o.dst (.tup []))
  rw [up_same hv, hd]
  subst he
  exact hk.h
theorem tNf {j t u : Nat} {p : Bool} (hk : E5 F Q ops os e' l G) (hg : o.guard = some (j, false) := by exact rfl) (ht : gtmp ops j = some t := by exact rfl) (hv : lk e t = some (.bool p) := by exact rfl) (hp : p = true := by with_reducible exact rfl) (hd : o.dst = some u := by exact rfl)
    (he : up (kl (AV.refs (.t u)) e) u (.tup []) = e' := by ((repeat (refine nlc (m' := ?_) rfl ?_; rotate_left)); exact nln rfl)) : E5 F Q ops (o :: os) e l G := by
  subst hp
  refine ⟨evgt hg ht hv (fun h => by cases h) (fun _ => ?_)⟩
  show evOps F.P F.Δ F.qt F.gs ops _ os (St.puto ⟨up e t (.bool true), l, G⟩ o.dst (.tup []))
  rw [up_same hv, hd]
  subst he
  exact hk.h
theorem tT {j t u : Nat} {w : Bool} (hk : E5 F Q ops os e' l G) (hg : o.guard = some (j, w) := by exact rfl) (ht : gtmp ops j = some t := by exact rfl) (hv : lk e t = some (.tup []) := by exact rfl) (hd : o.dst = some u := by exact rfl)
    (he : up (kl (AV.refs (.t u)) e) u (.tup []) = e' := by ((repeat (refine nlc (m' := ?_) rfl ?_; rotate_left)); exact nln rfl)) : E5 F Q ops (o :: os) e l G := by
  refine ⟨?_⟩
  simp only [evOps, hg, ht, St.get, hv, hd]
  subst he
  exact hk.h
theorem tS {j t : Nat} {w p : Bool} {e1 e2 : Env} (h1 : p = true → E5 F Q ops (o :: os) e1 l G) (h2 : p = false → E5 F Q ops (o :: os) e2 l G) (hg : o.guard = some (j, w) := by exact rfl) (ht : gtmp ops j = some t := by exact rfl) (hv : lk e t = some (.bool p) := by exact rfl)
    (he1 : up e t (.bool true) = e1 := by ((repeat (refine nlc (m' := ?_) rfl ?_; rotate_left)); exact nln rfl)) (he2 : up e t (.bool false) = e2 := by ((repeat (refine nlc (m' := ?_) rfl ?_; rotate_left)); exact nln rfl)) : E5 F Q ops (o :: os) e l G := by
  cases p
  · rw [up_same hv] at he2; subst he2; exact h2 rfl
  · rw [up_same hv] at he1; subst he1; exact h1 rfl
theorem tif {j t : Nat} {w p : Bool} {e1 e2 : Env} {P : Prop} {dP : Decidable P} {α : Type} {X Y : Option α} {r : α} (h : (if P then X else Y) = some r) (h1 : P → X = some r → E5 F Q ops (o :: os) e1 l G) (h2 : ¬ P → Y = some r → E5 F Q ops (o :: os) e2 l G)
    (hg : o.guard = some (j, w) := by exact rfl) (ht : gtmp ops j = some t := by exact rfl) (hv : lk e t = some (.bool p) := by exact rfl) (hp : p = decide P := by first | exact rfl | exact dtt _ | (simp <;> fail))
    (he1 : up e t (.bool true) = e1 := by ((repeat (refine nlc (m' := ?_) rfl ?_; rotate_left)); exact nln rfl)) (he2 : up e t (.bool false) = e2 := by ((repeat (refine nlc (m' := ?_) rfl ?_; rotate_left)); exact nln rfl)) : E5 F Q ops (o :: os) e l G := by
  refine tS (p := p) (fun e => ?_) (fun e => ?_) hg ht hv he1 he2
  · have c : P := of_decide_eq_true (hp ▸ e)
    rw [if_pos c] at h; exact h1 c h
  · have c : ¬ P := of_decide_eq_false (hp ▸ e)
    rw [if_neg c] at h; exact h2 c h
theorem tfi {j t : Nat} {w p : Bool} {e1 e2 : Env} {P : Prop} {dP : Decidable P} {α : Type} {X Y : Option α} {r : α} (h : (if P then X else Y) = some r) (h1 : P → X = some r → E5 F Q ops (o :: os) e2 l G) (h2 : ¬ P → Y = some r → E5 F Q ops (o :: os) e1 l G)
    (hg : o.guard = some (j, w) := by exact rfl) (ht : gtmp ops j = some t := by exact rfl) (hv : lk e t = some (.bool p) := by exact rfl) (hp : p = !decide P := by first | exact rfl | exact ntt _ | (simp <;> fail))
    (he1 : up e t (.bool true) = e1 := by ((repeat (refine nlc (m' := ?_) rfl ?_; rotate_left)); exact nln rfl)) (he2 : up e t (.bool false) = e2 := by ((repeat (refine nlc (m' := ?_) rfl ?_; rotate_left)); exact nln rfl)) : E5 F Q ops (o :: os) e l G := by
  refine tS (p := p) (fun e => ?_) (fun e => ?_) hg ht hv he1 he2
  · have c : ¬ P := fun c => by simp [hp, c] at e
    rw [if_neg c] at h; exact h2 c h
  · have c : P := Classical.byContradiction fun c => by simp [hp, c] at e
    rw [if_pos c] at h; exact h1 c h

theorem qop_call {P : Program} {Δ : Tab} {S : St} {c : Call} {f : FuncId} {K : AV → Prop} (hc : c.callee = .value (.func f)) : qop P Δ S (.call c) K = qcall P S f c.args.toList K := by
  simp only [qop, hc]
theorem Does.de' {P : Program} {qt : Bool} {f : FuncId} {args : List AV} {G : Objs} {y : AV} (h : Does P qt f (args.map AV.deEmp) G (fun x _ => x = y)) (hi : y.deEmp = y) : Does P qt f args G (fun x _ => x = y) :=
  h.de (fun r _ e => by rw [e, hi])
theorem vC {P : Program} {Δ : Tab} {S : St} {c : Call} {f : FuncId} {vs us : List AV} {r : AV} (hd : ∀ G, Does P true f vs G (fun x _ => x = r)) (hc : c.callee = .value (.func f) := by exact rfl)
    (hu : S.argsOf c.args.toList = some us := by exact rfl) (hvs : us.map AV.deEmp = vs := by exact rfl) (hi : r.deEmp = r := by exact rfl) (hcp : r.copyable = true := by exact rfl)
    (hdeep : S.deepArgs c.args.toList = true ∨ r.noRef = true := by first | exact .inl rfl | exact .inr rfl) : QV P Δ S (.call c) r := by
  refine ⟨?_⟩
  rw [qop_call hc]
  unfold qcall
  rw [hu]
  subst hvs
  exact ⟨r, Does.de' (hd _) hi, hcp, hdeep, rfl⟩
theorem c_wop {v : AV} {c : Call} {f : FuncId} {t : Nat} (h : QV F.P F.Δ ⟨e, l, G⟩ o.op v) (ho : o.op = .call c) (hc : c.callee = .value (.func f)) (hd : o.dst = some t) : wop F.P F.Δ F.qt F.gs ⟨e, l, G⟩ o (fun S => S = St.put ⟨e, l, G⟩ t v) := by
  unfold wop
  rw [ho]
  simp only [hc]
  have h' : qcall F.P ⟨e, l, G⟩ f c.args.toList (fun x => x = v) := by
    have h := h.h
    rwa [ho, qop_call hc] at h
  exact .inl (qcall_mono (fun x hx => by subst hx; rw [hd]; rfl) h')
theorem oC {v : AV} {c : Call} {f : FuncId} {t : Nat} (h : QV F.P F.Δ ⟨e, l, G⟩ o.op v) (hk : E3 F T k ops os ((t, v) :: e) l G) (ho : o.op = .call c := by exact rfl) (hc : c.callee = .value (.func f) := by exact rfl) (hg : o.guard = none := by exact rfl) (hd : o.dst = some t := by exact rfl) (hr : noRefs t e = true := by exact rfl) : E3 F T k ops (o :: os) e l G :=
  oW hk hg (c_wop h ho hc hd) hr
theorem tC {v : AV} {c : Call} {f : FuncId} {t : Nat} (h : QV F.P F.Δ ⟨e, l, G⟩ o.op v) (hk : E5 F Q ops os e' l G) (ho : o.op = .call c := by exact rfl) (hc : c.callee = .value (.func f) := by exact rfl) (hg : o.guard = none := by exact rfl) (hd : o.dst = some t := by exact rfl)
    (he : up (kl (AV.refs (.t t)) e) t v = e' := by ((repeat (refine nlc (m' := ?_) rfl ?_; rotate_left)); exact nln rfl)) : E5 F Q ops (o :: os) e l G :=
  ⟨by simp only [evOps, hg]; exact wop_mono (fun S hS => by rw [hS, st_of (S := St.put ⟨e, l, G⟩ t v) he rfl rfl]; exact hk.h) (c_wop h ho hc hd)⟩

theorem oA {α : Type} {iE : Enc α} (x : α) {c : Call} {b s : Operand} {t t1 t2 u el sz by_ sz2 by2 el2 cw : Nat} {z z2 : List AV} {d : TD} {vs : AV} {cs : List AV} {m : List α} (hk : E3 F T k ops os e' l G) (ho : o.op = .call c := by exact rfl) (hc : c.callee = .builtin .append := by exact rfl)
    (ha : c.args.toList = [b, s] := by exact rfl) (hb : c.argTypes.toList = [t1, t2] := by exact rfl) (hdst : o.dst = some t := by exact rfl) (hg : o.guard = none := by exact rfl) (h1 : lk F.Δ t1 = some ⟨.slice el, sz, by_, z⟩ := by exact rfl) (h2 : lk F.Δ t2 = some ⟨.slice el2, sz2, by2, z2⟩ := by exact rfl)
    (hd : lk F.Δ el = some d := by exact rfl) (hs : St.val ⟨e, l, G⟩ s = some vs := by exact rfl) (hm : St.slOf ⟨e, l, G⟩ vs = some [cs] := by exact rfl) (hb' : b = .tmp u := by exact rfl) (hu : lk e u = some (.own cw (m.map enc)) := by exact rfl) (hcw : cw = d.size := by exact rfl)
    (a1 : d.zero.length = d.size := by exact rfl) (a2 : (match d.k with | .tup | .fn => False | _ => True) := by exact trivial) (a3 : 0 < d.bytes := by exact Nat.le_of_ble_eq_true rfl) (hx : cs = enc x := by exact rfl) (a4 : w α = d.size := by exact rfl) (a5 : (enc x).all AV.leaf = true := by exact rfl)
    (a6 : (m.length + 1) * d.bytes ≤ 140737488355328 := by (try dsimp only); omega)
    (he : (St.put (St.take ⟨e, l, G⟩ (.t u)) t (.own d.size ((m ++ [x]).map enc))).env = e' := by ((repeat (refine nlc (m' := ?_) rfl ?_; rotate_left)); exact nln rfl)) (hl : (St.put (St.take ⟨e, l, G⟩ (.t u)) t (.own d.size ((m ++ [x]).map enc))).loc = l := by exact rfl) (hG : (St.put (St.take ⟨e, l, G⟩ (.t u)) t (.own d.size ((m ++ [x]).map enc))).G = G := by exact rfl) : E3 F T k ops (o :: os) e l G := by
  subst hx hb' hcw
  have hok : apOk d (m.map enc) ([enc x]) := by
    refine ⟨a1, a2, a3, ?_, ?_, by simpa using a6⟩
    · intro es hes
      rw [List.mem_singleton.1 hes, Enc.hw, a4]
    · simpa using a5
  have hw : wop F.P F.Δ F.qt F.gs ⟨e, l, G⟩ o (fun S => S = ⟨e', l, G⟩) := by
    unfold wop
    rw [ho]
    simp only [hc, ha, hb]
    refine .inl ?_
    unfold wappend
    have e1 : m.map enc ++ [enc x] = (m ++ [x]).map enc := by simp
    have hu' : St.val ⟨e, l, G⟩ (.tmp u) = some (.own d.size (m.map enc)) := hu
    simp only [h1, h2, hdst, hd, hs, hm, hu']
    exact ⟨trivial, hok, by rw [e1, st_of he hl hG]⟩
  exact o_none hg hw (fun S' hS hΔ hd X a w hr => by subst hS; exact hk.h hΔ hd X a w hr)
theorem oAv {α : Type} {iE : Enc α} (x : α) {c : Call} {b s : Operand} {t t1 t2 u el sz by_ sz2 by2 el2 cw : Nat} {z z2 : List AV} {d : TD} {vs : AV} {cs : List AV} {m : List α} (hk : E3 F T k ops os e' l G) (ho : o.op = .call c := by exact rfl) (hc : c.callee = .builtin .append := by exact rfl)
    (ha : c.args.toList = [b, s] := by exact rfl) (hb : c.argTypes.toList = [t1, t2] := by exact rfl) (hdst : o.dst = some t := by exact rfl) (hg : o.guard = none := by exact rfl) (h1 : lk F.Δ t1 = some ⟨.slice el, sz, by_, z⟩ := by exact rfl) (h2 : lk F.Δ t2 = some ⟨.slice el2, sz2, by2, z2⟩ := by exact rfl)
    (hd : lk F.Δ el = some d := by exact rfl) (hs : St.val ⟨e, l, G⟩ s = some vs := by exact rfl) (hm : St.slOf ⟨e, l, G⟩ vs = some [cs] := by exact rfl) (hb' : St.val ⟨e, l, G⟩ b = some (.view (.t u)) := by exact rfl) (hu : lk e u = some (.own cw (m.map enc)) := by exact rfl) (hcw : cw = d.size := by exact rfl)
    (a1 : d.zero.length = d.size := by exact rfl) (a2 : (match d.k with | .tup | .fn => False | _ => True) := by exact trivial) (a3 : 0 < d.bytes := by exact Nat.le_of_ble_eq_true rfl) (hx : cs = enc x := by exact rfl) (a4 : w α = d.size := by exact rfl) (a5 : (enc x).all AV.leaf = true := by exact rfl)
    (a6 : (m.length + 1) * d.bytes ≤ 140737488355328 := by (try dsimp only); omega)
    (he : (St.put (St.take ⟨e, l, G⟩ (.t u)) t (.own d.size ((m ++ [x]).map enc))).env = e' := by ((repeat (refine nlc (m' := ?_) rfl ?_; rotate_left)); exact nln rfl)) (hl : (St.put (St.take ⟨e, l, G⟩ (.t u)) t (.own d.size ((m ++ [x]).map enc))).loc = l := by exact rfl) (hG : (St.put (St.take ⟨e, l, G⟩ (.t u)) t (.own d.size ((m ++ [x]).map enc))).G = G := by exact rfl) : E3 F T k ops (o :: os) e l G := by
  subst hx hcw
  have hok : apOk d (m.map enc) ([enc x]) := by
    refine ⟨a1, a2, a3, ?_, ?_, by simpa using a6⟩
    · intro es hes
      rw [List.mem_singleton.1 hes, Enc.hw, a4]
    · simpa using a5
  have hw : wop F.P F.Δ F.qt F.gs ⟨e, l, G⟩ o (fun S => S = ⟨e', l, G⟩) := by
    unfold wop
    rw [ho]
    simp only [hc, ha, hb]
    refine .inl ?_
    unfold wappend
    have e1 : m.map enc ++ [enc x] = (m ++ [x]).map enc := by simp
    have hu' : St.ownAt ⟨e, l, G⟩ (.t u) = some (d.size, m.map enc) := by simp only [St.ownAt, St.get, hu]
    simp only [h1, h2, hdst, hd, hs, hm, hb', hu']
    exact ⟨by simp [anyG], trivial, hok, by rw [e1, st_of he hl hG]⟩
  exact o_none hg hw (fun S' hS hΔ hd X a w hr => by subst hS; exact hk.h hΔ hd X a w hr)
theorem oAe {α : Type} [iE : Enc α] (x : α) {c : Call} {b s : Operand} {t t1 t2 el sz by_ sz2 by2 el2 : Nat} {z z2 : List AV} {d : TD} {vs : AV} {cs : List AV} (hk : E3 F T k ops os e' l G) (ho : o.op = .call c := by exact rfl) (hc : c.callee = .builtin .append := by exact rfl)
    (ha : c.args.toList = [b, s] := by exact rfl) (hb : c.argTypes.toList = [t1, t2] := by exact rfl) (hdst : o.dst = some t := by exact rfl) (hg : o.guard = none := by exact rfl) (h1 : lk F.Δ t1 = some ⟨.slice el, sz, by_, z⟩ := by exact rfl) (h2 : lk F.Δ t2 = some ⟨.slice el2, sz2, by2, z2⟩ := by exact rfl)
    (hd : lk F.Δ el = some d := by exact rfl) (hs : St.val ⟨e, l, G⟩ s = some vs := by exact rfl) (hm : St.slOf ⟨e, l, G⟩ vs = some [cs] := by exact rfl) (hb' : St.val ⟨e, l, G⟩ b = some .emp := by exact rfl)
    (a1 : d.zero.length = d.size := by exact rfl) (a2 : (match d.k with | .tup | .fn => False | _ => True) := by exact trivial) (a3 : 0 < d.bytes := by exact Nat.le_of_ble_eq_true rfl) (hx : cs = enc x := by exact rfl) (a4 : w α = d.size := by exact rfl) (a5 : (enc x).all AV.leaf = true := by exact rfl)
    (a6 : (1) * d.bytes ≤ 140737488355328 := by (try dsimp only); omega)
    (he : (St.put ⟨e, l, G⟩ t (.own d.size ((([] : List α) ++ [x]).map enc))).env = e' := by ((repeat (refine nlc (m' := ?_) rfl ?_; rotate_left)); exact nln rfl)) (hl : (St.put ⟨e, l, G⟩ t (.own d.size ((([] : List α) ++ [x]).map enc))).loc = l := by exact rfl) (hG : (St.put ⟨e, l, G⟩ t (.own d.size ((([] : List α) ++ [x]).map enc))).G = G := by exact rfl) : E3 F T k ops (o :: os) e l G := by
  subst hx 
  have hok : apOk d ([]) ([enc x]) := by
    refine ⟨a1, a2, a3, ?_, ?_, by simpa using a6⟩
    · intro es hes
      rw [List.mem_singleton.1 hes, Enc.hw, a4]
    · simpa using a5
  have hw : wop F.P F.Δ F.qt F.gs ⟨e, l, G⟩ o (fun S => S = ⟨e', l, G⟩) := by
    unfold wop
    rw [ho]
    simp only [hc, ha, hb]
    refine .inl ?_
    unfold wappend
    have e1 : ([] : List (List AV)) ++ [enc x] = (([] : List α) ++ [x]).map enc := by simp
    simp only [h1, h2, hdst, hd, hs, hm, hb']
    refine ⟨hok, ?_⟩
    have e2 : [enc x] = (([] : List α) ++ [x]).map enc := by simp
    rw [e2, st_of he hl hG]
  exact o_none hg hw (fun S' hS hΔ hd X a w hr => by subst hS; exact hk.h hΔ hd X a w hr)
theorem oM {α : Type} {iE : Enc α} {c : Call} {b s : Operand} {t t1 t2 u el sz by_ sz2 by2 el2 cw : Nat} {z z2 : List AV} {d : TD} {vs : AV} {ys : List α} {m : List α} (hk : E3 F T k ops os e' l G) (ho : o.op = .call c := by exact rfl) (hc : c.callee = .builtin .append := by exact rfl)
    (ha : c.args.toList = [b, s] := by exact rfl) (hb : c.argTypes.toList = [t1, t2] := by exact rfl) (hdst : o.dst = some t := by exact rfl) (hg : o.guard = none := by exact rfl) (h1 : lk F.Δ t1 = some ⟨.slice el, sz, by_, z⟩ := by exact rfl) (h2 : lk F.Δ t2 = some ⟨.slice el2, sz2, by2, z2⟩ := by exact rfl)
    (hd : lk F.Δ el = some d := by exact rfl) (hs : St.val ⟨e, l, G⟩ s = some vs := by exact rfl) (hm : St.slOf ⟨e, l, G⟩ vs = some (ys.map enc) := by exact rfl) (hb' : b = .tmp u := by exact rfl) (hu : lk e u = some (.own cw (m.map enc)) := by exact rfl) (hcw : cw = d.size := by exact rfl)
    (a1 : d.zero.length = d.size := by exact rfl) (a2 : (match d.k with | .tup | .fn => False | _ => True) := by exact trivial) (a3 : 0 < d.bytes := by exact Nat.le_of_ble_eq_true rfl) (a4 : w α = d.size := by exact rfl) (a5 : ∀ x : α, (enc x).all AV.leaf = true := by exact fun _ => rfl)
    (a6 : (m.length + ys.length) * d.bytes ≤ 140737488355328 := by (try dsimp only); omega)
    (he : (St.put (St.take ⟨e, l, G⟩ (.t u)) t (.own d.size ((m ++ ys).map enc))).env = e' := by ((repeat (refine nlc (m' := ?_) rfl ?_; rotate_left)); exact nln rfl)) (hl : (St.put (St.take ⟨e, l, G⟩ (.t u)) t (.own d.size ((m ++ ys).map enc))).loc = l := by exact rfl) (hG : (St.put (St.take ⟨e, l, G⟩ (.t u)) t (.own d.size ((m ++ ys).map enc))).G = G := by exact rfl) : E3 F T k ops (o :: os) e l G := by
  subst hb' hcw
  have hok : apOk d (m.map enc) (ys.map enc) := by
    refine ⟨a1, a2, a3, ?_, ?_, by simpa using a6⟩
    · intro es hes
      obtain ⟨y, _, rfl⟩ := List.mem_map.1 hes; rw [Enc.hw, a4]
    · rw [List.all_eq_true]
      intro y hy
      obtain ⟨cs, h1, h2⟩ := List.mem_flatten.1 hy
      obtain ⟨x, _, rfl⟩ := List.mem_map.1 h1
      exact List.all_eq_true.1 (a5 x) y h2
  have hw : wop F.P F.Δ F.qt F.gs ⟨e, l, G⟩ o (fun S => S = ⟨e', l, G⟩) := by
    unfold wop
    rw [ho]
    simp only [hc, ha, hb]
    refine .inl ?_
    unfold wappend
    have e1 : m.map enc ++ ys.map enc = (m ++ ys).map enc := by simp
    have hu' : St.val ⟨e, l, G⟩ (.tmp u) = some (.own d.size (m.map enc)) := hu
    simp only [h1, h2, hdst, hd, hs, hm, hu']
    exact ⟨trivial, hok, by rw [e1, st_of he hl hG]⟩
  exact o_none hg hw (fun S' hS hΔ hd X a w hr => by subst hS; exact hk.h hΔ hd X a w hr)
theorem oMv {α : Type} {iE : Enc α} {c : Call} {b s : Operand} {t t1 t2 u el sz by_ sz2 by2 el2 cw : Nat} {z z2 : List AV} {d : TD} {vs : AV} {ys : List α} {m : List α} (hk : E3 F T k ops os e' l G) (ho : o.op = .call c := by exact rfl) (hc : c.callee = .builtin .append := by exact rfl)
    (ha : c.args.toList = [b, s] := by exact rfl) (hb : c.argTypes.toList = [t1, t2] := by exact rfl) (hdst : o.dst = some t := by exact rfl) (hg : o.guard = none := by exact rfl) (h1 : lk F.Δ t1 = some ⟨.slice el, sz, by_, z⟩ := by exact rfl) (h2 : lk F.Δ t2 = some ⟨.slice el2, sz2, by2, z2⟩ := by exact rfl)
    (hd : lk F.Δ el = some d := by exact rfl) (hs : St.val ⟨e, l, G⟩ s = some vs := by exact rfl) (hm : St.slOf ⟨e, l, G⟩ vs = some (ys.map enc) := by exact rfl) (hb' : St.val ⟨e, l, G⟩ b = some (.view (.t u)) := by exact rfl) (hu : lk e u = some (.own cw (m.map enc)) := by exact rfl) (hcw : cw = d.size := by exact rfl)
    (a1 : d.zero.length = d.size := by exact rfl) (a2 : (match d.k with | .tup | .fn => False | _ => True) := by exact trivial) (a3 : 0 < d.bytes := by exact Nat.le_of_ble_eq_true rfl) (a4 : w α = d.size := by exact rfl) (a5 : ∀ x : α, (enc x).all AV.leaf = true := by exact fun _ => rfl)
    (a6 : (m.length + ys.length) * d.bytes ≤ 140737488355328 := by (try dsimp only); omega)
    (he : (St.put (St.take ⟨e, l, G⟩ (.t u)) t (.own d.size ((m ++ ys).map enc))).env = e' := by ((repeat (refine nlc (m' := ?_) rfl ?_; rotate_left)); exact nln rfl)) (hl : (St.put (St.take ⟨e, l, G⟩ (.t u)) t (.own d.size ((m ++ ys).map enc))).loc = l := by exact rfl) (hG : (St.put (St.take ⟨e, l, G⟩ (.t u)) t (.own d.size ((m ++ ys).map enc))).G = G := by exact rfl) : E3 F T k ops (o :: os) e l G := by
  subst hcw
  have hok : apOk d (m.map enc) (ys.map enc) := by
    refine ⟨a1, a2, a3, ?_, ?_, by simpa using a6⟩
    · intro es hes
      obtain ⟨y, _, rfl⟩ := List.mem_map.1 hes; rw [Enc.hw, a4]
    · rw [List.all_eq_true]
      intro y hy
      obtain ⟨cs, h1, h2⟩ := List.mem_flatten.1 hy
      obtain ⟨x, _, rfl⟩ := List.mem_map.1 h1
      exact List.all_eq_true.1 (a5 x) y h2
  have hw : wop F.P F.Δ F.qt F.gs ⟨e, l, G⟩ o (fun S => S = ⟨e', l, G⟩) := by
    unfold wop
    rw [ho]
    simp only [hc, ha, hb]
    refine .inl ?_
    unfold wappend
    have e1 : m.map enc ++ ys.map enc = (m ++ ys).map enc := by simp
    have hu' : St.ownAt ⟨e, l, G⟩ (.t u) = some (d.size, m.map enc) := by simp only [St.ownAt, St.get, hu]
    simp only [h1, h2, hdst, hd, hs, hm, hb', hu']
    exact ⟨by simp [anyG], trivial, hok, by rw [e1, st_of he hl hG]⟩
  exact o_none hg hw (fun S' hS hΔ hd X a w hr => by subst hS; exact hk.h hΔ hd X a w hr)
theorem oMe {α : Type} {iE : Enc α} {c : Call} {b s : Operand} {t t1 t2 el sz by_ sz2 by2 el2 : Nat} {z z2 : List AV} {d : TD} {vs : AV} {ys : List α} (hk : E3 F T k ops os e' l G) (ho : o.op = .call c := by exact rfl) (hc : c.callee = .builtin .append := by exact rfl)
    (ha : c.args.toList = [b, s] := by exact rfl) (hb : c.argTypes.toList = [t1, t2] := by exact rfl) (hdst : o.dst = some t := by exact rfl) (hg : o.guard = none := by exact rfl) (h1 : lk F.Δ t1 = some ⟨.slice el, sz, by_, z⟩ := by exact rfl) (h2 : lk F.Δ t2 = some ⟨.slice el2, sz2, by2, z2⟩ := by exact rfl)
    (hd : lk F.Δ el = some d := by exact rfl) (hs : St.val ⟨e, l, G⟩ s = some vs := by exact rfl) (hm : St.slOf ⟨e, l, G⟩ vs = some (ys.map enc) := by exact rfl) (hb' : St.val ⟨e, l, G⟩ b = some .emp := by exact rfl)
    (a1 : d.zero.length = d.size := by exact rfl) (a2 : (match d.k with | .tup | .fn => False | _ => True) := by exact trivial) (a3 : 0 < d.bytes := by exact Nat.le_of_ble_eq_true rfl) (a4 : w α = d.size := by exact rfl) (a5 : ∀ x : α, (enc x).all AV.leaf = true := by exact fun _ => rfl)
    (a6 : (ys.length) * d.bytes ≤ 140737488355328 := by (try dsimp only); omega)
    (he : (St.put ⟨e, l, G⟩ t (.own d.size ((([] : List α) ++ ys).map enc))).env = e' := by ((repeat (refine nlc (m' := ?_) rfl ?_; rotate_left)); exact nln rfl)) (hl : (St.put ⟨e, l, G⟩ t (.own d.size ((([] : List α) ++ ys).map enc))).loc = l := by exact rfl) (hG : (St.put ⟨e, l, G⟩ t (.own d.size ((([] : List α) ++ ys).map enc))).G = G := by exact rfl) : E3 F T k ops (o :: os) e l G := by
  have hok : apOk d ([]) (ys.map enc) := by
    refine ⟨a1, a2, a3, ?_, ?_, by simpa using a6⟩
    · intro es hes
      obtain ⟨y, _, rfl⟩ := List.mem_map.1 hes; rw [Enc.hw, a4]
    · rw [List.all_eq_true]
      intro y hy
      obtain ⟨cs, h1, h2⟩ := List.mem_flatten.1 hy
      obtain ⟨x, _, rfl⟩ := List.mem_map.1 h1
      exact List.all_eq_true.1 (a5 x) y h2
  have hw : wop F.P F.Δ F.qt F.gs ⟨e, l, G⟩ o (fun S => S = ⟨e', l, G⟩) := by
    unfold wop
    rw [ho]
    simp only [hc, ha, hb]
    refine .inl ?_
    unfold wappend
    have e1 : ([] : List (List AV)) ++ ys.map enc = (([] : List α) ++ ys).map enc := by simp
    simp only [h1, h2, hdst, hd, hs, hm, hb']
    refine ⟨hok, ?_⟩
    have e2 : ys.map enc = (([] : List α) ++ ys).map enc := by simp
    rw [e2, st_of he hl hG]
  exact o_none hg hw (fun S' hS hΔ hd X a w hr => by subst hS; exact hk.h hΔ hd X a w hr)
theorem se_wop {α : Type} {iE : Enc α} {x : α} {t c off u : Nat} {ad y : Operand} {d : TD} {m : List α} {n : Int} {v : AV} (ho : o.op = .store t ad y) (hdst : o.dst = none) (ht : lk F.Δ t = some d) (had : St.val ⟨e, l, G⟩ ad = some (.eptr (.t u) c n.toNat off)) (hu : lk e u = some (.own c (m.map enc))) (hy : St.val ⟨e, l, G⟩ y = some v) (hl : v.cells.all AV.leaf = true) (hdp : v.isDeep = true) (hs : v.cells.length = d.size) (hle : off + d.size ≤ (enc (rd m n)).length)
    (hx : over (enc (rd m n)) off v.cells = enc x) (h0 : 0 ≤ n) (h1 : n < (m.length : Int)) : wop F.P F.Δ F.qt F.gs ⟨e, l, G⟩ o (fun S => S = ⟨up e u (.own c ((m.set n.toNat x).map enc)), l, G⟩) := by
  unfold wop
  rw [ho]
  have hown : St.ownAt ⟨e, l, G⟩ (.t u) = some (c, m.map enc) := by simp only [St.ownAt, St.get, hu]
  obtain ⟨f1, f2⟩ := frz_deep (S := ⟨e, l, G⟩) hy hdp
  have hfv : St.frzv ⟨e, l, G⟩ y = ⟨e, l, G⟩ := by
    unfold St.frzv
    rw [hy]
    cases v <;> first | rfl | cases hdp
  simp only [hfv]
  refine ⟨f2 _, hdst, ?_⟩
  unfold wstore
  simp only [ht, had, hown, hy]
  refine ⟨by simp [anyG], trivial, hl, hdp, hs, _, at_enc h0 h1, hle, ?_⟩
  simp only [St.setAt, hx, List.map_set]
theorem Rv.deR {Fz : Nat → Prop} {D : Nat → Option Nat} {w : World} {r : List (List AV)} {v : Value} (h : Rv Fz D w (.sl r) v) : Rv Fz D w (.sl (r.map (List.map deEmp1))) v := by
  cases h with
  | sl0 a c => exact .sl0 a c
  | sl _ b off cap c f hz hl hw hc hr =>
    have hflat : (r.map (List.map deEmp1)).flatten = r.flatten.map deEmp1 := by simp [List.map_flatten]
    have := Rv.sl (w := w) (D := D) (r.map (List.map deEmp1)) b off cap c f hz (by simpa using hl) (fun es hes => by
      obtain ⟨y, h1, rfl⟩ := List.mem_map.1 hes
      simpa using hw y h1) (fun k x hk => by
        rw [hflat, List.getElem?_map] at hk
        obtain ⟨y, h1, rfl⟩ := Option.map_eq_some_iff.1 hk
        exact hc k y h1) (fun k x hk => by
        rw [hflat, List.getElem?_map] at hk
        obtain ⟨y, h1, rfl⟩ := Option.map_eq_some_iff.1 hk
        exact (hr k y h1).de1)
    simpa using this
theorem rx_de {X : Ctx} {a : Act} {w : World} {t : Nat} {x y : AV} (h : RX X ⟨e, l, G⟩ a w) (hx : lk e t = some x) (hd : x.isDeep = true) (hy : y.isDeep = true) (hxy : ∀ v, Rv X.Fz X.D w x v → Rv X.Fz X.D w y v) : RX X ⟨(t, y) :: e, l, G⟩ a w where
  env u z hz := by
    simp only [St.get] at hz
    rw [lk_cons] at hz
    by_cases c : t = u
    · rw [if_pos c] at hz
      cases hz
      subst c
      obtain ⟨h1, h2⟩ := h.env t x hx
      exact ⟨h1, (Rp.deep hy).2 (hxy _ ((Rp.deep hd).1 h2))⟩
    · rw [if_neg c] at hz
      obtain ⟨h1, h2⟩ := h.env u z hz
      refine ⟨h1, h2.congr (fun _ _ => rfl) (fun q hq hl => ⟨?_, rfl⟩)⟩
      cases q with
      | t n =>
        obtain ⟨c', r, e1⟩ := live_t hl
        simp only [St.get] at e1
        rw [lk_cons] at e1
        by_cases c2 : t = n
        · rw [if_pos c2] at e1; cases e1; cases hy
        · rw [if_neg c2] at e1; simp [St.ownAt, St.get, e1]
      | l k off => exact hl
      | g k off => exact hl
      | res => exact hl
  loc := h.loc
  gob := h.gob
  dis := h.dis
  inh := h.inh
theorem oBS {t1 n t : Nat} {ps : Array (Nat × Operand)} {el sz by_ : Nat} {z : List AV} {d : TD} {cs : List AV} {rows : List (List AV)} (hk : E3 F T k ops os ((t, .sl rows) :: e) l G) (ho : o.op = .buildSlice t1 (n + 1) ps := by exact rfl) (hd : o.dst = some t := by exact rfl) (hg : o.guard = none := by exact rfl)
    (hdp : St.deepArgs ⟨e, l, G⟩ (ps.toList.map (·.2)) = true := by exact rfl) (h1 : lk F.Δ t1 = some ⟨.slice el, sz, by_, z⟩ := by exact rfl) (h2 : lk F.Δ el = some d := by exact rfl)
    (h3 : (n + 1) * d.size ≤ 16777216 := by exact Nat.le_of_ble_eq_true rfl) (h4 : d.zero.length = d.size := by exact rfl) (h5 : (match d.k with | .tup | .fn => False | _ => True) := by exact trivial)
    (h6 : fillB ⟨e, l, G⟩ (fun i => some (i * d.size, d.size)) (zeros d.zero (n + 1)) ps.toList = some cs := by exact rfl)
    (h7 : (chop d.size (n + 1) cs).map (List.map deEmp1) = rows := by ((repeat (refine nlr (x' := ?_) (m' := ?_) rfl ?_ ?_; rotate_left 2; focus ((repeat (first | (refine nlc (p := AV.int _ _) (m' := ?_) rfl ?_; rotate_left) | (refine nlc (p := AV.sl _) (m' := ?_) rfl ?_; rotate_left) | (refine nlc (p := AV.bool _) (m' := ?_) rfl ?_; rotate_left) | (refine nlc (p := AV.own _ _) (m' := ?_) rfl ?_; rotate_left) | (refine nlc (p := AV.str _) (m' := ?_) rfl ?_; rotate_left) | (refine nlc (p := AV.emp) (m' := ?_) rfl ?_; rotate_left) | (refine nlc (p := AV.junk) (m' := ?_) rfl ?_; rotate_left) | (refine nlc (p := AV.nilp) (m' := ?_) rfl ?_; rotate_left) | (refine nlc (p := AV.ptrF _) (m' := ?_) rfl ?_; rotate_left) | (refine nlc (p := AV.fn _ _) (m' := ?_) rfl ?_; rotate_left) | (refine nlc (p := AV.ptr _ _) (m' := ?_) rfl ?_; rotate_left))); exact nln rfl))); exact nln rfl))
    (hr : noRefs t e = true := by exact rfl) : E3 F T k ops (o :: os) e l G := by
  have hw : wop F.P F.Δ F.qt F.gs ⟨e, l, G⟩ o (fun S => S = St.put ⟨e, l, G⟩ t (.sl (chop d.size (n + 1) cs))) := by
    unfold wop
    rw [ho]
    obtain ⟨e1, e2⟩ := frzAll_deep hdp
    simp only [e1, e2, true_and, qop]
    unfold qbslice
    simp only [h1, h2, h6]
    exact ⟨h3, h4, h5, by rw [hd]; rfl⟩
  refine o_none hg hw (fun S' hS hΔ hdd X a w hr' => ?_)
  have r1 := hr'.weaken (S' := ⟨(t, .sl (chop d.size (n + 1) cs)) :: e, l, G⟩) (by rw [hS]; exact cons_le hr)
  have r2 := rx_de (y := .sl rows) r1.rx (t := t) (x := .sl (chop d.size (n + 1) cs)) (by rw [lk_cons, if_pos rfl]) rfl rfl (fun v hv => by rw [← h7]; exact hv.deR)
  refine hk.h hΔ hdd X a w (Rdy.weaken (S := ⟨(t, .sl rows) :: (t, .sl (chop d.size (n + 1) cs)) :: e, l, G⟩) ⟨r2, r1.n, r1.d, r1.fs⟩ ⟨fun u x hx => ?_, fun _ _ h => h, fun _ _ h => h⟩)
  simp only [St.get] at hx ⊢
  rw [lk_cons] at hx ⊢
  by_cases c : t = u
  · rw [if_pos c] at hx ⊢; exact hx
  · rw [if_neg c] at hx ⊢; rw [lk_cons, if_neg c]; exact hx

theorem fin_ {x : Exit} {rs : List ResultVar} {Post : AV → Objs → Prop} (hT : ∀ x a w, (∃ S X, finQ F rs G Post x S ∧ Rdy F T S X a w) → T.Q x a w) (h : nxt k x = ([], .normal) ∨ nxt k x = ([], .ret))
    (key : evEnd F rs ⟨e, l, G⟩ (fun r G'' => ∃ G', Post r.deEmp G' ∧ (∀ id cs, G' id = some cs → G'' id = some cs) ∧ (F.qt = true → G' = G))) : E2 F T k x e l G := by
  refine ⟨fun X a w hr => ?_⟩
  rw [nxt_eq]
  rcases h with h | h <;> rw [h] <;> exact hT _ a w ⟨_, X, key, hr⟩
theorem n_end {x : Exit} {rs : List ResultVar} {Post : AV → Objs → Prop} {v : AV} {S : St} (hT : ∀ x a w, (∃ S X, finQ F rs G Post x S ∧ Rdy F T S X a w) → T.Q x a w) (hp : Post v.deEmp G) (h : nxt k x = ([], .normal) ∨ nxt k x = ([], .ret) := by first | exact .inl rfl | exact .inr rfl)
    (h1 : St.frzResOk ⟨e, l, G⟩ F rs = true := by exact rfl) (h2 : St.frzRes ⟨e, l, G⟩ F rs = S := by exact rfl) (h3 : resAll F S rs = some [v] := by exact rfl) (h4 : v.isDeep = true := by exact rfl) (h5 : S.G = G := by exact rfl) : E2 F T k x e l G := by
  refine fin_ hT h (.inr ⟨h1, ?_⟩)
  rw [h2, h3]
  exact ⟨h4, G, hp, fun id cs hh => by rw [h5]; exact hh, fun _ => rfl⟩
theorem n_ends {x : Exit} {rs : List ResultVar} {Post : AV → Objs → Prop} {v1 v2 : AV} {vs : List AV} {S : St} (hT : ∀ x a w, (∃ S X, finQ F rs G Post x S ∧ Rdy F T S X a w) → T.Q x a w) (hp : Post (AV.deEmp (.tup (v1 :: v2 :: vs))) G) (h : nxt k x = ([], .normal) ∨ nxt k x = ([], .ret) := by first | exact .inl rfl | exact .inr rfl)
    (h1 : St.frzResOk ⟨e, l, G⟩ F rs = true := by exact rfl) (h2 : St.frzRes ⟨e, l, G⟩ F rs = S := by exact rfl) (h3 : resAll F S rs = some (v1 :: v2 :: vs) := by exact rfl) (h4 : (v1 :: v2 :: vs).all AV.isDeep = true := by exact rfl) (h5 : S.G = G := by exact rfl) : E2 F T k x e l G := by
  refine fin_ hT h (.inr ⟨h1, ?_⟩)
  rw [h2, h3]
  exact ⟨h4, G, hp, fun id cs hh => by rw [h5]; exact hh, fun _ => rfl⟩

variable {A : Prop}
theorem mB {β γ : Type} {m : Option β} {c : β → Option γ} {r : γ} (h : m.bind c = some r) (h1 : ∀ t, m = some t → c t = some r → A) : A := by
  obtain ⟨t, ht, h⟩ := Option.bind_eq_some_iff.1 h
  exact h1 t ht h
theorem mI {P : Prop} {dP : Decidable P} {α : Type} {X : Option α} {r : α} (h : (if P then X else none) = some r) (h1 : P → X = some r → A) : A := by
  by_cases c : P
  · rw [if_pos c] at h; exact h1 c h
  · rw [if_neg c] at h; cases h
theorem mE {P : Prop} {dP : Decidable P} {α : Type} {X : Option α} {r : α} (h : (if P then none else X) = some r) (h1 : ¬ P → X = some r → A) : A := by
  by_cases c : P
  · rw [if_pos c] at h; cases h
  · rw [if_neg c] at h; exact h1 c h
theorem mS {β γ : Type} {v : β} {c : β → Option γ} {r : γ} (h : (some v).bind c = some r) (h1 : c v = some r → A) : A := h1 h
theorem mT {P : Prop} {dP : Decidable P} {α : Type} {X Y : Option α} {r : α} (h : (if P then X else Y) = some r) (h1 : X = some r → A) (hp : P := by first | assumption | omega | (simp [*] <;> fail)) : A := by
  rw [if_pos hp] at h; exact h1 h
theorem mF {P : Prop} {dP : Decidable P} {α : Type} {X Y : Option α} {r : α} (h : (if P then X else Y) = some r) (h1 : Y = some r → A) (hp : ¬ P := by first | assumption | omega | (simp [*] <;> fail)) : A := by
  rw [if_neg hp] at h; exact h1 h
end Go.AL
end
section
set_option linter.unusedVariables false
namespace Go.AL
variable {F : Cfg} {T : Task F} {k : List Frm} {e : Env} {l : Loc} {G : Objs}
inductive LI1 {T1 : Type} (E : T1 → Env) (L : T1 → Loc) (G : Objs) (Φ : Nat → T1 → Prop) : Nat → St → Prop
  | mk (m : Nat) (x1 : T1) (h : Φ m x1) : LI1 E L G Φ m ⟨E x1, L x1, G⟩
inductive LI2 {T1 T2 : Type} (E : T1 → T2 → Env) (L : T1 → T2 → Loc) (G : Objs) (Φ : Nat → T1 → T2 → Prop) : Nat → St → Prop
  | mk (m : Nat) (x1 : T1) (x2 : T2) (h : Φ m x1 x2) : LI2 E L G Φ m ⟨E x1 x2, L x1 x2, G⟩
inductive LI3 {T1 T2 T3 : Type} (E : T1 → T2 → T3 → Env) (L : T1 → T2 → T3 → Loc) (G : Objs) (Φ : Nat → T1 → T2 → T3 → Prop) : Nat → St → Prop
  | mk (m : Nat) (x1 : T1) (x2 : T2) (x3 : T3) (h : Φ m x1 x2 x3) : LI3 E L G Φ m ⟨E x1 x2 x3, L x1 x2 x3, G⟩
inductive LI4 {T1 T2 T3 T4 : Type} (E : T1 → T2 → T3 → T4 → Env) (L : T1 → T2 → T3 → T4 → Loc) (G : Objs) (Φ : Nat → T1 → T2 → T3 → T4 → Prop) : Nat → St → Prop
  | mk (m : Nat) (x1 : T1) (x2 : T2) (x3 : T3) (x4 : T4) (h : Φ m x1 x2 x3 x4) : LI4 E L G Φ m ⟨E x1 x2 x3 x4, L x1 x2 x3 x4, G⟩
theorem lp4 {T1 T2 T3 T4 : Type} (E : T1 → T2 → T3 → T4 → Env) (L : T1 → T2 → T3 → T4 → Loc) (Φ : Nat → T1 → T2 → T3 → T4 → Prop) {c : Code} {m : Nat} {a1 : T1} {a2 : T2} {a3 : T3} {a4 : T4} (h0 : Φ m a1 a2 a3 a4) (hr : ∀ (m : Nat) (x1 : T1) (x2 : T2) (x3 : T3) (x4 : T4), Φ m x1 x2 x3 x4 → E1 F T (.loop (LI4 E L G Φ) m :: k) c (E x1 x2 x3 x4) (L x1 x2 x3 x4) G)
    (he : leL e (E a1 a2 a3 a4) := by ((repeat refine And.intro rfl ?_); exact trivial)) (hl : leL l (L a1 a2 a3 a4) := by ((repeat refine And.intro rfl ?_); exact trivial)) : E1 F T k (.loop c) e l G := by
  refine ⟨fun hc X A w hr0 => ?_⟩
  refine wp_loop_ghost (fun m a w => ∃ S X, LI4 E L G Φ m S ∧ Rdy F T S X a w) m ⟨⟨E a1 a2 a3 a4, L a1 a2 a3 a4, G⟩, X, LI4.mk m a1 a2 a3 a4 h0, hr0.weaken (le_of he hl rfl)⟩ ?_
  rintro m A w ⟨S, X, hS, hR⟩
  cases hS with
  | mk x1 x2 x3 x4 h =>
    refine wp_mono ((hr m x1 x2 x3 x4 h).h (by simpa only [codeOk] using hc) X A w hR) ?_
    intro x A' w' hq
    cases x with
    | normal => obtain ⟨m', S, X, h1, h2, h3⟩ := hq; exact ⟨m', h1, S, X, h2, h3⟩
    | _ => exact hq
theorem ag4 {T1 T2 T3 T4 : Type} {E : T1 → T2 → T3 → T4 → Env} {L : T1 → T2 → T3 → T4 → Loc} {Φ : Nat → T1 → T2 → T3 → T4 → Prop} {k' : List Frm} {x : Exit} {m m' : Nat} {a1 : T1} {a2 : T2} {a3 : T3} {a4 : T4} (hn : nxt k x = (.loop (LI4 E L G Φ) m :: k', .normal)) (h : Φ m' a1 a2 a3 a4) (hm : m' < m := by omega)
    (he : leL e (E a1 a2 a3 a4) := by ((repeat refine And.intro rfl ?_); exact trivial)) (hl : leL l (L a1 a2 a3 a4) := by ((repeat refine And.intro rfl ?_); exact trivial)) : E2 F T k x e l G :=
  ⟨fun X A w hr => by rw [nxt_eq, hn]; exact ⟨m', ⟨E a1 a2 a3 a4, L a1 a2 a3 a4, G⟩, X, hm, LI4.mk m' a1 a2 a3 a4 h, hr.weaken (le_of he hl rfl)⟩⟩
inductive LI5 {T1 T2 T3 T4 T5 : Type} (E : T1 → T2 → T3 → T4 → T5 → Env) (L : T1 → T2 → T3 → T4 → T5 → Loc) (G : Objs) (Φ : Nat → T1 → T2 → T3 → T4 → T5 → Prop) : Nat → St → Prop
  | mk (m : Nat) (x1 : T1) (x2 : T2) (x3 : T3) (x4 : T4) (x5 : T5) (h : Φ m x1 x2 x3 x4 x5) : LI5 E L G Φ m ⟨E x1 x2 x3 x4 x5, L x1 x2 x3 x4 x5, G⟩
theorem lp5 {T1 T2 T3 T4 T5 : Type} (E : T1 → T2 → T3 → T4 → T5 → Env) (L : T1 → T2 → T3 → T4 → T5 → Loc) (Φ : Nat → T1 → T2 → T3 → T4 → T5 → Prop) {c : Code} {m : Nat} {a1 : T1} {a2 : T2} {a3 : T3} {a4 : T4} {a5 : T5} (h0 : Φ m a1 a2 a3 a4 a5) (hr : ∀ (m : Nat) (x1 : T1) (x2 : T2) (x3 : T3) (x4 : T4) (x5 : T5), Φ m x1 x2 x3 x4 x5 → E1 F T (.loop (LI5 E L G Φ) m :: k) c (E x1 x2 x3 x4 x5) (L x1 x2 x3 x4 x5) G)
    (he : leL e (E a1 a2 a3 a4 a5) := by ((repeat refine And.intro rfl ?_); exact trivial)) (hl : leL l (L a1 a2 a3 a4 a5) := by ((repeat refine And.intro rfl ?_); exact trivial)) : E1 F T k (.loop c) e l G := by
  refine ⟨fun hc X A w hr0 => ?_⟩
  refine wp_loop_ghost (fun m a w => ∃ S X, LI5 E L G Φ m S ∧ Rdy F T S X a w) m ⟨⟨E a1 a2 a3 a4 a5, L a1 a2 a3 a4 a5, G⟩, X, LI5.mk m a1 a2 a3 a4 a5 h0, hr0.weaken (le_of he hl rfl)⟩ ?_
  rintro m A w ⟨S, X, hS, hR⟩
  cases hS with
  | mk x1 x2 x3 x4 x5 h =>
    refine wp_mono ((hr m x1 x2 x3 x4 x5 h).h (by simpa only [codeOk] using hc) X A w hR) ?_
    intro x A' w' hq
    cases x with
    | normal => obtain ⟨m', S, X, h1, h2, h3⟩ := hq; exact ⟨m', h1, S, X, h2, h3⟩
    | _ => exact hq
theorem ag5 {T1 T2 T3 T4 T5 : Type} {E : T1 → T2 → T3 → T4 → T5 → Env} {L : T1 → T2 → T3 → T4 → T5 → Loc} {Φ : Nat → T1 → T2 → T3 → T4 → T5 → Prop} {k' : List Frm} {x : Exit} {m m' : Nat} {a1 : T1} {a2 : T2} {a3 : T3} {a4 : T4} {a5 : T5} (hn : nxt k x = (.loop (LI5 E L G Φ) m :: k', .normal)) (h : Φ m' a1 a2 a3 a4 a5) (hm : m' < m := by omega)
    (he : leL e (E a1 a2 a3 a4 a5) := by ((repeat refine And.intro rfl ?_); exact trivial)) (hl : leL l (L a1 a2 a3 a4 a5) := by ((repeat refine And.intro rfl ?_); exact trivial)) : E2 F T k x e l G :=
  ⟨fun X A w hr => by rw [nxt_eq, hn]; exact ⟨m', ⟨E a1 a2 a3 a4 a5, L a1 a2 a3 a4 a5, G⟩, X, hm, LI5.mk m' a1 a2 a3 a4 a5 h, hr.weaken (le_of he hl rfl)⟩⟩
inductive LI6 {T1 T2 T3 T4 T5 T6 : Type} (E : T1 → T2 → T3 → T4 → T5 → T6 → Env) (L : T1 → T2 → T3 → T4 → T5 → T6 → Loc) (G : Objs) (Φ : Nat → T1 → T2 → T3 → T4 → T5 → T6 → Prop) : Nat → St → Prop
  | mk (m : Nat) (x1 : T1) (x2 : T2) (x3 : T3) (x4 : T4) (x5 : T5) (x6 : T6) (h : Φ m x1 x2 x3 x4 x5 x6) : LI6 E L G Φ m ⟨E x1 x2 x3 x4 x5 x6, L x1 x2 x3 x4 x5 x6, G⟩
theorem lp6 {T1 T2 T3 T4 T5 T6 : Type} (E : T1 → T2 → T3 → T4 → T5 → T6 → Env) (L : T1 → T2 → T3 → T4 → T5 → T6 → Loc) (Φ : Nat → T1 → T2 → T3 → T4 → T5 → T6 → Prop) {c : Code} {m : Nat} {a1 : T1} {a2 : T2} {a3 : T3} {a4 : T4} {a5 : T5} {a6 : T6} (h0 : Φ m a1 a2 a3 a4 a5 a6) (hr : ∀ (m : Nat) (x1 : T1) (x2 : T2) (x3 : T3) (x4 : T4) (x5 : T5) (x6 : T6), Φ m x1 x2 x3 x4 x5 x6 → E1 F T (.loop (LI6 E L G Φ) m :: k) c (E x1 x2 x3 x4 x5 x6) (L x1 x2 x3 x4 x5 x6) G)
    (he : leL e (E a1 a2 a3 a4 a5 a6) := by ((repeat refine And.intro rfl ?_); exact trivial)) (hl : leL l (L a1 a2 a3 a4 a5 a6) := by ((repeat refine And.intro rfl ?_); exact trivial)) : E1 F T k (.loop c) e l G := by
  refine ⟨fun hc X A w hr0 => ?_⟩
  refine wp_loop_ghost (fun m a w => ∃ S X, LI6 E L G Φ m S ∧ Rdy F T S X a w) m ⟨⟨E a1 a2 a3 a4 a5 a6, L a1 a2 a3 a4 a5 a6, G⟩, X, LI6.mk m a1 a2 a3 a4 a5 a6 h0, hr0.weaken (le_of he hl rfl)⟩ ?_
  rintro m A w ⟨S, X, hS, hR⟩
  cases hS with
  | mk x1 x2 x3 x4 x5 x6 h =>
    refine wp_mono ((hr m x1 x2 x3 x4 x5 x6 h).h (by simpa only [codeOk] using hc) X A w hR) ?_
    intro x A' w' hq
    cases x with
    | normal => obtain ⟨m', S, X, h1, h2, h3⟩ := hq; exact ⟨m', h1, S, X, h2, h3⟩
    | _ => exact hq
theorem ag6 {T1 T2 T3 T4 T5 T6 : Type} {E : T1 → T2 → T3 → T4 → T5 → T6 → Env} {L : T1 → T2 → T3 → T4 → T5 → T6 → Loc} {Φ : Nat → T1 → T2 → T3 → T4 → T5 → T6 → Prop} {k' : List Frm} {x : Exit} {m m' : Nat} {a1 : T1} {a2 : T2} {a3 : T3} {a4 : T4} {a5 : T5} {a6 : T6} (hn : nxt k x = (.loop (LI6 E L G Φ) m :: k', .normal)) (h : Φ m' a1 a2 a3 a4 a5 a6) (hm : m' < m := by omega)
    (he : leL e (E a1 a2 a3 a4 a5 a6) := by ((repeat refine And.intro rfl ?_); exact trivial)) (hl : leL l (L a1 a2 a3 a4 a5 a6) := by ((repeat refine And.intro rfl ?_); exact trivial)) : E2 F T k x e l G :=
  ⟨fun X A w hr => by rw [nxt_eq, hn]; exact ⟨m', ⟨E a1 a2 a3 a4 a5 a6, L a1 a2 a3 a4 a5 a6, G⟩, X, hm, LI6.mk m' a1 a2 a3 a4 a5 a6 h, hr.weaken (le_of he hl rfl)⟩⟩
inductive LI7 {T1 T2 T3 T4 T5 T6 T7 : Type} (E : T1 → T2 → T3 → T4 → T5 → T6 → T7 → Env) (L : T1 → T2 → T3 → T4 → T5 → T6 → T7 → Loc) (G : Objs) (Φ : Nat → T1 → T2 → T3 → T4 → T5 → T6 → T7 → Prop) : Nat → St → Prop
  | mk (m : Nat) (x1 : T1) (x2 : T2) (x3 : T3) (x4 : T4) (x5 : T5) (x6 : T6) (x7 : T7) (h : Φ m x1 x2 x3 x4 x5 x6 x7) : LI7 E L G Φ m ⟨E x1 x2 x3 x4 x5 x6 x7, L x1 x2 x3 x4 x5 x6 x7, G⟩
theorem lp7 {T1 T2 T3 T4 T5 T6 T7 : Type} (E : T1 → T2 → T3 → T4 → T5 → T6 → T7 → Env) (L : T1 → T2 → T3 → T4 → T5 → T6 → T7 → Loc) (Φ : Nat → T1 → T2 → T3 → T4 → T5 → T6 → T7 → Prop) {c : Code} {m : Nat} {a1 : T1} {a2 : T2} {a3 : T3} {a4 : T4} {a5 : T5} {a6 : T6} {a7 : T7} (h0 : Φ m a1 a2 a3 a4 a5 a6 a7) (hr : ∀ (m : Nat) (x1 : T1) (x2 : T2) (x3 : T3) (x4 : T4) (x5 : T5) (x6 : T6) (x7 : T7), Φ m x1 x2 x3 x4 x5 x6 x7 → E1 F T (.loop (LI7 E L G Φ) m :: k) c (E x1 x2 x3 x4 x5 x6 x7) (L x1 x2 x3 x4 x5 x6 x7) G)
    (he : leL e (E a1 a2 a3 a4 a5 a6 a7) := by ((repeat refine And.intro rfl ?_); exact trivial)) (hl : leL l (L a1 a2 a3 a4 a5 a6 a7) := by ((repeat refine And.intro rfl ?_); exact trivial)) : E1 F T k (.loop c) e l G := by
  refine ⟨fun hc X A w hr0 => ?_⟩
  refine wp_loop_ghost (fun m a w => ∃ S X, LI7 E L G Φ m S ∧ Rdy F T S X a w) m ⟨⟨E a1 a2 a3 a4 a5 a6 a7, L a1 a2 a3 a4 a5 a6 a7, G⟩, X, LI7.mk m a1 a2 a3 a4 a5 a6 a7 h0, hr0.weaken (le_of he hl rfl)⟩ ?_
  rintro m A w ⟨S, X, hS, hR⟩
  cases hS with
  | mk x1 x2 x3 x4 x5 x6 x7 h =>
    refine wp_mono ((hr m x1 x2 x3 x4 x5 x6 x7 h).h (by simpa only [codeOk] using hc) X A w hR) ?_
    intro x A' w' hq
    cases x with
    | normal => obtain ⟨m', S, X, h1, h2, h3⟩ := hq; exact ⟨m', h1, S, X, h2, h3⟩
    | _ => exact hq
theorem ag7 {T1 T2 T3 T4 T5 T6 T7 : Type} {E : T1 → T2 → T3 → T4 → T5 → T6 → T7 → Env} {L : T1 → T2 → T3 → T4 → T5 → T6 → T7 → Loc} {Φ : Nat → T1 → T2 → T3 → T4 → T5 → T6 → T7 → Prop} {k' : List Frm} {x : Exit} {m m' : Nat} {a1 : T1} {a2 : T2} {a3 : T3} {a4 : T4} {a5 : T5} {a6 : T6} {a7 : T7} (hn : nxt k x = (.loop (LI7 E L G Φ) m :: k', .normal)) (h : Φ m' a1 a2 a3 a4 a5 a6 a7) (hm : m' < m := by omega)
    (he : leL e (E a1 a2 a3 a4 a5 a6 a7) := by ((repeat refine And.intro rfl ?_); exact trivial)) (hl : leL l (L a1 a2 a3 a4 a5 a6 a7) := by ((repeat refine And.intro rfl ?_); exact trivial)) : E2 F T k x e l G :=
  ⟨fun X A w hr => by rw [nxt_eq, hn]; exact ⟨m', ⟨E a1 a2 a3 a4 a5 a6 a7, L a1 a2 a3 a4 a5 a6 a7, G⟩, X, hm, LI7.mk m' a1 a2 a3 a4 a5 a6 a7 h, hr.weaken (le_of he hl rfl)⟩⟩
inductive LI8 {T1 T2 T3 T4 T5 T6 T7 T8 : Type} (E : T1 → T2 → T3 → T4 → T5 → T6 → T7 → T8 → Env) (L : T1 → T2 → T3 → T4 → T5 → T6 → T7 → T8 → Loc) (G : Objs) (Φ : Nat → T1 → T2 → T3 → T4 → T5 → T6 → T7 → T8 → Prop) : Nat → St → Prop
  | mk (m : Nat) (x1 : T1) (x2 : T2) (x3 : T3) (x4 : T4) (x5 : T5) (x6 : T6) (x7 : T7) (x8 : T8) (h : Φ m x1 x2 x3 x4 x5 x6 x7 x8) : LI8 E L G Φ m ⟨E x1 x2 x3 x4 x5 x6 x7 x8, L x1 x2 x3 x4 x5 x6 x7 x8, G⟩
theorem lp8 {T1 T2 T3 T4 T5 T6 T7 T8 : Type} (E : T1 → T2 → T3 → T4 → T5 → T6 → T7 → T8 → Env) (L : T1 → T2 → T3 → T4 → T5 → T6 → T7 → T8 → Loc) (Φ : Nat → T1 → T2 → T3 → T4 → T5 → T6 → T7 → T8 → Prop) {c : Code} {m : Nat} {a1 : T1} {a2 : T2} {a3 : T3} {a4 : T4} {a5 : T5} {a6 : T6} {a7 : T7} {a8 : T8} (h0 : Φ m a1 a2 a3 a4 a5 a6 a7 a8) (hr : ∀ (m : Nat) (x1 : T1) (x2 : T2) (x3 : T3) (x4 : T4) (x5 : T5) (x6 : T6) (x7 : T7) (x8 : T8), Φ m x1 x2 x3 x4 x5 x6 x7 x8 → E1 F T (.loop (LI8 E L G Φ) m :: k) c (E x1 x2 x3 x4 x5 x6 x7 x8) (L x1 x2 x3 x4 x5 x6 x7 x8) G)
    (he : leL e (E a1 a2 a3 a4 a5 a6 a7 a8) := by ((repeat refine And.intro rfl ?_); exact trivial)) (hl : leL l (L a1 a2 a3 a4 a5 a6 a7 a8) := by ((repeat refine And.intro rfl ?_); exact trivial)) : E1 F T k (.loop c) e l G := by
  refine ⟨fun hc X A w hr0 => ?_⟩
  refine wp_loop_ghost (fun m a w => ∃ S X, LI8 E L G Φ m S ∧ Rdy F T S X a w) m ⟨⟨E a1 a2 a3 a4 a5 a6 a7 a8, L a1 a2 a3 a4 a5 a6 a7 a8, G⟩, X, LI8.mk m a1 a2 a3 a4 a5 a6 a7 a8 h0, hr0.weaken (le_of he hl rfl)⟩ ?_
  rintro m A w ⟨S, X, hS, hR⟩
  cases hS with
  | mk x1 x2 x3 x4 x5 x6 x7 x8 h =>
    refine wp_mono ((hr m x1 x2 x3 x4 x5 x6 x7 x8 h).h (by simpa only [codeOk] using hc) X A w hR) ?_
    intro x A' w' hq
    cases x with
    | normal => obtain ⟨m', S, X, h1, h2, h3⟩ := hq; exact ⟨m', h1, S, X, h2, h3⟩
    | _ => exact hq
theorem ag8 {T1 T2 T3 T4 T5 T6 T7 T8 : Type} {E : T1 → T2 → T3 → T4 → T5 → T6 → T7 → T8 → Env} {L : T1 → T2 → T3 → T4 → T5 → T6 → T7 → T8 → Loc} {Φ : Nat → T1 → T2 → T3 → T4 → T5 → T6 → T7 → T8 → Prop} {k' : List Frm} {x : Exit} {m m' : Nat} {a1 : T1} {a2 : T2} {a3 : T3} {a4 : T4} {a5 : T5} {a6 : T6} {a7 : T7} {a8 : T8} (hn : nxt k x = (.loop (LI8 E L G Φ) m :: k', .normal)) (h : Φ m' a1 a2 a3 a4 a5 a6 a7 a8) (hm : m' < m := by omega)
    (he : leL e (E a1 a2 a3 a4 a5 a6 a7 a8) := by ((repeat refine And.intro rfl ?_); exact trivial)) (hl : leL l (L a1 a2 a3 a4 a5 a6 a7 a8) := by ((repeat refine And.intro rfl ?_); exact trivial)) : E2 F T k x e l G :=
  ⟨fun X A w hr => by rw [nxt_eq, hn]; exact ⟨m', ⟨E a1 a2 a3 a4 a5 a6 a7 a8, L a1 a2 a3 a4 a5 a6 a7 a8, G⟩, X, hm, LI8.mk m' a1 a2 a3 a4 a5 a6 a7 a8 h, hr.weaken (le_of he hl rfl)⟩⟩
inductive LI9 {T1 T2 T3 T4 T5 T6 T7 T8 T9 : Type} (E : T1 → T2 → T3 → T4 → T5 → T6 → T7 → T8 → T9 → Env) (L : T1 → T2 → T3 → T4 → T5 → T6 → T7 → T8 → T9 → Loc) (G : Objs) (Φ : Nat → T1 → T2 → T3 → T4 → T5 → T6 → T7 → T8 → T9 → Prop) : Nat → St → Prop
  | mk (m : Nat) (x1 : T1) (x2 : T2) (x3 : T3) (x4 : T4) (x5 : T5) (x6 : T6) (x7 : T7) (x8 : T8) (x9 : T9) (h : Φ m x1 x2 x3 x4 x5 x6 x7 x8 x9) : LI9 E L G Φ m ⟨E x1 x2 x3 x4 x5 x6 x7 x8 x9, L x1 x2 x3 x4 x5 x6 x7 x8 x9, G⟩
inductive LI10 {T1 T2 T3 T4 T5 T6 T7 T8 T9 T10 : Type} (E : T1 → T2 → T3 → T4 → T5 → T6 → T7 → T8 → T9 → T10 → Env) (L : T1 → T2 → T3 → T4 → T5 → T6 → T7 → T8 → T9 → T10 → Loc) (G : Objs) (Φ : Nat → T1 → T2 → T3 → T4 → T5 → T6 → T7 → T8 → T9 → T10 → Prop) : Nat → St → Prop
  | mk (m : Nat) (x1 : T1) (x2 : T2) (x3 : T3) (x4 : T4) (x5 : T5) (x6 : T6) (x7 : T7) (x8 : T8) (x9 : T9) (x10 : T10) (h : Φ m x1 x2 x3 x4 x5 x6 x7 x8 x9 x10) : LI10 E L G Φ m ⟨E x1 x2 x3 x4 x5 x6 x7 x8 x9 x10, L x1 x2 x3 x4 x5 x6 x7 x8 x9 x10, G⟩
inductive LI11 {T1 T2 T3 T4 T5 T6 T7 T8 T9 T10 T11 : Type} (E : T1 → T2 → T3 → T4 → T5 → T6 → T7 → T8 → T9 → T10 → T11 → Env) (L : T1 → T2 → T3 → T4 → T5 → T6 → T7 → T8 → T9 → T10 → T11 → Loc) (G : Objs) (Φ : Nat → T1 → T2 → T3 → T4 → T5 → T6 → T7 → T8 → T9 → T10 → T11 → Prop) : Nat → St → Prop
  | mk (m : Nat) (x1 : T1) (x2 : T2) (x3 : T3) (x4 : T4) (x5 : T5) (x6 : T6) (x7 : T7) (x8 : T8) (x9 : T9) (x10 : T10) (x11 : T11) (h : Φ m x1 x2 x3 x4 x5 x6 x7 x8 x9 x10 x11) : LI11 E L G Φ m ⟨E x1 x2 x3 x4 x5 x6 x7 x8 x9 x10 x11, L x1 x2 x3 x4 x5 x6 x7 x8 x9 x10 x11, G⟩
inductive LI12 {T1 T2 T3 T4 T5 T6 T7 T8 T9 T10 T11 T12 : Type} (E : T1 → T2 → T3 → T4 → T5 → T6 → T7 → T8 → T9 → T10 → T11 → T12 → Env) (L : T1 → T2 → T3 → T4 → T5 → T6 → T7 → T8 → T9 → T10 → T11 → T12 → Loc) (G : Objs) (Φ : Nat → T1 → T2 → T3 → T4 → T5 → T6 → T7 → T8 → T9 → T10 → T11 → T12 → Prop) : Nat → St → Prop
  | mk (m : Nat) (x1 : T1) (x2 : T2) (x3 : T3) (x4 : T4) (x5 : T5) (x6 : T6) (x7 : T7) (x8 : T8) (x9 : T9) (x10 : T10) (x11 : T11) (x12 : T12) (h : Φ m x1 x2 x3 x4 x5 x6 x7 x8 x9 x10 x11 x12) : LI12 E L G Φ m ⟨E x1 x2 x3 x4 x5 x6 x7 x8 x9 x10 x11 x12, L x1 x2 x3 x4 x5 x6 x7 x8 x9 x10 x11 x12, G⟩
inductive LI13 {T1 T2 T3 T4 T5 T6 T7 T8 T9 T10 T11 T12 T13 : Type} (E : T1 → T2 → T3 → T4 → T5 → T6 → T7 → T8 → T9 → T10 → T11 → T12 → T13 → Env) (L : T1 → T2 → T3 → T4 → T5 → T6 → T7 → T8 → T9 → T10 → T11 → T12 → T13 → Loc) (G : Objs) (Φ : Nat → T1 → T2 → T3 → T4 → T5 → T6 → T7 → T8 → T9 → T10 → T11 → T12 → T13 → Prop) : Nat → St → Prop
  | mk (m : Nat) (x1 : T1) (x2 : T2) (x3 : T3) (x4 : T4) (x5 : T5) (x6 : T6) (x7 : T7) (x8 : T8) (x9 : T9) (x10 : T10) (x11 : T11) (x12 : T12) (x13 : T13) (h : Φ m x1 x2 x3 x4 x5 x6 x7 x8 x9 x10 x11 x12 x13) : LI13 E L G Φ m ⟨E x1 x2 x3 x4 x5 x6 x7 x8 x9 x10 x11 x12 x13, L x1 x2 x3 x4 x5 x6 x7 x8 x9 x10 x11 x12 x13, G⟩
inductive LI14 {T1 T2 T3 T4 T5 T6 T7 T8 T9 T10 T11 T12 T13 T14 : Type} (E : T1 → T2 → T3 → T4 → T5 → T6 → T7 → T8 → T9 → T10 → T11 → T12 → T13 → T14 → Env) (L : T1 → T2 → T3 → T4 → T5 → T6 → T7 → T8 → T9 → T10 → T11 → T12 → T13 → T14 → Loc) (G : Objs) (Φ : Nat → T1 → T2 → T3 → T4 → T5 → T6 → T7 → T8 → T9 → T10 → T11 → T12 → T13 → T14 → Prop) : Nat → St → Prop
  | mk (m : Nat) (x1 : T1) (x2 : T2) (x3 : T3) (x4 : T4) (x5 : T5) (x6 : T6) (x7 : T7) (x8 : T8) (x9 : T9) (x10 : T10) (x11 : T11) (x12 : T12) (x13 : T13) (x14 : T14) (h : Φ m x1 x2 x3 x4 x5 x6 x7 x8 x9 x10 x11 x12 x13 x14) : LI14 E L G Φ m ⟨E x1 x2 x3 x4 x5 x6 x7 x8 x9 x10 x11 x12 x13 x14, L x1 x2 x3 x4 x5 x6 x7 x8 x9 x10 x11 x12 x13 x14, G⟩
inductive LI15 {T1 T2 T3 T4 T5 T6 T7 T8 T9 T10 T11 T12 T13 T14 T15 : Type} (E : T1 → T2 → T3 → T4 → T5 → T6 → T7 → T8 → T9 → T10 → T11 → T12 → T13 → T14 → T15 → Env) (L : T1 → T2 → T3 → T4 → T5 → T6 → T7 → T8 → T9 → T10 → T11 → T12 → T13 → T14 → T15 → Loc) (G : Objs) (Φ : Nat → T1 → T2 → T3 → T4 → T5 → T6 → T7 → T8 → T9 → T10 → T11 → T12 → T13 → T14 → T15 → Prop) : Nat → St → Prop
  | mk (m : Nat) (x1 : T1) (x2 : T2) (x3 : T3) (x4 : T4) (x5 : T5) (x6 : T6) (x7 : T7) (x8 : T8) (x9 : T9) (x10 : T10) (x11 : T11) (x12 : T12) (x13 : T13) (x14 : T14) (x15 : T15) (h : Φ m x1 x2 x3 x4 x5 x6 x7 x8 x9 x10 x11 x12 x13 x14 x15) : LI15 E L G Φ m ⟨E x1 x2 x3 x4 x5 x6 x7 x8 x9 x10 x11 x12 x13 x14 x15, L x1 x2 x3 x4 x5 x6 x7 x8 x9 x10 x11 x12 x13 x14 x15, G⟩
inductive LI16 {T1 T2 T3 T4 T5 T6 T7 T8 T9 T10 T11 T12 T13 T14 T15 T16 : Type} (E : T1 → T2 → T3 → T4 → T5 → T6 → T7 → T8 → T9 → T10 → T11 → T12 → T13 → T14 → T15 → T16 → Env) (L : T1 → T2 → T3 → T4 → T5 → T6 → T7 → T8 → T9 → T10 → T11 → T12 → T13 → T14 → T15 → T16 → Loc) (G : Objs) (Φ : Nat → T1 → T2 → T3 → T4 → T5 → T6 → T7 → T8 → T9 → T10 → T11 → T12 → T13 → T14 → T15 → T16 → Prop) : Nat → St → Prop
  | mk (m : Nat) (x1 : T1) (x2 : T2) (x3 : T3) (x4 : T4) (x5 : T5) (x6 : T6) (x7 : T7) (x8 : T8) (x9 : T9) (x10 : T10) (x11 : T11) (x12 : T12) (x13 : T13) (x14 : T14) (x15 : T15) (x16 : T16) (h : Φ m x1 x2 x3 x4 x5 x6 x7 x8 x9 x10 x11 x12 x13 x14 x15 x16) : LI16 E L G Φ m ⟨E x1 x2 x3 x4 x5 x6 x7 x8 x9 x10 x11 x12 x13 x14 x15 x16, L x1 x2 x3 x4 x5 x6 x7 x8 x9 x10 x11 x12 x13 x14 x15 x16, G⟩
inductive LI17 {T1 T2 T3 T4 T5 T6 T7 T8 T9 T10 T11 T12 T13 T14 T15 T16 T17 : Type} (E : T1 → T2 → T3 → T4 → T5 → T6 → T7 → T8 → T9 → T10 → T11 → T12 → T13 → T14 → T15 → T16 → T17 → Env) (L : T1 → T2 → T3 → T4 → T5 → T6 → T7 → T8 → T9 → T10 → T11 → T12 → T13 → T14 → T15 → T16 → T17 → Loc) (G : Objs) (Φ : Nat → T1 → T2 → T3 → T4 → T5 → T6 → T7 → T8 → T9 → T10 → T11 → T12 → T13 → T14 → T15 → T16 → T17 → Prop) : Nat → St → Prop
  | mk (m : Nat) (x1 : T1) (x2 : T2) (x3 : T3) (x4 : T4) (x5 : T5) (x6 : T6) (x7 : T7) (x8 : T8) (x9 : T9) (x10 : T10) (x11 : T11) (x12 : T12) (x13 : T13) (x14 : T14) (x15 : T15) (x16 : T16) (x17 : T17) (h : Φ m x1 x2 x3 x4 x5 x6 x7 x8 x9 x10 x11 x12 x13 x14 x15 x16 x17) : LI17 E L G Φ m ⟨E x1 x2 x3 x4 x5 x6 x7 x8 x9 x10 x11 x12 x13 x14 x15 x16 x17, L x1 x2 x3 x4 x5 x6 x7 x8 x9 x10 x11 x12 x13 x14 x15 x16 x17, G⟩
inductive LI18 {T1 T2 T3 T4 T5 T6 T7 T8 T9 T10 T11 T12 T13 T14 T15 T16 T17 T18 : Type} (E : T1 → T2 → T3 → T4 → T5 → T6 → T7 → T8 → T9 → T10 → T11 → T12 → T13 → T14 → T15 → T16 → T17 → T18 → Env) (L : T1 → T2 → T3 → T4 → T5 → T6 → T7 → T8 → T9 → T10 → T11 → T12 → T13 → T14 → T15 → T16 → T17 → T18 → Loc) (G : Objs) (Φ : Nat → T1 → T2 → T3 → T4 → T5 → T6 → T7 → T8 → T9 → T10 → T11 → T12 → T13 → T14 → T15 → T16 → T17 → T18 → Prop) : Nat → St → Prop
  | mk (m : Nat) (x1 : T1) (x2 : T2) (x3 : T3) (x4 : T4) (x5 : T5) (x6 : T6) (x7 : T7) (x8 : T8) (x9 : T9) (x10 : T10) (x11 : T11) (x12 : T12) (x13 : T13) (x14 : T14) (x15 : T15) (x16 : T16) (x17 : T17) (x18 : T18) (h : Φ m x1 x2 x3 x4 x5 x6 x7 x8 x9 x10 x11 x12 x13 x14 x15 x16 x17 x18) : LI18 E L G Φ m ⟨E x1 x2 x3 x4 x5 x6 x7 x8 x9 x10 x11 x12 x13 x14 x15 x16 x17 x18, L x1 x2 x3 x4 x5 x6 x7 x8 x9 x10 x11 x12 x13 x14 x15 x16 x17 x18, G⟩
inductive LI19 {T1 T2 T3 T4 T5 T6 T7 T8 T9 T10 T11 T12 T13 T14 T15 T16 T17 T18 T19 : Type} (E : T1 → T2 → T3 → T4 → T5 → T6 → T7 → T8 → T9 → T10 → T11 → T12 → T13 → T14 → T15 → T16 → T17 → T18 → T19 → Env) (L : T1 → T2 → T3 → T4 → T5 → T6 → T7 → T8 → T9 → T10 → T11 → T12 → T13 → T14 → T15 → T16 → T17 → T18 → T19 → Loc) (G : Objs) (Φ : Nat → T1 → T2 → T3 → T4 → T5 → T6 → T7 → T8 → T9 → T10 → T11 → T12 → T13 → T14 → T15 → T16 → T17 → T18 → T19 → Prop) : Nat → St → Prop
  | mk (m : Nat) (x1 : T1) (x2 : T2) (x3 : T3) (x4 : T4) (x5 : T5) (x6 : T6) (x7 : T7) (x8 : T8) (x9 : T9) (x10 : T10) (x11 : T11) (x12 : T12) (x13 : T13) (x14 : T14) (x15 : T15) (x16 : T16) (x17 : T17) (x18 : T18) (x19 : T19) (h : Φ m x1 x2 x3 x4 x5 x6 x7 x8 x9 x10 x11 x12 x13 x14 x15 x16 x17 x18 x19) : LI19 E L G Φ m ⟨E x1 x2 x3 x4 x5 x6 x7 x8 x9 x10 x11 x12 x13 x14 x15 x16 x17 x18 x19, L x1 x2 x3 x4 x5 x6 x7 x8 x9 x10 x11 x12 x13 x14 x15 x16 x17 x18 x19, G⟩
inductive LI20 {T1 T2 T3 T4 T5 T6 T7 T8 T9 T10 T11 T12 T13 T14 T15 T16 T17 T18 T19 T20 : Type} (E : T1 → T2 → T3 → T4 → T5 → T6 → T7 → T8 → T9 → T10 → T11 → T12 → T13 → T14 → T15 → T16 → T17 → T18 → T19 → T20 → Env) (L : T1 → T2 → T3 → T4 → T5 → T6 → T7 → T8 → T9 → T10 → T11 → T12 → T13 → T14 → T15 → T16 → T17 → T18 → T19 → T20 → Loc) (G : Objs) (Φ : Nat → T1 → T2 → T3 → T4 → T5 → T6 → T7 → T8 → T9 → T10 → T11 → T12 → T13 → T14 → T15 → T16 → T17 → T18 → T19 → T20 → Prop) : Nat → St → Prop
  | mk (m : Nat) (x1 : T1) (x2 : T2) (x3 : T3) (x4 : T4) (x5 : T5) (x6 : T6) (x7 : T7) (x8 : T8) (x9 : T9) (x10 : T10) (x11 : T11) (x12 : T12) (x13 : T13) (x14 : T14) (x15 : T15) (x16 : T16) (x17 : T17) (x18 : T18) (x19 : T19) (x20 : T20) (h : Φ m x1 x2 x3 x4 x5 x6 x7 x8 x9 x10 x11 x12 x13 x14 x15 x16 x17 x18 x19 x20) : LI20 E L G Φ m ⟨E x1 x2 x3 x4 x5 x6 x7 x8 x9 x10 x11 x12 x13 x14 x15 x16 x17 x18 x19 x20, L x1 x2 x3 x4 x5 x6 x7 x8 x9 x10 x11 x12 x13 x14 x15 x16 x17 x18 x19 x20, G⟩
inductive LI21 {T1 T2 T3 T4 T5 T6 T7 T8 T9 T10 T11 T12 T13 T14 T15 T16 T17 T18 T19 T20 T21 : Type} (E : T1 → T2 → T3 → T4 → T5 → T6 → T7 → T8 → T9 → T10 → T11 → T12 → T13 → T14 → T15 → T16 → T17 → T18 → T19 → T20 → T21 → Env) (L : T1 → T2 → T3 → T4 → T5 → T6 → T7 → T8 → T9 → T10 → T11 → T12 → T13 → T14 → T15 → T16 → T17 → T18 → T19 → T20 → T21 → Loc) (G : Objs) (Φ : Nat → T1 → T2 → T3 → T4 → T5 → T6 → T7 → T8 → T9 → T10 → T11 → T12 → T13 → T14 → T15 → T16 → T17 → T18 → T19 → T20 → T21 → Prop) : Nat → St → Prop
  | mk (m : Nat) (x1 : T1) (x2 : T2) (x3 : T3) (x4 : T4) (x5 : T5) (x6 : T6) (x7 : T7) (x8 : T8) (x9 : T9) (x10 : T10) (x11 : T11) (x12 : T12) (x13 : T13) (x14 : T14) (x15 : T15) (x16 : T16) (x17 : T17) (x18 : T18) (x19 : T19) (x20 : T20) (x21 : T21) (h : Φ m x1 x2 x3 x4 x5 x6 x7 x8 x9 x10 x11 x12 x13 x14 x15 x16 x17 x18 x19 x20 x21) : LI21 E L G Φ m ⟨E x1 x2 x3 x4 x5 x6 x7 x8 x9 x10 x11 x12 x13 x14 x15 x16 x17 x18 x19 x20 x21, L x1 x2 x3 x4 x5 x6 x7 x8 x9 x10 x11 x12 x13 x14 x15 x16 x17 x18 x19 x20 x21, G⟩
inductive LI22 {T1 T2 T3 T4 T5 T6 T7 T8 T9 T10 T11 T12 T13 T14 T15 T16 T17 T18 T19 T20 T21 T22 : Type} (E : T1 → T2 → T3 → T4 → T5 → T6 → T7 → T8 → T9 → T10 → T11 → T12 → T13 → T14 → T15 → T16 → T17 → T18 → T19 → T20 → T21 → T22 → Env) (L : T1 → T2 → T3 → T4 → T5 → T6 → T7 → T8 → T9 → T10 → T11 → T12 → T13 → T14 → T15 → T16 → T17 → T18 → T19 → T20 → T21 → T22 → Loc) (G : Objs) (Φ : Nat → T1 → T2 → T3 → T4 → T5 → T6 → T7 → T8 → T9 → T10 → T11 → T12 → T13 → T14 → T15 → T16 → T17 → T18 → T19 → T20 → T21 → T22 → Prop) : Nat → St → Prop
  | mk (m : Nat) (x1 : T1) (x2 : T2) (x3 : T3) (x4 : T4) (x5 : T5) (x6 : T6) (x7 : T7) (x8 : T8) (x9 : T9) (x10 : T10) (x11 : T11) (x12 : T12) (x13 : T13) (x14 : T14) (x15 : T15) (x16 : T16) (x17 : T17) (x18 : T18) (x19 : T19) (x20 : T20) (x21 : T21) (x22 : T22) (h : Φ m x1 x2 x3 x4 x5 x6 x7 x8 x9 x10 x11 x12 x13 x14 x15 x16 x17 x18 x19 x20 x21 x22) : LI22 E L G Φ m ⟨E x1 x2 x3 x4 x5 x6 x7 x8 x9 x10 x11 x12 x13 x14 x15 x16 x17 x18 x19 x20 x21 x22, L x1 x2 x3 x4 x5 x6 x7 x8 x9 x10 x11 x12 x13 x14 x15 x16 x17 x18 x19 x20 x21 x22, G⟩
inductive LI23 {T1 T2 T3 T4 T5 T6 T7 T8 T9 T10 T11 T12 T13 T14 T15 T16 T17 T18 T19 T20 T21 T22 T23 : Type} (E : T1 → T2 → T3 → T4 → T5 → T6 → T7 → T8 → T9 → T10 → T11 → T12 → T13 → T14 → T15 → T16 → T17 → T18 → T19 → T20 → T21 → T22 → T23 → Env) (L : T1 → T2 → T3 → T4 → T5 → T6 → T7 → T8 → T9 → T10 → T11 → T12 → T13 → T14 → T15 → T16 → T17 → T18 → T19 → T20 → T21 → T22 → T23 → Loc) (G : Objs) (Φ : Nat → T1 → T2 → T3 → T4 → T5 → T6 → T7 → T8 → T9 → T10 → T11 → T12 → T13 → T14 → T15 → T16 → T17 → T18 → T19 → T20 → T21 → T22 → T23 → Prop) : Nat → St → Prop
  | mk (m : Nat) (x1 : T1) (x2 : T2) (x3 : T3) (x4 : T4) (x5 : T5) (x6 : T6) (x7 : T7) (x8 : T8) (x9 : T9) (x10 : T10) (x11 : T11) (x12 : T12) (x13 : T13) (x14 : T14) (x15 : T15) (x16 : T16) (x17 : T17) (x18 : T18) (x19 : T19) (x20 : T20) (x21 : T21) (x22 : T22) (x23 : T23) (h : Φ m x1 x2 x3 x4 x5 x6 x7 x8 x9 x10 x11 x12 x13 x14 x15 x16 x17 x18 x19 x20 x21 x22 x23) : LI23 E L G Φ m ⟨E x1 x2 x3 x4 x5 x6 x7 x8 x9 x10 x11 x12 x13 x14 x15 x16 x17 x18 x19 x20 x21 x22 x23, L x1 x2 x3 x4 x5 x6 x7 x8 x9 x10 x11 x12 x13 x14 x15 x16 x17 x18 x19 x20 x21 x22 x23, G⟩
inductive LI24 {T1 T2 T3 T4 T5 T6 T7 T8 T9 T10 T11 T12 T13 T14 T15 T16 T17 T18 T19 T20 T21 T22 T23 T24 : Type} (E : T1 → T2 → T3 → T4 → T5 → T6 → T7 → T8 → T9 → T10 → T11 → T12 → T13 → T14 → T15 → T16 → T17 → T18 → T19 → T20 → T21 → T22 → T23 → T24 → Env) (L : T1 → T2 → T3 → T4 → T5 → T6 → T7 → T8 → T9 → T10 → T11 → T12 → T13 → T14 → T15 → T16 → T17 → T18 → T19 → T20 → T21 → T22 → T23 → T24 → Loc) (G : Objs) (Φ : Nat → T1 → T2 → T3 → T4 → T5 → T6 → T7 → T8 → T9 → T10 → T11 → T12 → T13 → T14 → T15 → T16 → T17 → T18 → T19 → T20 → T21 → T22 → T23 → T24 → Prop) : Nat → St → Prop
  | mk (m : Nat) (x1 : T1) (x2 : T2) (x3 : T3) (x4 : T4) (x5 : T5) (x6 : T6) (x7 : T7) (x8 : T8) (x9 : T9) (x10 : T10) (x11 : T11) (x12 : T12) (x13 : T13) (x14 : T14) (x15 : T15) (x16 : T16) (x17 : T17) (x18 : T18) (x19 : T19) (x20 : T20) (x21 : T21) (x22 : T22) (x23 : T23) (x24 : T24) (h : Φ m x1 x2 x3 x4 x5 x6 x7 x8 x9 x10 x11 x12 x13 x14 x15 x16 x17 x18 x19 x20 x21 x22 x23 x24) : LI24 E L G Φ m ⟨E x1 x2 x3 x4 x5 x6 x7 x8 x9 x10 x11 x12 x13 x14 x15 x16 x17 x18 x19 x20 x21 x22 x23 x24, L x1 x2 x3 x4 x5 x6 x7 x8 x9 x10 x11 x12 x13 x14 x15 x16 x17 x18 x19 x20 x21 x22 x23 x24, G⟩
end Go.AL
end
section
set_option linter.unusedVariables false
set_option linter.unusedSimpArgs false
namespace Go.AL
open Enc
variable {F : Cfg} {T : Task F} {k : List Frm} {K Q : St → Prop} {e e' : Env} {l l' : Loc} {G : Objs} {ops : Array Oper} {o : Oper} {os : List Oper} {n : Nat}
theorem apl_wop {α : Type} {iE : Enc α} {ys : List α} {c : Call} {b s : Operand} {q : Pl} {t t1 t2 el sz by_ sz2 by2 el2 cw : Nat} {z z2 : List AV} {d : TD} {vs : AV} {cs : List (List AV)} {m : List α} (ho : o.op = .call c) (hc : c.callee = .builtin .append)
    (ha : c.args.toList = [b, s]) (hb : c.argTypes.toList = [t1, t2]) (hdst : o.dst = some t) (h1 : lk F.Δ t1 = some ⟨.slice el, sz, by_, z⟩) (h2 : lk F.Δ t2 = some ⟨.slice el2, sz2, by2, z2⟩)
    (hd : lk F.Δ el = some d) (hs : St.val ⟨e, l, G⟩ s = some vs) (hm : St.slOf ⟨e, l, G⟩ vs = some cs) (hb' : St.val ⟨e, l, G⟩ b = some (.view q)) (hu : St.ownAt ⟨e, l, G⟩ q = some (cw, m.map enc)) (hcw : cw = d.size) (hq : (F.qt && anyG q) = false)
    (a1 : d.zero.length = d.size) (a2 : (match d.k with | .tup | .fn => False | _ => True)) (a3 : 0 < d.bytes) (hx : cs = ys.map enc) (a4 : w α = d.size) (a5 : ∀ x : α, (enc x).all AV.leaf = true)
    (a6 : (m.length + ys.length) * d.bytes ≤ 140737488355328) : wop F.P F.Δ F.qt F.gs ⟨e, l, G⟩ o (fun S => S = St.put (St.take ⟨e, l, G⟩ q) t (.own d.size ((m ++ ys).map enc))) := by
  subst hx hcw
  have hok : apOk d (m.map enc) (ys.map enc) := by
    refine ⟨a1, a2, a3, ?_, ?_, by simpa using a6⟩
    · intro es hes
      obtain ⟨y, _, rfl⟩ := List.mem_map.1 hes; rw [Enc.hw, a4]
    · rw [List.all_eq_true]
      intro y hy
      obtain ⟨cs, h1, h2⟩ := List.mem_flatten.1 hy
      obtain ⟨x, _, rfl⟩ := List.mem_map.1 h1
      exact List.all_eq_true.1 (a5 x) y h2
  unfold wop
  rw [ho]
  simp only [hc, ha, hb]
  refine .inl ?_
  unfold wappend
  simp only [h1, h2, hdst, hd, hs, hm, hb', hu]
  exact ⟨hq, trivial, hok, by rw [List.map_append]⟩
theorem oAl {α : Type} {iE : Enc α} (x : α) {c : Call} {b s : Operand} {q : Pl} {t t1 t2 el sz by_ sz2 by2 el2 cw : Nat} {z z2 : List AV} {d : TD} {vs : AV} {m : List α} {S' : St} {cs : List AV} (hk : E3 F T k ops os e' l' G) (ho : o.op = .call c := by exact rfl) (hc : c.callee = .builtin .append := by exact rfl)
    (ha : c.args.toList = [b, s] := by exact rfl) (hb : c.argTypes.toList = [t1, t2] := by exact rfl) (hdst : o.dst = some t := by exact rfl) (hg : o.guard = none := by exact rfl) (h1 : lk F.Δ t1 = some ⟨.slice el, sz, by_, z⟩ := by exact rfl) (h2 : lk F.Δ t2 = some ⟨.slice el2, sz2, by2, z2⟩ := by exact rfl)
    (hd : lk F.Δ el = some d := by exact rfl) (hb' : St.val ⟨e, l, G⟩ b = some (.view q) := by exact rfl) (hu : St.ownAt ⟨e, l, G⟩ q = some (cw, m.map enc) := by exact rfl) (hcw : cw = d.size := by exact rfl) (hs : St.val ⟨e, l, G⟩ s = some vs := by exact rfl) (hm : St.slOf ⟨e, l, G⟩ vs = some ([cs]) := by exact rfl) (hx : cs = enc x := by exact rfl) (hq : (F.qt && anyG q) = false := by exact rfl)
    (a1 : d.zero.length = d.size := by exact rfl) (a2 : (match d.k with | .tup | .fn => False | _ => True) := by exact trivial) (a3 : 0 < d.bytes := by exact Nat.le_of_ble_eq_true rfl) (a4 : w α = d.size := by exact rfl) (a5 : ∀ x : α, (enc x).all AV.leaf = true := by exact fun _ => rfl)
    (a6 : (m.length + 1) * d.bytes ≤ 140737488355328 := by (try dsimp only); omega)
    (hS : St.put (St.take ⟨e, l, G⟩ q) t (.own d.size ((m ++ [x]).map enc)) = S' := by exact rfl)
    (he : S'.env = e' := by ((repeat (refine nlc (m' := ?_) rfl ?_; rotate_left)); exact nln rfl)) (hl : S'.loc = l' := by ((repeat (refine nlp (x' := ?_) (m' := ?_) rfl ?_ ?_; rotate_left 2; focus ((repeat (first | (refine nlc (p := AV.int _ _) (m' := ?_) rfl ?_; rotate_left) | (refine nlc (p := AV.sl _) (m' := ?_) rfl ?_; rotate_left) | (refine nlc (p := AV.bool _) (m' := ?_) rfl ?_; rotate_left) | (refine nlc (p := AV.own _ _) (m' := ?_) rfl ?_; rotate_left) | (refine nlc (p := AV.str _) (m' := ?_) rfl ?_; rotate_left) | (refine nlc (p := AV.emp) (m' := ?_) rfl ?_; rotate_left) | (refine nlc (p := AV.junk) (m' := ?_) rfl ?_; rotate_left) | (refine nlc (p := AV.nilp) (m' := ?_) rfl ?_; rotate_left) | (refine nlc (p := AV.ptrF _) (m' := ?_) rfl ?_; rotate_left) | (refine nlc (p := AV.fn _ _) (m' := ?_) rfl ?_; rotate_left) | (refine nlc (p := AV.ptr _ _) (m' := ?_) rfl ?_; rotate_left))); exact nln rfl))); exact nln rfl)) (hG : S'.G = G := by exact rfl) : E3 F T k ops (o :: os) e l G :=
  o_none hg (apl_wop (ys := [x]) ho hc ha hb hdst h1 h2 hd hs hm hb' hu hcw hq a1 a2 a3 (by rw [hx]; rfl) a4 a5 (by simpa using a6)) (fun S'' hS'' hΔ hd X a w hr => hk.h hΔ hd X a w (by rw [← st_of he hl hG, ← hS, ← hS'']; exact hr))
theorem oMl {α : Type} {iE : Enc α} {ys : List α} {c : Call} {b s : Operand} {q : Pl} {t t1 t2 el sz by_ sz2 by2 el2 cw : Nat} {z z2 : List AV} {d : TD} {vs : AV} {m : List α} {S' : St} (hk : E3 F T k ops os e' l' G) (ho : o.op = .call c := by exact rfl) (hc : c.callee = .builtin .append := by exact rfl)
    (ha : c.args.toList = [b, s] := by exact rfl) (hb : c.argTypes.toList = [t1, t2] := by exact rfl) (hdst : o.dst = some t := by exact rfl) (hg : o.guard = none := by exact rfl) (h1 : lk F.Δ t1 = some ⟨.slice el, sz, by_, z⟩ := by exact rfl) (h2 : lk F.Δ t2 = some ⟨.slice el2, sz2, by2, z2⟩ := by exact rfl)
    (hd : lk F.Δ el = some d := by exact rfl) (hb' : St.val ⟨e, l, G⟩ b = some (.view q) := by exact rfl) (hu : St.ownAt ⟨e, l, G⟩ q = some (cw, m.map enc) := by exact rfl) (hcw : cw = d.size := by exact rfl) (hs : St.val ⟨e, l, G⟩ s = some vs := by exact rfl) (hm : St.slOf ⟨e, l, G⟩ vs = some (ys.map enc) := by exact rfl) (hq : (F.qt && anyG q) = false := by exact rfl)
    (a1 : d.zero.length = d.size := by exact rfl) (a2 : (match d.k with | .tup | .fn => False | _ => True) := by exact trivial) (a3 : 0 < d.bytes := by exact Nat.le_of_ble_eq_true rfl) (a4 : w α = d.size := by exact rfl) (a5 : ∀ x : α, (enc x).all AV.leaf = true := by exact fun _ => rfl)
    (a6 : (m.length + ys.length) * d.bytes ≤ 140737488355328 := by (try dsimp only); omega)
    (hS : St.put (St.take ⟨e, l, G⟩ q) t (.own d.size ((m ++ ys).map enc)) = S' := by exact rfl)
    (he : S'.env = e' := by ((repeat (refine nlc (m' := ?_) rfl ?_; rotate_left)); exact nln rfl)) (hl : S'.loc = l' := by ((repeat (refine nlp (x' := ?_) (m' := ?_) rfl ?_ ?_; rotate_left 2; focus ((repeat (first | (refine nlc (p := AV.int _ _) (m' := ?_) rfl ?_; rotate_left) | (refine nlc (p := AV.sl _) (m' := ?_) rfl ?_; rotate_left) | (refine nlc (p := AV.bool _) (m' := ?_) rfl ?_; rotate_left) | (refine nlc (p := AV.own _ _) (m' := ?_) rfl ?_; rotate_left) | (refine nlc (p := AV.str _) (m' := ?_) rfl ?_; rotate_left) | (refine nlc (p := AV.emp) (m' := ?_) rfl ?_; rotate_left) | (refine nlc (p := AV.junk) (m' := ?_) rfl ?_; rotate_left) | (refine nlc (p := AV.nilp) (m' := ?_) rfl ?_; rotate_left) | (refine nlc (p := AV.ptrF _) (m' := ?_) rfl ?_; rotate_left) | (refine nlc (p := AV.fn _ _) (m' := ?_) rfl ?_; rotate_left) | (refine nlc (p := AV.ptr _ _) (m' := ?_) rfl ?_; rotate_left))); exact nln rfl))); exact nln rfl)) (hG : S'.G = G := by exact rfl) : E3 F T k ops (o :: os) e l G :=
  o_none hg (apl_wop (ys := ys) ho hc ha hb hdst h1 h2 hd hs hm hb' hu hcw hq a1 a2 a3 rfl a4 a5 (by simpa using a6)) (fun S'' hS'' hΔ hd X a w hr => hk.h hΔ hd X a w (by rw [← st_of he hl hG, ← hS, ← hS'']; exact hr))
theorem tAl {α : Type} {iE : Enc α} (x : α) {c : Call} {b s : Operand} {q : Pl} {t t1 t2 el sz by_ sz2 by2 el2 cw : Nat} {z z2 : List AV} {d : TD} {vs : AV} {m : List α} {S' : St} {cs : List AV} (hk : E5 F Q ops os e' l' G) (ho : o.op = .call c := by exact rfl) (hc : c.callee = .builtin .append := by exact rfl)
    (ha : c.args.toList = [b, s] := by exact rfl) (hb : c.argTypes.toList = [t1, t2] := by exact rfl) (hdst : o.dst = some t := by exact rfl) (hg : o.guard = none := by exact rfl) (h1 : lk F.Δ t1 = some ⟨.slice el, sz, by_, z⟩ := by exact rfl) (h2 : lk F.Δ t2 = some ⟨.slice el2, sz2, by2, z2⟩ := by exact rfl)
    (hd : lk F.Δ el = some d := by exact rfl) (hb' : St.val ⟨e, l, G⟩ b = some (.view q) := by exact rfl) (hu : St.ownAt ⟨e, l, G⟩ q = some (cw, m.map enc) := by exact rfl) (hcw : cw = d.size := by exact rfl) (hs : St.val ⟨e, l, G⟩ s = some vs := by exact rfl) (hm : St.slOf ⟨e, l, G⟩ vs = some ([cs]) := by exact rfl) (hx : cs = enc x := by exact rfl) (hq : (F.qt && anyG q) = false := by exact rfl)
    (a1 : d.zero.length = d.size := by exact rfl) (a2 : (match d.k with | .tup | .fn => False | _ => True) := by exact trivial) (a3 : 0 < d.bytes := by exact Nat.le_of_ble_eq_true rfl) (a4 : w α = d.size := by exact rfl) (a5 : ∀ x : α, (enc x).all AV.leaf = true := by exact fun _ => rfl)
    (a6 : (m.length + 1) * d.bytes ≤ 140737488355328 := by (try dsimp only); omega)
    (hS : St.put (St.take ⟨e, l, G⟩ q) t (.own d.size ((m ++ [x]).map enc)) = S' := by exact rfl)
    (he : S'.env = e' := by ((repeat (refine nlc (m' := ?_) rfl ?_; rotate_left)); exact nln rfl)) (hl : S'.loc = l' := by ((repeat (refine nlp (x' := ?_) (m' := ?_) rfl ?_ ?_; rotate_left 2; focus ((repeat (first | (refine nlc (p := AV.int _ _) (m' := ?_) rfl ?_; rotate_left) | (refine nlc (p := AV.sl _) (m' := ?_) rfl ?_; rotate_left) | (refine nlc (p := AV.bool _) (m' := ?_) rfl ?_; rotate_left) | (refine nlc (p := AV.own _ _) (m' := ?_) rfl ?_; rotate_left) | (refine nlc (p := AV.str _) (m' := ?_) rfl ?_; rotate_left) | (refine nlc (p := AV.emp) (m' := ?_) rfl ?_; rotate_left) | (refine nlc (p := AV.junk) (m' := ?_) rfl ?_; rotate_left) | (refine nlc (p := AV.nilp) (m' := ?_) rfl ?_; rotate_left) | (refine nlc (p := AV.ptrF _) (m' := ?_) rfl ?_; rotate_left) | (refine nlc (p := AV.fn _ _) (m' := ?_) rfl ?_; rotate_left) | (refine nlc (p := AV.ptr _ _) (m' := ?_) rfl ?_; rotate_left))); exact nln rfl))); exact nln rfl)) (hG : S'.G = G := by exact rfl) : E5 F Q ops (o :: os) e l G :=
  ⟨by simp only [evOps, hg]; exact wop_mono (fun S hS'' => by rw [hS'', hS, st_of he hl hG]; exact hk.h) (apl_wop (ys := [x]) ho hc ha hb hdst h1 h2 hd hs hm hb' hu hcw hq a1 a2 a3 (by rw [hx]; rfl) a4 a5 (by simpa using a6))⟩
theorem tMl {α : Type} {iE : Enc α} {ys : List α} {c : Call} {b s : Operand} {q : Pl} {t t1 t2 el sz by_ sz2 by2 el2 cw : Nat} {z z2 : List AV} {d : TD} {vs : AV} {m : List α} {S' : St} (hk : E5 F Q ops os e' l' G) (ho : o.op = .call c := by exact rfl) (hc : c.callee = .builtin .append := by exact rfl)
    (ha : c.args.toList = [b, s] := by exact rfl) (hb : c.argTypes.toList = [t1, t2] := by exact rfl) (hdst : o.dst = some t := by exact rfl) (hg : o.guard = none := by exact rfl) (h1 : lk F.Δ t1 = some ⟨.slice el, sz, by_, z⟩ := by exact rfl) (h2 : lk F.Δ t2 = some ⟨.slice el2, sz2, by2, z2⟩ := by exact rfl)
    (hd : lk F.Δ el = some d := by exact rfl) (hb' : St.val ⟨e, l, G⟩ b = some (.view q) := by exact rfl) (hu : St.ownAt ⟨e, l, G⟩ q = some (cw, m.map enc) := by exact rfl) (hcw : cw = d.size := by exact rfl) (hs : St.val ⟨e, l, G⟩ s = some vs := by exact rfl) (hm : St.slOf ⟨e, l, G⟩ vs = some (ys.map enc) := by exact rfl) (hq : (F.qt && anyG q) = false := by exact rfl)
    (a1 : d.zero.length = d.size := by exact rfl) (a2 : (match d.k with | .tup | .fn => False | _ => True) := by exact trivial) (a3 : 0 < d.bytes := by exact Nat.le_of_ble_eq_true rfl) (a4 : w α = d.size := by exact rfl) (a5 : ∀ x : α, (enc x).all AV.leaf = true := by exact fun _ => rfl)
    (a6 : (m.length + ys.length) * d.bytes ≤ 140737488355328 := by (try dsimp only); omega)
    (hS : St.put (St.take ⟨e, l, G⟩ q) t (.own d.size ((m ++ ys).map enc)) = S' := by exact rfl)
    (he : S'.env = e' := by ((repeat (refine nlc (m' := ?_) rfl ?_; rotate_left)); exact nln rfl)) (hl : S'.loc = l' := by ((repeat (refine nlp (x' := ?_) (m' := ?_) rfl ?_ ?_; rotate_left 2; focus ((repeat (first | (refine nlc (p := AV.int _ _) (m' := ?_) rfl ?_; rotate_left) | (refine nlc (p := AV.sl _) (m' := ?_) rfl ?_; rotate_left) | (refine nlc (p := AV.bool _) (m' := ?_) rfl ?_; rotate_left) | (refine nlc (p := AV.own _ _) (m' := ?_) rfl ?_; rotate_left) | (refine nlc (p := AV.str _) (m' := ?_) rfl ?_; rotate_left) | (refine nlc (p := AV.emp) (m' := ?_) rfl ?_; rotate_left) | (refine nlc (p := AV.junk) (m' := ?_) rfl ?_; rotate_left) | (refine nlc (p := AV.nilp) (m' := ?_) rfl ?_; rotate_left) | (refine nlc (p := AV.ptrF _) (m' := ?_) rfl ?_; rotate_left) | (refine nlc (p := AV.fn _ _) (m' := ?_) rfl ?_; rotate_left) | (refine nlc (p := AV.ptr _ _) (m' := ?_) rfl ?_; rotate_left))); exact nln rfl))); exact nln rfl)) (hG : S'.G = G := by exact rfl) : E5 F Q ops (o :: os) e l G :=
  ⟨by simp only [evOps, hg]; exact wop_mono (fun S hS'' => by rw [hS'', hS, st_of he hl hG]; exact hk.h) (apl_wop (ys := ys) ho hc ha hb hdst h1 h2 hd hs hm hb' hu hcw hq a1 a2 a3 rfl a4 a5 (by simpa using a6))⟩
theorem tA {α : Type} {iE : Enc α} (x : α) {c : Call} {b s : Operand} {t t1 t2 u el sz by_ sz2 by2 el2 cw : Nat} {z z2 : List AV} {d : TD} {vs : AV} {cs : List AV} {m : List α} (hk : E5 F Q ops os e' l G) (ho : o.op = .call c := by exact rfl) (hc : c.callee = .builtin .append := by exact rfl)
    (ha : c.args.toList = [b, s] := by exact rfl) (hb : c.argTypes.toList = [t1, t2] := by exact rfl) (hdst : o.dst = some t := by exact rfl) (hg : o.guard = none := by exact rfl) (h1 : lk F.Δ t1 = some ⟨.slice el, sz, by_, z⟩ := by exact rfl) (h2 : lk F.Δ t2 = some ⟨.slice el2, sz2, by2, z2⟩ := by exact rfl)
    (hd : lk F.Δ el = some d := by exact rfl) (hs : St.val ⟨e, l, G⟩ s = some vs := by exact rfl) (hm : St.slOf ⟨e, l, G⟩ vs = some [cs] := by exact rfl) (hb' : b = .tmp u := by exact rfl) (hu : lk e u = some (.own cw (m.map enc)) := by exact rfl) (hcw : cw = d.size := by exact rfl)
    (a1 : d.zero.length = d.size := by exact rfl) (a2 : (match d.k with | .tup | .fn => False | _ => True) := by exact trivial) (a3 : 0 < d.bytes := by exact Nat.le_of_ble_eq_true rfl) (hx : cs = enc x := by exact rfl) (a4 : w α = d.size := by exact rfl) (a5 : (enc x).all AV.leaf = true := by exact rfl)
    (a6 : (m.length + 1) * d.bytes ≤ 140737488355328 := by (try dsimp only); omega)
    (he : (St.put (St.take ⟨e, l, G⟩ (.t u)) t (.own d.size ((m ++ [x]).map enc))).env = e' := by ((repeat (refine nlc (m' := ?_) rfl ?_; rotate_left)); exact nln rfl)) (hl : (St.put (St.take ⟨e, l, G⟩ (.t u)) t (.own d.size ((m ++ [x]).map enc))).loc = l := by exact rfl) (hG : (St.put (St.take ⟨e, l, G⟩ (.t u)) t (.own d.size ((m ++ [x]).map enc))).G = G := by exact rfl) : E5 F Q ops (o :: os) e l G := by
  subst hx hb' hcw
  have hok : apOk d (m.map enc) ([enc x]) := by
    refine ⟨a1, a2, a3, ?_, ?_, by simpa using a6⟩
    · intro es hes
      rw [List.mem_singleton.1 hes, Enc.hw, a4]
    · simpa using a5
  have hw : wop F.P F.Δ F.qt F.gs ⟨e, l, G⟩ o (fun S => S = ⟨e', l, G⟩) := by
    unfold wop
    rw [ho]
    simp only [hc, ha, hb]
    refine .inl ?_
    unfold wappend
    have e1 : m.map enc ++ [enc x] = (m ++ [x]).map enc := by simp
    have hu' : St.val ⟨e, l, G⟩ (.tmp u) = some (.own d.size (m.map enc)) := hu
    simp only [h1, h2, hdst, hd, hs, hm, hu']
    exact ⟨trivial, hok, by rw [e1, st_of he hl hG]⟩
  exact ⟨by simp only [evOps, hg]; exact wop_mono (fun S hS => by rw [hS]; exact hk.h) hw⟩
theorem tAe {α : Type} [iE : Enc α] (x : α) {c : Call} {b s : Operand} {t t1 t2 el sz by_ sz2 by2 el2 : Nat} {z z2 : List AV} {d : TD} {vs : AV} {cs : List AV} (hk : E5 F Q ops os e' l G) (ho : o.op = .call c := by exact rfl) (hc : c.callee = .builtin .append := by exact rfl)
    (ha : c.args.toList = [b, s] := by exact rfl) (hb : c.argTypes.toList = [t1, t2] := by exact rfl) (hdst : o.dst = some t := by exact rfl) (hg : o.guard = none := by exact rfl) (h1 : lk F.Δ t1 = some ⟨.slice el, sz, by_, z⟩ := by exact rfl) (h2 : lk F.Δ t2 = some ⟨.slice el2, sz2, by2, z2⟩ := by exact rfl)
    (hd : lk F.Δ el = some d := by exact rfl) (hs : St.val ⟨e, l, G⟩ s = some vs := by exact rfl) (hm : St.slOf ⟨e, l, G⟩ vs = some [cs] := by exact rfl) (hb' : St.val ⟨e, l, G⟩ b = some .emp := by exact rfl)
    (a1 : d.zero.length = d.size := by exact rfl) (a2 : (match d.k with | .tup | .fn => False | _ => True) := by exact trivial) (a3 : 0 < d.bytes := by exact Nat.le_of_ble_eq_true rfl) (hx : cs = enc x := by exact rfl) (a4 : w α = d.size := by exact rfl) (a5 : (enc x).all AV.leaf = true := by exact rfl)
    (a6 : (1) * d.bytes ≤ 140737488355328 := by (try dsimp only); omega)
    (he : (St.put ⟨e, l, G⟩ t (.own d.size ((([] : List α) ++ [x]).map enc))).env = e' := by ((repeat (refine nlc (m' := ?_) rfl ?_; rotate_left)); exact nln rfl)) (hl : (St.put ⟨e, l, G⟩ t (.own d.size ((([] : List α) ++ [x]).map enc))).loc = l := by exact rfl) (hG : (St.put ⟨e, l, G⟩ t (.own d.size ((([] : List α) ++ [x]).map enc))).G = G := by exact rfl) : E5 F Q ops (o :: os) e l G := by
  subst hx 
  have hok : apOk d ([]) ([enc x]) := by
    refine ⟨a1, a2, a3, ?_, ?_, by simpa using a6⟩
    · intro es hes
      rw [List.mem_singleton.1 hes, Enc.hw, a4]
    · simpa using a5
  have hw : wop F.P F.Δ F.qt F.gs ⟨e, l, G⟩ o (fun S => S = ⟨e', l, G⟩) := by
    unfold wop
    rw [ho]
    simp only [hc, ha, hb]
    refine .inl ?_
    unfold wappend
    have e1 : ([] : List (List AV)) ++ [enc x] = (([] : List α) ++ [x]).map enc := by simp
    simp only [h1, h2, hdst, hd, hs, hm, hb']
    refine ⟨hok, ?_⟩
    have e2 : [enc x] = (([] : List α) ++ [x]).map enc := by simp
    rw [e2, st_of he hl hG]
  exact ⟨by simp only [evOps, hg]; exact wop_mono (fun S hS => by rw [hS]; exact hk.h) hw⟩
theorem tM {α : Type} {iE : Enc α} {c : Call} {b s : Operand} {t t1 t2 u el sz by_ sz2 by2 el2 cw : Nat} {z z2 : List AV} {d : TD} {vs : AV} {ys : List α} {m : List α} (hk : E5 F Q ops os e' l G) (ho : o.op = .call c := by exact rfl) (hc : c.callee = .builtin .append := by exact rfl)
    (ha : c.args.toList = [b, s] := by exact rfl) (hb : c.argTypes.toList = [t1, t2] := by exact rfl) (hdst : o.dst = some t := by exact rfl) (hg : o.guard = none := by exact rfl) (h1 : lk F.Δ t1 = some ⟨.slice el, sz, by_, z⟩ := by exact rfl) (h2 : lk F.Δ t2 = some ⟨.slice el2, sz2, by2, z2⟩ := by exact rfl)
    (hd : lk F.Δ el = some d := by exact rfl) (hs : St.val ⟨e, l, G⟩ s = some vs := by exact rfl) (hm : St.slOf ⟨e, l, G⟩ vs = some (ys.map enc) := by exact rfl) (hb' : b = .tmp u := by exact rfl) (hu : lk e u = some (.own cw (m.map enc)) := by exact rfl) (hcw : cw = d.size := by exact rfl)
    (a1 : d.zero.length = d.size := by exact rfl) (a2 : (match d.k with | .tup | .fn => False | _ => True) := by exact trivial) (a3 : 0 < d.bytes := by exact Nat.le_of_ble_eq_true rfl) (a4 : w α = d.size := by exact rfl) (a5 : ∀ x : α, (enc x).all AV.leaf = true := by exact fun _ => rfl)
    (a6 : (m.length + ys.length) * d.bytes ≤ 140737488355328 := by (try dsimp only); omega)
    (he : (St.put (St.take ⟨e, l, G⟩ (.t u)) t (.own d.size ((m ++ ys).map enc))).env = e' := by ((repeat (refine nlc (m' := ?_) rfl ?_; rotate_left)); exact nln rfl)) (hl : (St.put (St.take ⟨e, l, G⟩ (.t u)) t (.own d.size ((m ++ ys).map enc))).loc = l := by exact rfl) (hG : (St.put (St.take ⟨e, l, G⟩ (.t u)) t (.own d.size ((m ++ ys).map enc))).G = G := by exact rfl) : E5 F Q ops (o :: os) e l G := by
  subst hb' hcw
  have hok : apOk d (m.map enc) (ys.map enc) := by
    refine ⟨a1, a2, a3, ?_, ?_, by simpa using a6⟩
    · intro es hes
      obtain ⟨y, _, rfl⟩ := List.mem_map.1 hes; rw [Enc.hw, a4]
    · rw [List.all_eq_true]
      intro y hy
      obtain ⟨cs, h1, h2⟩ := List.mem_flatten.1 hy
      obtain ⟨x, _, rfl⟩ := List.mem_map.1 h1
      exact List.all_eq_true.1 (a5 x) y h2
  have hw : wop F.P F.Δ F.qt F.gs ⟨e, l, G⟩ o (fun S => S = ⟨e', l, G⟩) := by
    unfold wop
    rw [ho]
    simp only [hc, ha, hb]
    refine .inl ?_
    unfold wappend
    have e1 : m.map enc ++ ys.map enc = (m ++ ys).map enc := by simp
    have hu' : St.val ⟨e, l, G⟩ (.tmp u) = some (.own d.size (m.map enc)) := hu
    simp only [h1, h2, hdst, hd, hs, hm, hu']
    exact ⟨trivial, hok, by rw [e1, st_of he hl hG]⟩
  exact ⟨by simp only [evOps, hg]; exact wop_mono (fun S hS => by rw [hS]; exact hk.h) hw⟩
theorem tMe {α : Type} {iE : Enc α} {c : Call} {b s : Operand} {t t1 t2 el sz by_ sz2 by2 el2 : Nat} {z z2 : List AV} {d : TD} {vs : AV} {ys : List α} (hk : E5 F Q ops os e' l G) (ho : o.op = .call c := by exact rfl) (hc : c.callee = .builtin .append := by exact rfl)
    (ha : c.args.toList = [b, s] := by exact rfl) (hb : c.argTypes.toList = [t1, t2] := by exact rfl) (hdst : o.dst = some t := by exact rfl) (hg : o.guard = none := by exact rfl) (h1 : lk F.Δ t1 = some ⟨.slice el, sz, by_, z⟩ := by exact rfl) (h2 : lk F.Δ t2 = some ⟨.slice el2, sz2, by2, z2⟩ := by exact rfl)
    (hd : lk F.Δ el = some d := by exact rfl) (hs : St.val ⟨e, l, G⟩ s = some vs := by exact rfl) (hm : St.slOf ⟨e, l, G⟩ vs = some (ys.map enc) := by exact rfl) (hb' : St.val ⟨e, l, G⟩ b = some .emp := by exact rfl)
    (a1 : d.zero.length = d.size := by exact rfl) (a2 : (match d.k with | .tup | .fn => False | _ => True) := by exact trivial) (a3 : 0 < d.bytes := by exact Nat.le_of_ble_eq_true rfl) (a4 : w α = d.size := by exact rfl) (a5 : ∀ x : α, (enc x).all AV.leaf = true := by exact fun _ => rfl)
    (a6 : (ys.length) * d.bytes ≤ 140737488355328 := by (try dsimp only); omega)
    (he : (St.put ⟨e, l, G⟩ t (.own d.size ((([] : List α) ++ ys).map enc))).env = e' := by ((repeat (refine nlc (m' := ?_) rfl ?_; rotate_left)); exact nln rfl)) (hl : (St.put ⟨e, l, G⟩ t (.own d.size ((([] : List α) ++ ys).map enc))).loc = l := by exact rfl) (hG : (St.put ⟨e, l, G⟩ t (.own d.size ((([] : List α) ++ ys).map enc))).G = G := by exact rfl) : E5 F Q ops (o :: os) e l G := by
  have hok : apOk d ([]) (ys.map enc) := by
    refine ⟨a1, a2, a3, ?_, ?_, by simpa using a6⟩
    · intro es hes
      obtain ⟨y, _, rfl⟩ := List.mem_map.1 hes; rw [Enc.hw, a4]
    · rw [List.all_eq_true]
      intro y hy
      obtain ⟨cs, h1, h2⟩ := List.mem_flatten.1 hy
      obtain ⟨x, _, rfl⟩ := List.mem_map.1 h1
      exact List.all_eq_true.1 (a5 x) y h2
  have hw : wop F.P F.Δ F.qt F.gs ⟨e, l, G⟩ o (fun S => S = ⟨e', l, G⟩) := by
    unfold wop
    rw [ho]
    simp only [hc, ha, hb]
    refine .inl ?_
    unfold wappend
    have e1 : ([] : List (List AV)) ++ ys.map enc = (([] : List α) ++ ys).map enc := by simp
    simp only [h1, h2, hdst, hd, hs, hm, hb']
    refine ⟨hok, ?_⟩
    have e2 : ys.map enc = (([] : List α) ++ ys).map enc := by simp
    rw [e2, st_of he hl hG]
  exact ⟨by simp only [evOps, hg]; exact wop_mono (fun S hS => by rw [hS]; exact hk.h) hw⟩
theorem oSf {α β : Type} [iE : Enc α] (up_ : α → β → α) (cv : β → AV) {zz : β} {t c off u : Nat} {ad y : Operand} {d : TD} {m : List α} {n : Int} {v : AV} (hk : E3 F T k ops os e' l G) (ho : o.op = .store t ad y := by exact rfl) (hdst : o.dst = none := by exact rfl) (hg : o.guard = none := by exact rfl) (ht : lk F.Δ t = some d := by exact rfl) (had : St.val ⟨e, l, G⟩ ad = some (.eptr (.t u) c n.toNat off) := by exact rfl) (hu : lk e u = some (.own c (m.map enc)) := by exact rfl) (hy : St.val ⟨e, l, G⟩ y = some v := by exact rfl) (hv : v = cv zz := by exact rfl)
    (hlf : v.cells.all AV.leaf = true := by exact rfl) (hdp : v.isDeep = true := by exact rfl) (hs : v.cells.length = d.size := by exact rfl) (hle : off + d.size ≤ (enc (rd m n)).length := by exact Nat.le_of_ble_eq_true rfl) (hx : ∀ (q : α) (z : β), over (enc q) off (cv z).cells = enc (up_ q z) := by exact fun _ _ => rfl) (h0 : 0 ≤ n := by omega) (h1 : n < (m.length : Int) := by first | omega | (simp only [List.length_set] at *; omega))
    (he : up e u (.own c ((m.set n.toNat (up_ (rd m n) zz)).map enc)) = e' := by ((repeat (refine nlc (m' := ?_) rfl ?_; rotate_left)); exact nln rfl)) : E3 F T k ops (o :: os) e l G := by
  subst he
  exact o_none hg (se_wop ho hdst ht had hu hy hlf hdp hs hle (by rw [hv]; exact hx _ _) h0 h1) (fun S' hS hΔ hd X a w hr => by subst hS; exact hk.h hΔ hd X a w hr)
theorem tSf {α β : Type} [iE : Enc α] (up_ : α → β → α) (cv : β → AV) {zz : β} {t c off u : Nat} {ad y : Operand} {d : TD} {m : List α} {n : Int} {v : AV} (hk : E5 F Q ops os e' l G) (ho : o.op = .store t ad y := by exact rfl) (hdst : o.dst = none := by exact rfl) (hg : o.guard = none := by exact rfl) (ht : lk F.Δ t = some d := by exact rfl) (had : St.val ⟨e, l, G⟩ ad = some (.eptr (.t u) c n.toNat off) := by exact rfl) (hu : lk e u = some (.own c (m.map enc)) := by exact rfl) (hy : St.val ⟨e, l, G⟩ y = some v := by exact rfl) (hv : v = cv zz := by exact rfl)
    (hlf : v.cells.all AV.leaf = true := by exact rfl) (hdp : v.isDeep = true := by exact rfl) (hs : v.cells.length = d.size := by exact rfl) (hle : off + d.size ≤ (enc (rd m n)).length := by exact Nat.le_of_ble_eq_true rfl) (hx : ∀ (q : α) (z : β), over (enc q) off (cv z).cells = enc (up_ q z) := by exact fun _ _ => rfl) (h0 : 0 ≤ n := by omega) (h1 : n < (m.length : Int) := by first | omega | (simp only [List.length_set] at *; omega))
    (he : up e u (.own c ((m.set n.toNat (up_ (rd m n) zz)).map enc)) = e' := by ((repeat (refine nlc (m' := ?_) rfl ?_; rotate_left)); exact nln rfl)) : E5 F Q ops (o :: os) e l G := by
  subst he
  exact ⟨by simp only [evOps, hg]; exact wop_mono (fun S hS => by rw [hS]; exact hk.h) (se_wop ho hdst ht had hu hy hlf hdp hs hle (by rw [hv]; exact hx _ _) h0 h1)⟩
theorem fzo (q : Pl) {c : Code} {cw : Nat} {m : List (List AV)} {S' : St} (hk : E1 F T k c e' l' G) (hw : St.ownAt ⟨e, l, G⟩ q = some (cw, m) := by exact rfl) (hq : (F.qt && anyG q) = false := by exact rfl) (hS : frz1 ⟨e, l, G⟩ q = S' := by exact rfl)
    (he : S'.env = e' := by ((repeat (refine nlc (m' := ?_) rfl ?_; rotate_left)); exact nln rfl)) (hl : S'.loc = l' := by ((repeat (refine nlp (x' := ?_) (m' := ?_) rfl ?_ ?_; rotate_left 2; focus ((repeat (first | (refine nlc (p := AV.int _ _) (m' := ?_) rfl ?_; rotate_left) | (refine nlc (p := AV.sl _) (m' := ?_) rfl ?_; rotate_left) | (refine nlc (p := AV.bool _) (m' := ?_) rfl ?_; rotate_left) | (refine nlc (p := AV.own _ _) (m' := ?_) rfl ?_; rotate_left) | (refine nlc (p := AV.str _) (m' := ?_) rfl ?_; rotate_left) | (refine nlc (p := AV.emp) (m' := ?_) rfl ?_; rotate_left) | (refine nlc (p := AV.junk) (m' := ?_) rfl ?_; rotate_left) | (refine nlc (p := AV.nilp) (m' := ?_) rfl ?_; rotate_left) | (refine nlc (p := AV.ptrF _) (m' := ?_) rfl ?_; rotate_left) | (refine nlc (p := AV.fn _ _) (m' := ?_) rfl ?_; rotate_left) | (refine nlc (p := AV.ptr _ _) (m' := ?_) rfl ?_; rotate_left))); exact nln rfl))); exact nln rfl)) (hG : S'.G = G := by exact rfl) : E1 F T k c e l G := by
  refine ⟨fun hc X a w hr => ?_⟩
  obtain ⟨X', h1, h2⟩ := hr.rx.frz1 (q := q) hq
  rw [hS, st_of he hl hG] at h1
  exact hk.h hc X' a w ⟨h1, hr.n, hr.d, hr.fs.trans h2⟩
theorem vBd {P : Program} {Δ : Tab} {S : St} {t : Nat} {ps : Array (Nat × Operand)} {cs cs' : List AV} (h : qop P Δ S (.build t ps) (fun v => v = .agg cs) := by first | exact ⟨rfl, rfl⟩ | exact rfl) (hcs : cs = cs' := by ((repeat (refine nlc (m' := ?_) rfl ?_; rotate_left)); exact nln rfl)) : QV P Δ S (.build t ps) (.agg cs') :=
  ⟨hcs ▸ h⟩
theorem tl_eq {s t : ByteArray} : (s.toList = t.toList) = (s = t) := by
  refine propext ⟨fun e => ?_, fun e => by rw [e]⟩
  rw [ByteArray.toList_eq, ByteArray.toList_eq] at e
  exact ByteArray.ext (Array.toList_inj.1 e)
theorem tl_lit {s : ByteArray} {a : UInt8} {l : List UInt8} : (s.toList = a :: l) = (s = ⟨(a :: l).toArray⟩) :=
  (congrArg (fun z => s.toList = z) (ByteArray.toList_mk (a :: l)).symm).trans tl_eq
theorem tl_nil {s : ByteArray} : (s.toList = []) = (s = ⟨([] : List UInt8).toArray⟩) :=
  (congrArg (fun z => s.toList = z) (ByteArray.toList_mk []).symm).trans tl_eq
theorem bl {s t : ByteArray} : (s.toList == t.toList) = decide (s = t) := by
  by_cases h : s = t
  · subst h; simp
  · rw [decide_eq_false h]
    refine beq_eq_false_iff_ne.2 (fun e => h ?_)
    rw [ByteArray.toList_eq, ByteArray.toList_eq] at e
    exact ByteArray.ext (Array.toList_inj.1 e)
theorem vBS {P : Program} {Δ : Tab} {S : St} {t1 n : Nat} {ps : Array (Nat × Operand)} {el sz by_ : Nat} {z : List AV} {d : TD} {cs : List AV} {rows : List (List AV)} (h1 : lk Δ t1 = some ⟨.slice el, sz, by_, z⟩ := by exact rfl) (h2 : lk Δ el = some d := by exact rfl)
    (h3 : (n + 1) * d.size ≤ 16777216 := by exact Nat.le_of_ble_eq_true rfl) (h4 : d.zero.length = d.size := by exact rfl) (h5 : (match d.k with | .tup | .fn => False | _ => True) := by exact trivial)
    (h6 : fillB S (fun i => some (i * d.size, d.size)) (zeros d.zero (n + 1)) ps.toList = some cs := by exact rfl)
    (h7 : chop d.size (n + 1) cs = rows := by ((repeat (refine nlr (x' := ?_) (m' := ?_) rfl ?_ ?_; rotate_left 2; focus ((repeat (first | (refine nlc (p := AV.int _ _) (m' := ?_) rfl ?_; rotate_left) | (refine nlc (p := AV.sl _) (m' := ?_) rfl ?_; rotate_left) | (refine nlc (p := AV.bool _) (m' := ?_) rfl ?_; rotate_left) | (refine nlc (p := AV.own _ _) (m' := ?_) rfl ?_; rotate_left) | (refine nlc (p := AV.str _) (m' := ?_) rfl ?_; rotate_left) | (refine nlc (p := AV.emp) (m' := ?_) rfl ?_; rotate_left) | (refine nlc (p := AV.junk) (m' := ?_) rfl ?_; rotate_left) | (refine nlc (p := AV.nilp) (m' := ?_) rfl ?_; rotate_left) | (refine nlc (p := AV.ptrF _) (m' := ?_) rfl ?_; rotate_left) | (refine nlc (p := AV.fn _ _) (m' := ?_) rfl ?_; rotate_left) | (refine nlc (p := AV.ptr _ _) (m' := ?_) rfl ?_; rotate_left))); exact nln rfl))); exact nln rfl)) : QV P Δ S (.buildSlice t1 (n + 1) ps) (.sl rows) := by
  refine ⟨?_⟩
  simp only [qop]
  unfold qbslice
  simp only [h1, h2, h6]
  exact ⟨h3, h4, h5, by rw [h7]⟩
end Go.AL
end
section
set_option linter.unusedVariables false
set_option linter.unusedSimpArgs false
namespace Go.AL
open Enc

def Ra (X : Ctx) (w : World) (i : Nat) : AV → Value → Prop
  | .own c l, v => OwnV X w (.t i) c l v
  | x, v => Rv X.Fz X.D w x v

structure DoesT (P : Program) (qt : Bool) (f : FuncId) (args : List AV) (G : Objs) (Post : AV → Objs → Prop) : Prop where
  call : ∀ (vals : Array Value) (w : World), (callFunc f vals).run P w = .ok (.enter f vals) w
  run : ∀ (w : World) (vals : Array Value) (X : Ctx), RX X ⟨[], [], G⟩ emptyAct w → (∀ b p, X.O b = some p → (∃ id, p = .gobj id) ∨ (∃ id off, p = .row (.g id off)) ∨ (∃ j, p = .row (.t j))) → (∃ M, ∀ i, M ≤ i → X.D i = none) → vals.size = args.length →
    (∀ (i : Nat) (x : AV), args[i]? = some x → Ra X w i x (vals.getD i undef)) →
    Calls P f vals w fun e w' => ∃ v r G' X', e = .returned v ∧ Post r G' ∧ (qt = true → G' = G) ∧ Rr X' w' r v ∧ RX X' ⟨[], [], G'⟩ emptyAct w' ∧ Fs qt X w X' w' ∧ (∃ M, ∀ i, M ≤ i → X'.D i = none) ∧
      (∀ b p, X'.O b = some p → (∃ id, p = .gobj id) ∨ (∃ id off, p = .row (.g id off)) ∨ (p = .row .res ∧ (w.heap.size ≤ b ∨ X.O b ≠ none)))

theorem Ra.entry {X : Ctx} {w : World} {S : St} {a : Act} {i : Nat} {x : AV} {v : Value} (h : Ra X w i x v) : Rp X S a w (.t i) x v := by
  cases x with
  | own c l => exact h
  | lptr k o => cases h
  | view q => cases h
  | sub q c lo hi => cases h
  | eptr q c i o => cases h
  | iter s p => cases h
  | junk => cases h
  | _ => exact h

theorem fs_fin {qt : Bool} {X0 X : Ctx} {w0 w : World} (hf : Fs qt X0 w0 X w) (t : Option Nat) : Fs qt X0 w0 (X.fin t) w := by
  refine ⟨hf.os, hf.tape, hf.output, hf.size, fun b hb hc => ?_, hf.fz, hf.D, hf.fin, hf.L⟩
  obtain ⟨k1, k2, k3⟩ := hf.keep b hb hc
  refine ⟨k1, ?_, k3⟩
  simp only [Ctx.fin, k2]
  rcases hc with hc | ⟨_, hc⟩
  · rw [hc]
  · cases e : X0.O b with
    | none => rfl
    | some p =>
      rw [e] at hc
      cases p with
      | gobj id => rfl
      | row q => cases q <;> first | rfl | exact hc.elim
      | lobj k => exact hc.elim
      | it q => exact hc.elim

theorem doesT_of_wp {F : Cfg} (hΔ : Tab.Ok F.P F.Δ) {f : FuncId} {fn : Func} {c : Code} {args : List AV} {G : Objs} {Post : AV → Objs → Prop} (hf : F.P.funcs[f]? = some fn) (hb : fn.body = some c)
    (hname : (fn.name == "runtime.NumGoroutine") = false)
    (hq : ∀ (X : Ctx) (a : Act) (w : World), (∃ M, ∀ i, M ≤ i → X.D i = none) → RX X ⟨argEnv 0 args, [], G⟩ a w → a.tmps.size = args.length + (fn.ntmps - args.length) → a.defers = [] → c.wp F.P (Qc F (args.length + (fn.ntmps - args.length)) X w (fun e S => match e with
      | .normal | .ret => evEnd F fn.results.toList S (fun r G'' => ∃ G', Post r G' ∧ (∀ id cs, G' id = some cs → G'' id = some cs) ∧ (F.qt = true → G' = G))
      | _ => False)) a w) : DoesT F.P F.qt f args G Post := by
  refine ⟨fun vals w => ?_, fun w vals X hR hg hfin hlen hargs => ?_⟩
  · simp only [callFunc, Sem.run_bind, run_program, Result.andThen_ok, hf, hname, hb, Option.isNone_some, Bool.false_eq_true, if_false, Sem.run_pure]
  · refine calls_of_wp hf hb ?_
    have hentry : RX X ⟨argEnv 0 args, [], G⟩ { tmps := vals ++ Array.replicate (fn.ntmps - vals.size) undef, defers := [] } w := by
      refine ⟨fun t x hx => ?_, fun k cs hk => by simp at hk, hR.gob, hR.dis, hR.inh⟩
      have hx' : args[t]? = some x := by
        have : lk (argEnv 0 args) t = some x := hx
        rw [argEnv_get] at this
        simpa using this
      have hlt := (List.getElem?_eq_some_iff.1 hx').1
      have hv := hargs t x hx'
      refine ⟨by simp; omega, ?_⟩
      have hgd : (vals ++ Array.replicate (fn.ntmps - vals.size) undef).getD t undef = vals.getD t undef := by
        simp only [Array.getD_eq_getD_getElem?]
        rw [Array.getElem?_append_left (by omega)]
      show Rp X _ _ w (.t t) x ((vals ++ Array.replicate (fn.ntmps - vals.size) undef).getD t undef)
      rw [hgd]
      exact hv.entry
    have hn : ({ tmps := vals ++ Array.replicate (fn.ntmps - vals.size) undef, defers := [] } : Act).tmps.size = args.length + (fn.ntmps - args.length) := by simp [hlen]
    refine wp_mono (hq X _ w hfin hentry hn rfl) ?_
    rintro e a' w' ⟨S, X', k1, k2, k3, k4, k5⟩
    have done : evEnd F fn.results.toList S (fun r G'' => ∃ G', Post r G' ∧ (∀ id cs, G' id = some cs → G'' id = some cs) ∧ (F.qt = true → G' = G)) →
        a'.defers = [] ∧ ∃ v, (results fn a'.tmps).run F.P w' = .ok v w' ∧ ∃ v' r G' X'', Ending.returned v = .returned v' ∧ Post r G' ∧ (F.qt = true → G' = G) ∧ Rr X'' w' r v' ∧ RX X'' ⟨[], [], G'⟩ emptyAct w' ∧ Fs F.qt X w X'' w' ∧ (∃ M, ∀ i, M ≤ i → X''.D i = none) ∧
          (∀ b p, X''.O b = some p → (∃ id, p = .gobj id) ∨ (∃ id off, p = .row (.g id off)) ∨ (p = .row .res ∧ (w.heap.size ≤ b ∨ X.O b ≠ none))) := by
      intro hend
      refine ⟨k4, ?_⟩
      have hOw : ∀ (Y : Ctx) (t : Option Nat), Fs F.qt X w Y w' → ∀ b p, (Y.fin t).O b = some p → (∃ id, p = .gobj id) ∨ (∃ id off, p = .row (.g id off)) ∨ (p = .row .res ∧ (w.heap.size ≤ b ∨ X.O b ≠ none)) := by
        intro Y t hY b p hp
        simp only [Ctx.fin] at hp
        split at hp
        · cases hp; exact .inl ⟨_, rfl⟩
        · cases hp; exact .inr (.inl ⟨_, _, rfl⟩)
        · rename_i u hu
          by_cases e : t = some u
          · rw [if_pos e] at hp
            cases hp
            refine .inr (.inr ⟨rfl, ?_⟩)
            rcases Nat.lt_or_ge b w.heap.size with g | g
            · refine .inr (fun ho => ?_)
              have := (hY.keep b g (.inl ho)).2.1
              rw [hu, ho] at this; cases this
            · exact .inl g
          · rw [if_neg e] at hp; cases hp
        · cases hp
      rcases hend with hend | ⟨hres, hend⟩
      · split at hend
        · rename_i t hrs
          split at hend
          · rename_i c' l hg'
            obtain ⟨G', p1, p2, p3⟩ := hend
            have hrun : (results fn a'.tmps).run F.P w' = .ok (a'.tmps.getD t undef) w' := by
              have : fn.results = #[.tmp t] := by rw [← Array.toArray_toList (xs := fn.results), hrs]
              simp [results_eq, this, rvRun]
            refine ⟨_, hrun, _, .own c' l, G', X'.fin (some t), rfl, p1, p3, ?_, k2.fin p2 (some t), fs_fin k5 (some t), k5.fin hfin, hOw X' (some t) k5⟩
            have := (k2.env t _ hg').2
            rcases this with h | ⟨b, off, cap, vs, T, m1, m2, m3⟩
            · exact .inl h
            · exact .inr ⟨b, off, cap, vs, T, m1, by simp [Ctx.fin, m2], m3⟩
          · exact hend.elim
        · exact hend.elim
      · obtain ⟨X1, r1, f1⟩ := RX.frzRes fn.results.toList k2 hres
        have hmapM : ∀ vs : List Value, (fn.results.toList.mapM (rvRun a'.tmps)).run F.P w' = .ok vs w' →
            (results fn a'.tmps).run F.P w' = .ok (if h : vs.toArray.size = 1 then vs.toArray[0] else .tuple vs.toArray) w' := by
          intro vs hvs
          rw [results_eq, Array.mapM_eq_mapM_toList]
          simp only [Sem.run_bind, Sem.run_map, hvs, Result.andThen_ok, Sem.run_pure]
        split at hend
        · rename_i x hx
          obtain ⟨hdx, G', p1, p2, p3⟩ := hend
          obtain ⟨vs, m1, m2, m3, m4⟩ := resAll_ok hΔ r1 hx (by simp [hdx])
          obtain ⟨v, rfl⟩ : ∃ v, vs = [v] := by
            cases vs with
            | nil => simp at m2
            | cons v r => simp at m2; exact ⟨v, by rw [m2]⟩
          refine ⟨_, hmapM [v] m1, v, x, G', X1.fin none, by simp, p1, p3, ?_, r1.fin p2 none, fs_fin (k5.trans f1) none, (k5.trans f1).fin hfin, hOw X1 none (k5.trans f1)⟩
          have := m4 0 x v rfl rfl
          cases x <;> first | exact this | cases hdx
        · rename_i xs hxs hx
          obtain ⟨hdx, G', p1, p2, p3⟩ := hend
          obtain ⟨vs, m1, m2, m3, m4⟩ := resAll_ok hΔ r1 hx hdx
          have hne : ¬ vs.toArray.size = 1 := by
            intro e
            have : xs.length = 1 := by rw [← m2]; simpa using e
            obtain ⟨x, rfl⟩ := List.length_eq_one_iff.1 this
            exact hxs x rfl
          refine ⟨_, hmapM vs m1, .tuple vs.toArray, .tup xs, G', X1.fin none, by rw [dif_neg hne], p1, p3, ?_, r1.fin p2 none, fs_fin (k5.trans f1) none, (k5.trans f1).fin hfin, hOw X1 none (k5.trans f1)⟩
          exact .tup _ _ (by simp [m2]) (fun j x v hx hv => m4 j x v hx (by simpa using hv))
        · exact hend.elim
    cases e with
    | normal => exact done k1
    | ret => exact done k1
    | _ => exact k1.elim

theorem DoesT.deP {P : Program} {qt : Bool} {f : FuncId} {args : List AV} {G : Objs} {Post : AV → Objs → Prop} (h : DoesT P qt f args G (fun r G => Post r.deEmp G)) : DoesT P qt f args G Post := by
  refine ⟨h.call, fun w vals X h1 h2 h3 h4 h5 => (h.run w vals X h1 h2 h3 h4 h5).mono ?_⟩
  rintro e w' ⟨v, r, G', X', e1, e2, e3, e4, e5⟩
  exact ⟨v, r.deEmp, G', X', e1, e2, e3, e4.de, e5⟩
theorem doesT_walk (n : Nat) {F : Cfg} (hΔ : Tab.Ok F.P F.Δ) (hm : F.P.follows .mixedOrders = true) {f : FuncId} {fn : Func} {c : Code} {args : List AV} {G : Objs} {Post : AV → Objs → Prop} (hf : F.P.funcs[f]? = some fn) (hb : fn.body = some c)
    (hq : ∀ T : Task F, (∀ x a w, (∃ S X, finQ F fn.results.toList G Post x S ∧ Rdy F T S X a w) → T.Q x a w) → E1 F T [] c (argEnv 0 args) [] G)
    (hn : args.length = n := by exact rfl) (hname : (fn.name == "runtime.NumGoroutine") = false := by decide) (hok : codeOk (n + (fn.ntmps - n)) F.tk c = true := by decide +kernel) : DoesT F.P F.qt f args G Post := by
  refine DoesT.deP (doesT_of_wp (Post := fun r G => Post r.deEmp G) hΔ hf hb hname ?_)
  intro X a w hfin hr hsz hd
  have := (hq ⟨X, w, args.length + (fn.ntmps - args.length), Qc F (args.length + (fn.ntmps - args.length)) X w (finQ F fn.results.toList G Post), hfin, hΔ, hm⟩
    (fun x a w ⟨S, X, h1, h2⟩ => ⟨S, X, h1, h2.rx, h2.n, h2.d, h2.fs⟩)).h (by rw [hn]; exact hok) X a w ⟨hr, hsz, hd, Fs.refl _ _ _⟩
  exact this

def rowOf (S : St) : Operand → Option Pl
  | .tmp t => match S.get t with | some (.own _ _) => some (.t t) | some (.view q) => some q | _ => none
  | _ => none

theorem rowOf_ok {X : Ctx} {S : St} {a : Act} {w : World} (h : RX X S a w) {x : Operand} {q : Pl} (hr : rowOf S x = some q) (hq : S.ownAt q ≠ none) : a.eval x = hdr X a w q := by
  cases x with
  | tmp t =>
    simp only [rowOf] at hr
    split at hr
    · cases hr; rfl
    · rename_i q' e
      cases hr
      exact (h.env t _ e).2 hq
    · cases hr
  | _ => cases hr

theorem gOwn_g {O : Nat → Option Pw} {b : Nat} {p : Pw} (h : gOwn O b = some p) : (∃ id, p = .gobj id) ∨ (∃ id off, p = .row (.g id off)) := by
  unfold gOwn at h
  cases e : O b with
  | none => rw [e] at h; cases h
  | some q =>
    rw [e] at h
    cases q with
    | gobj id => cases h; exact .inl ⟨_, rfl⟩
    | row q => cases q <;> first | (cases h; done) | (cases h; exact .inr ⟨_, _, rfl⟩)
    | lobj k => cases h
    | it q => cases h

theorem wcallT_ok {P : Program} {X : Ctx} {S : St} {a : Act} {w : World} (h : RX X S a w) (hfin : ∃ M, ∀ i, M ≤ i → X.D i = none) {qt : Bool} {t : Nat} {f : FuncId} {x0 : Operand} {args : List Operand} {vs : List AV} {q : Pl} {c : Nat} {l : List (List AV)} {r : AV}
    (ht : t < a.tmps.size) (hrow : rowOf S x0 = some q) (hq : S.ownAt q = some (c, l)) (hqt : (qt && anyG q) = false) (hvs : S.argsOf args = some vs) (hdeep : S.deepArgs args = true) (hres : resOk r = true)
    (hdo : ∀ G, DoesT P true f (.own c l :: vs) G (fun r' _ => r' = r)) :
    Calls P f ((x0 :: args).map a.eval).toArray w fun e w' => ∃ v X', e = .returned v ∧ RX X' (((S.take q).withG (S.take q).G).put t r) (a.put (some t) v) w' ∧ Fs qt X w X' w' := by
  have hlive : S.ownAt q ≠ none := by rw [hq]; simp
  have hev := rowOf_ok h hrow hlive
  have hown := h.own hq
  have ht1 := h.take hlive
  -- the contexts of this side and of that one
  obtain ⟨X1, Xc, r1, rc, ho, hfz1, hD1, hL1, hfzc, hDc, hcase⟩ : ∃ X1 Xc : Ctx, RX X1 (S.take q) a w ∧ RX Xc ⟨[], [], (S.take q).G⟩ emptyAct w ∧ OwnV Xc w (.t 0) c l (hdr X a w q) ∧ X1.Fz = X.Fz ∧ X1.D = X.D ∧ X1.L = X.L ∧ Xc.Fz = X.Fz ∧ Xc.D = X.D ∧
      (∀ b, (X1.O b = X.O b ∧ Xc.O b = gOwn X.O b) ∨ (X.O b = some (.row q) ∧ X1.O b = none ∧ Xc.O b = some (.row (.t 0)))) := by
    rcases hown with hn | ⟨b, off, cap, ws, T, k1, k2, k3, k4, k5, k6, k7⟩
    · exact ⟨X, X.callee, ht1, ht1.callee, .inl hn, rfl, rfl, rfl, rfl, rfl, fun b => .inl ⟨rfl, rfl⟩⟩
    · have hz : ¬ X.Fz b := fun hz => by have := h.dis _ hz; rw [k2] at this; cases this
      have hlt : b < w.heap.size := h.inh b (.inr (by rw [k2]; simp))
      have r1 := ht1.setO (b := b) (p := none) ⟨hz, .inr ⟨q, k2, own_take⟩⟩ (fun e => absurd rfl e)
      have r2 := r1.callee.setO (b := b) (p := some (.row (.t 0))) ⟨hz, .inl (by simp [Ctx.callee, gOwn, Ctx.setO])⟩ (fun _ => hlt)
      refine ⟨_, _, r1, r2, .inr ⟨b, off, cap, ws, T, k1, setO_same _ _ _, k3, k4, k5, k6, fun k x hk => k7 k x hk⟩, rfl, rfl, rfl, rfl, rfl, fun b' => ?_⟩
      by_cases e : b' = b
      · subst e
        exact .inr ⟨k2, setO_same _ _ _, setO_same _ _ _⟩
      · refine .inl ⟨setO_ne _ _ e, ?_⟩
        rw [setO_ne _ _ e]
        simp [Ctx.callee, gOwn, Ctx.setO, e]
  have hl1 := (argsOf_ok h hvs).1
  have hOc : ∀ b p, Xc.O b = some p → (∃ id, p = .gobj id) ∨ (∃ id off, p = .row (.g id off)) ∨ (∃ j, p = .row (.t j)) := by
    intro b p hb
    rcases hcase b with ⟨_, e⟩ | ⟨_, _, e⟩
    · rw [e] at hb
      exact (gOwn_g hb).imp id .inl
    · rw [e] at hb; cases hb; exact .inr (.inr ⟨0, rfl⟩)
  refine ((hdo (S.take q).G).run w _ Xc rc hOc (by rw [hDc]; exact hfin) (by simp [hl1]) (fun i x hx => ?_)).mono ?_
  · cases i with
    | zero =>
      simp only [List.getElem?_cons_zero, Option.some.injEq] at hx
      subst hx
      have : ((x0 :: args).map a.eval).toArray.getD 0 undef = a.eval x0 := by simp
      rw [this, hev]
      exact ho
    | succ i =>
      simp only [List.getElem?_cons_succ] at hx
      obtain ⟨y, k1, k2⟩ := deepArgs_ok h hvs hdeep i x hx
      have e1 : ((x0 :: args).map a.eval).toArray.getD (i + 1) undef = a.eval y := by simp [Array.getD_eq_getD_getElem?, k1]
      rw [e1]
      have k2' : Rv Xc.Fz Xc.D w x (a.eval y) := by rw [hfzc, hDc]; exact k2
      revert k2'
      have hd := k2.isDeep
      cases x <;> first | exact id | cases hd
  · rintro e w' ⟨v, r', G', X', rfl, rfl, hG, hrr, hRX, hfs, hfin', hOw⟩
    obtain rfl := hG rfl
    have loc1 : ∀ b, loc? (X1.O b) = true → Xc.O b = none := by
      intro b hb
      rcases hcase b with ⟨e1, e2⟩ | ⟨_, e1, _⟩
      · rw [e2]; rw [e1] at hb; exact gOwn_loc hb
      · rw [e1] at hb; cases hb
    have hback := r1.back0 (w' := w') (X' := X') (G' := (S.take q).G) (t := t) (fun b hb hlt => by
      have h0 := loc1 b hb
      obtain ⟨k1, k2, k3⟩ := hfs.keep b hlt (.inl h0)
      exact ⟨k1, k2.trans h0, fun hz => by have := r1.dis b (by rw [hfz1, ← hfzc]; exact k3 hz); rw [this] at hb; cases hb⟩)
      (fun b hb => by
        have hzc : Xc.Fz b := by rw [hfzc, ← hfz1]; exact hb
        exact (hfs.keep b (r1.inh b (.inl hb)) (.inl (rc.dis b hzc))).1)
      (fun b hb => hfs.fz b (by rw [hfzc, ← hfz1]; exact hb)) (fun i b hb => hfs.D i b (by rw [hDc, ← hD1]; exact hb)) hfs.size hRX
    refine ⟨v, _, rfl, hback.put ht ?_, ?_⟩
    · cases r' with
      | own c' l' =>
        have hrr : OwnV X' w' .res c' l' v := hrr
        show OwnV _ w' (.t t) c' l' v
        rcases hrr with hv | ⟨b, off, cap, vs', T, g1, g2, g3⟩
        · exact .inl hv
        · refine .inr ⟨b, off, cap, vs', T, g1, ?_, g3⟩
          have hge : ¬ (b < w.heap.size ∧ loc? (X1.O b) = true) := by
            rintro ⟨hb1, hb2⟩
            rcases hOw b _ g2 with ⟨_, e⟩ | ⟨_, _, e⟩ | ⟨_, e | e⟩
            · cases e
            · cases e
            · omega
            · exact e (loc1 b hb2)
          simp only [Ctx.back, if_neg hge, g2]
      | int k n => exact hrr
      | bool b => exact hrr
      | str s => exact hrr
      | agg cs => exact hrr
      | tup cs => exact hrr
      | sl l => exact hrr
      | emp => exact hrr
      | nilp => exact hrr
      | ptrF cs => exact hrr
      | ptr i o => exact hrr
      | fn f cs => exact hrr
      | lptr k o => cases hres
      | view q => cases hres
      | sub q c lo hi => cases hres
      | eptr q c i o => cases hres
      | iter s p => cases hres
      | junk => cases hres
    · refine ⟨hfs.os, hfs.tape, hfs.output, hfs.size, fun b hb hc => ?_, fun b hb => hfs.fz b (by rw [hfzc]; exact hb), fun i b hb => hfs.D i b (by rw [hDc]; exact hb), fun _ => hfin', fun j _ => by show X1.L j = _; rw [hL1]⟩
      have hne : X.O b ≠ some (.row q) := fun e => by
        rcases hc with hc | ⟨hc, hg⟩
        · rw [e] at hc; cases hc
        · rw [e] at hg
          cases q <;> simp [gplace, anyG, hc] at hg hqt
      obtain ⟨e1, e2⟩ : X1.O b = X.O b ∧ Xc.O b = gOwn X.O b := by
        rcases hcase b with e | ⟨e, _⟩
        · exact e
        · exact absurd e hne
      have hl : loc? (X.O b) = false := by
        rcases hc with hc | ⟨_, hc⟩
        · rw [hc]; rfl
        · cases e : X.O b with
          | none => rfl
          | some p =>
            rw [e] at hc
            cases p with
            | gobj id => rfl
            | row q => cases q <;> first | rfl | exact hc.elim
            | lobj k => exact hc.elim
            | it q => exact hc.elim
      have e3 : Xc.O b = X.O b := e2.trans (gOwn_not hl)
      have hcc : Xc.O b = none ∨ (true = true ∧ gplace (Xc.O b)) := by
        rw [e3]
        rcases hc with hc | ⟨_, hc⟩
        · exact .inl hc
        · exact .inr ⟨rfl, hc⟩
      obtain ⟨k1, k2, k3⟩ := hfs.keep b hb hcc
      refine ⟨k1, ?_, fun hz => by have := k3 hz; rwa [hfzc] at this⟩
      rw [e3] at k2
      simp only [Ctx.back, e1, hl, Bool.false_eq_true, and_false, if_false, k2]
      cases e : X.O b with
      | none => rfl
      | some p =>
        rw [e] at hl
        cases p with
        | gobj id => rfl
        | row q => cases q <;> first | rfl | cases hl
        | lobj k => cases hl
        | it q => cases hl
end Go.AL
end
section
set_option linter.unusedVariables false
set_option linter.unusedSimpArgs false
namespace Go.AL
open Enc
section
variable {P : Program} {Δ : Tab} {S : St}
theorem vSlv {α : Type} {iE : Enc α} {t sz by_ el c : Nat} {z : List AV} {d : TD} {q : Pl} {x lo : Operand} {m : List α} {k1 : IntKind} {a : Int} (hx : S.val x = some (.view q) := by exact rfl) (ho : S.ownAt q = some (c, m.map enc) := by exact rfl) (h1 : S.val lo = some (.int k1 a) := by exact rfl)
    (ht : lk Δ t = some ⟨.slice el, sz, by_, z⟩ := by exact rfl) (hd : lk Δ el = some d := by exact rfl) (hw : c = d.size := by exact rfl) (c0 : 0 ≤ a := by omega) (c1 : a ≤ (m.length : Int) := by first | omega | (simp only [List.length_append, List.length_take, List.length_replicate, List.length_drop, List.length_set]; omega)) :
    QV P Δ S (.slice t x (some lo) none none) (.sub q c a.toNat m.length) := by
  refine ⟨?_⟩
  unfold qop qslice
  simp only [ht, hd, hx, ho, bound, h1]
  exact ⟨c0, by simp, by simp; omega, hw, by simp⟩
theorem vShv {α : Type} {iE : Enc α} {t sz by_ el c : Nat} {z : List AV} {d : TD} {q : Pl} {x hi : Operand} {m : List α} {k2 : IntKind} {b : Int} (hx : S.val x = some (.view q) := by exact rfl) (ho : S.ownAt q = some (c, m.map enc) := by exact rfl) (h2 : S.val hi = some (.int k2 b) := by exact rfl)
    (ht : lk Δ t = some ⟨.slice el, sz, by_, z⟩ := by exact rfl) (hd : lk Δ el = some d := by exact rfl) (hw : c = d.size := by exact rfl) (c0 : 0 ≤ b := by omega) (c1 : b ≤ (m.length : Int) := by first | omega | (simp only [List.length_append, List.length_take, List.length_replicate, List.length_drop, List.length_set]; omega)) :
    QV P Δ S (.slice t x none (some hi) none) (.sub q c 0 b.toNat) := by
  refine ⟨?_⟩
  unfold qop qslice
  simp only [ht, hd, hx, ho, bound, h2]
  exact ⟨c0, by simp; omega, by omega, hw, trivial⟩
end
variable {F : Cfg} {T : Task F} {k : List Frm} {K Q : St → Prop} {e e' : Env} {l l' : Loc} {G G' : Objs} {ops : Array Oper} {o : Oper} {os : List Oper} {n : Nat}

theorem o_run (hg : o.guard = none) {S' : St} (hk : Tab.Ok F.P F.Δ → (∀ o ∈ os, ∀ t, o.dst = some t → t < T.n) → ∀ X a w, Rdy F T S' X a w → wpList F.P ops (Kof F T k) os a w)
    (h : Tab.Ok F.P F.Δ → ∀ X a w, RX X ⟨e, l, G⟩ a w → (∃ M, ∀ i, M ≤ i → X.D i = none) → (∀ t, o.dst = some t → t < a.tmps.size) →
      ∀ (N : Act → World → Prop) (Q : Exit → Act → World → Prop), (∀ v w' X', RX X' S' (a.put o.dst v) w' → Fs F.qt X w X' w' → N (a.put o.dst v) w') → o.wp F.P a w N Q) : E3 F T k ops (o :: os) e l G := by
  refine ⟨fun hΔ hd X a w hr => ?_⟩
  unfold wpList
  rw [if_pos (by simp [Region.wanted, hg])]
  refine .inl (h hΔ X a w hr.rx (hr.fs.fin T.fin) (fun t ht => by rw [hr.n]; exact hd o (by simp) t ht) _ _ (fun v w' X' h1 h2 => ?_))
  exact hk hΔ (fun o' ho' => hd o' (by simp [ho'])) X' _ w' ⟨h1, by rw [size_put]; exact hr.n, by rw [put_defers]; exact hr.d, hr.fs.trans h2⟩

def noG : Env → Bool
  | [] => true
  | (_, x) :: e => match x.at_ anyG with | true => false | false => noG e
theorem kl_noG : ∀ {e : Env}, noG e = true → kl (AV.at_ anyG) e = e
  | [], _ => rfl
  | (a, x) :: e, h => by
    simp only [noG] at h
    split at h
    · cases h
    · rename_i hx
      simp only [kl, hx, Bool.false_eq_true, if_false, kl_noG h]
theorem Does.strong {P : Program} {f : FuncId} {args : List AV} {G : Objs} {Post : AV → Objs → Prop} (h : Does P true f args G Post) (qt : Bool) : Does P qt f args G (fun r G' => Post r G' ∧ G' = G) := by
  cases qt with
  | false => exact h.loud.mono fun r G' h => ⟨h.2, h.1⟩
  | true =>
    refine ⟨h.call, fun w vals X h1 h2 h3 h4 h5 => (h.run w vals X h1 h2 h3 h4 h5).mono ?_⟩
    rintro e w' ⟨v, r, G', X', e1, e2, e3, e4⟩
    exact ⟨v, r, G', X', e1, ⟨e2, e3 rfl⟩, e3, e4⟩
theorem RX.short {X : Ctx} {S : St} {a : Act} {w : World} (h : RX X S a w) {q p : Pl} {c hi : Nat} {m : List (List AV)} {v : Value} (ho : S.ownAt q = some (c, m)) (hq : ∀ id off, q ≠ .g id off) (qt : Bool) (hle : hi ≤ m.length)
    (hv : ∃ (A B : Option Addr) (n cap : Nat), hdr X a w q = .slice A n cap ∧ v = .slice B (hi - 0) (cap - 0) ∧ 0 ≤ hi ∧ hi ≤ n ∧ n ≤ cap ∧ (0 < cap → B = A.map (·.add (0 * c)))) :
    ∃ X', RX X' (S.take q) a w ∧ OwnV X' w p c (m.take hi) v ∧ Fs qt X w X' w ∧ X'.D = X.D ∧ X'.L = X.L := by
  have ht := h.take (q := q) (by rw [ho]; simp)
  obtain ⟨A, B, n, cap, v1, v2, _, v3, v4, v5⟩ := hv
  rcases h.own ho with ⟨hn, A', hA⟩ | ⟨b, off, cap', vs, T, k1, k2, k3, k4, k5, k6, k7⟩
  · subst hn
    rw [hA] at v1
    cases v1
    have : hi = 0 := by omega
    subst this
    exact ⟨X, ht, .inl ⟨rfl, B, by rw [v2]⟩, Fs.refl _ _ _, rfl, rfl⟩
  · rw [k1] at v1
    cases v1
    have hz : ¬ X.Fz b := fun hz => by have := h.dis _ hz; rw [k2] at this; cases this
    have hlt : b < w.heap.size := h.inh b (.inr (by rw [k2]; simp))
    refine ⟨X.setO b (some (.row p)), ht.setO ⟨hz, .inr ⟨q, k2, own_take⟩⟩ (fun _ => hlt), ?_, ?_, rfl, rfl⟩
    · by_cases hc : 0 < cap
      · have hl : (m.take hi).length = hi := by rw [List.length_take]; omega
        refine .inr ⟨b, off, cap, vs, T, ?_, setO_same _ _ _, k3, k4, by rw [hl]; omega, fun es hes => k6 es (List.mem_of_mem_take hes), fun k x hk => k7 k x ?_⟩
        · rw [v2, v5 hc, hl]; simp [add_none]
        · have e1 : m.flatten = (m.take hi).flatten ++ (m.drop hi).flatten := by rw [← List.flatten_append, List.take_append_drop]
          have hlt2 := (List.getElem?_eq_some_iff.1 hk).1
          rw [e1, List.getElem?_append_left hlt2]; exact hk
      · have hc0 : cap = 0 := by omega
        have hh : hi = 0 := by omega
        subst hc0
        subst hh
        exact .inl ⟨rfl, B, by rw [v2]⟩
    · refine ⟨rfl, rfl, rfl, Nat.le_refl _, fun i hi hc => ⟨rfl, setO_ne _ _ (fun e => ?_), fun h => h⟩, fun _ h => h, fun _ _ h => h, fun h => h, fun _ _ => rfl⟩
      subst e
      rcases hc with hc | ⟨hc, hg⟩
      · rw [k2] at hc; cases hc
      · rw [k2] at hg
        cases q with
        | g id off => exact hq id off rfl
        | _ => exact hg
theorem oSh {α : Type} {iE : Enc α} {t u p c hi : Nat} {m : List α} {S' : St} (hk : E3 F T k ops os e' l G) (ho : o.op = .assign (.tmp u) := by exact rfl) (hd : o.dst = some t := by exact rfl) (hg : o.guard = none := by exact rfl) (hu : lk e u = some (.sub (.t p) c 0 hi) := by exact rfl) (hp : lk e p = some (.own c (m.map enc)) := by exact rfl)
    (hle : hi ≤ m.length := by first | omega | (simp only [List.length_append, List.length_take, List.length_replicate, List.length_drop, List.length_set]; omega)) (hS : (St.take ⟨e, l, G⟩ (.t p)).put t (.own c ((m.take hi).map enc)) = S' := by exact rfl)
    (he : S'.env = e' := by ((repeat (refine nlc (m' := ?_) rfl ?_; rotate_left)); exact nln rfl)) (hl : S'.loc = l := by exact rfl) (hG : S'.G = G := by exact rfl) : E3 F T k ops (o :: os) e l G := by
  refine o_run hg (S' := S') (fun hΔ hd X a w hr => hk.h hΔ hd X a w (by rw [← st_of he hl hG]; exact hr)) (fun hΔ X a w hr hfin ht N Q hN => ?_)
  have hown : St.ownAt ⟨e, l, G⟩ (.t p) = some (c, m.map enc) := by simp only [St.ownAt]; rw [show St.get ⟨e, l, G⟩ p = some (.own c (m.map enc)) from hp]
  obtain ⟨h1, h2⟩ := hr.env u _ (show St.get ⟨e, l, G⟩ u = _ from hu)
  obtain ⟨X', r1, r2, r3, r4, r5⟩ := hr.short (p := .t t) hown (by simp) F.qt (by simpa using hle) (h2 (by rw [hown]; simp))
  rw [← List.map_take] at r2
  refine wp_value (by simp only [execOp, ho]; rfl) ?_
  have := r1.put (ht t hd) (t := t) (x := .own c ((m.take hi).map enc)) (v := a.eval (.tmp u)) r2
  rw [hS] at this
  exact hN _ w X' (by rw [hd]; exact this) r3

theorem set_same {α : Type} {l : List α} {i : Nat} {x : α} (h : l[i]? = some x) : l.set i x = l := by
  obtain ⟨h1, h2⟩ := List.getElem?_eq_some_iff.1 h
  rw [← h2]; exact List.set_getElem_self h1
theorem setAt_le {S : St} {q : Pl} {c : Nat} {l : List (List AV)} (h : S.ownAt q = some (c, l)) : St.Le (S.setAt q (.own c l)) S := by
  have own1 : ∀ {x : AV}, ownOf x = some (c, l) → x = .own c l := fun {x} hx => by cases x <;> first | (cases hx; rfl) | cases hx
  refine ⟨fun t x hx => ?_, fun k cs hk => ?_, fun k cs hk => ?_⟩
  · rw [get_setAt] at hx
    by_cases e : q = .t t
    · subst e
      rw [if_pos rfl] at hx; cases hx
      rw [ownAt_t] at h
      obtain ⟨y, h1, h2⟩ := Option.bind_eq_some_iff.1 h
      rw [h1, own1 h2]
    · rwa [if_neg e] at hx
  · rw [loc_setAt] at hk
    cases q with
    | l k' off =>
      simp only at hk
      by_cases e : k = k'
      · subst e
        rw [ownAt_l] at h
        obtain ⟨cs0, h1, h2⟩ := Option.bind_eq_some_iff.1 h
        obtain ⟨y, h3, h4⟩ := Option.bind_eq_some_iff.1 h2
        rw [if_pos rfl, h1, Option.map_some, ← own1 h4, set_same h3] at hk
        rw [h1]; exact hk
      · rwa [if_neg e] at hk
    | _ => exact hk
  · rw [G_setAt] at hk
    cases q with
    | g k' off =>
      simp only at hk
      by_cases e : k = k'
      · subst e
        rw [ownAt_g] at h
        obtain ⟨cs0, h1, h2⟩ := Option.bind_eq_some_iff.1 h
        obtain ⟨y, h3, h4⟩ := Option.bind_eq_some_iff.1 h2
        rw [if_pos rfl, h1, Option.map_some, ← own1 h4, set_same h3] at hk
        rw [h1]; exact hk
      · rwa [if_neg e] at hk
    | _ => exact hk

theorem oVw {t u p c : Nat} {m : List (List AV)} {S' : St} (hk : E3 F T k ops os e' l G) (ho : o.op = .assign (.tmp u) := by exact rfl) (hd : o.dst = some t := by exact rfl) (hg : o.guard = none := by exact rfl) (hu : lk e u = some (.view (.t p)) := by exact rfl) (hp : lk e p = some (.own c m) := by exact rfl)
    (hS : (St.take ⟨e, l, G⟩ (.t p)).put t (.own c m) = S' := by exact rfl)
    (he : S'.env = e' := by ((repeat (refine nlc (m' := ?_) rfl ?_; rotate_left)); exact nln rfl)) (hl : S'.loc = l := by exact rfl) (hG : S'.G = G := by exact rfl) : E3 F T k ops (o :: os) e l G := by
  refine o_run hg (S' := S') (fun hΔ hd X a w hr => hk.h hΔ hd X a w (by rw [← st_of he hl hG]; exact hr)) (fun hΔ X a w hr hfin ht N Q hN => ?_)
  have hown : St.ownAt ⟨e, l, G⟩ (.t p) = some (c, m) := by simp only [St.ownAt]; rw [show St.get ⟨e, l, G⟩ p = some (.own c m) from hp]
  obtain ⟨h1, h2⟩ := hr.env u _ (show St.get ⟨e, l, G⟩ u = _ from hu)
  obtain ⟨X', r1, r2, r3, r4, r5⟩ := hr.reown hΔ (p := .t t) hown (by simp) F.qt
  rw [← h2 (by rw [hown]; simp)] at r2
  refine wp_value (by simp only [execOp, ho]; rfl) ?_
  have := r1.put (ht t hd) (t := t) (x := .own c m) (v := a.eval (.tmp u)) r2
  rw [hS] at this
  exact hN _ w X' (by rw [hd]; exact this) r3

theorem OwnV.clear {X : Ctx} {w w' : World} {q : Pl} {c lo hi : Nat} {m : List (List AV)} {z : List AV} {b o cap : Nat} {vs : Array Value} {T : TypeId} {zs : Array Value} {v : Value}
    (hv : v = .slice (some ⟨b, o, none⟩) m.length cap) (hO : X.O b = some (.row q)) (hb : w.heap[b]? = some (.cells vs T (0, 0))) (h4 : o + cap * c ≤ vs.size) (h5 : m.length ≤ cap) (h6 : ∀ es ∈ m, es.length = c)
    (h7 : ∀ (k : Nat) (x : AV), m.flatten[k]? = some x → ∃ v, vs[o + k]? = some v ∧ Rv X.Fz X.D w x v) (hz : ¬ X.Fz b) (hlh : lo ≤ hi) (hhl : hi ≤ m.length) (hzs : CellsR X.Fz X.D w z zs) (hzc : zs.size = c)
    (hW : Wr w w' b (((Builtin.zeroCells zs (hi - lo)).toList.zipIdx 0).foldl (laid (o + lo * c)) vs) T) : OwnV X w' q c (m.take lo ++ List.replicate (hi - lo) z ++ m.drop hi) v := by
  have hzl : z.length = c := by rw [hzs.1, hzc]
  have hlen : (m.take lo ++ List.replicate (hi - lo) z ++ m.drop hi).length = m.length := by simp; omega
  have h6' : ∀ es ∈ m.take lo ++ List.replicate (hi - lo) z ++ m.drop hi, es.length = c := by
    intro es hes
    rcases List.mem_append.1 hes with hes | hes
    · rcases List.mem_append.1 hes with hes | hes
      · exact h6 es (List.mem_of_mem_take hes)
      · rw [(List.mem_replicate.1 hes).2, hzl]
    · exact h6 es (List.mem_of_mem_drop hes)
  have hzsz : (Builtin.zeroCells zs (hi - lo)).toList.length = (hi - lo) * c := by simp [Builtin.zeroCells, hzc]
  have hm1 : hi * c ≤ cap * c := Nat.mul_le_mul_right c (by omega)
  have hm2 : lo * c + (hi - lo) * c = hi * c := by rw [← Nat.add_mul]; congr 1; omega
  have hrv : ∀ {x v}, Rv X.Fz X.D w x v → Rv X.Fz X.D w' x v := fun hx => Rv.other hx hz hW.other
  refine .inr ⟨b, o, cap, _, T, by rw [hv, hlen], hO, hW.at_, by rw [laid_size]; exact h4, by rw [hlen]; exact h5, h6', fun k x hk => ?_⟩
  obtain ⟨i, j, es, rfl, hj, e1, e2⟩ := flatten_inv h6' hk
  rw [laid_get _ _ 0 vs _ (by rw [hzsz]; omega)]
  simp only [Nat.add_zero, hzsz]
  have hi1 : (i + 1) * c = i * c + c := Nat.succ_mul i c
  rcases Nat.lt_or_ge i lo with g | g
  · have g1 : (i + 1) * c ≤ lo * c := Nat.mul_le_mul_right c g
    rw [if_neg (by omega)]
    rw [List.append_assoc, List.getElem?_append_left (by simp; omega), List.getElem?_take, if_pos g] at e1
    obtain ⟨v, g2, g3⟩ := h7 _ x (flatten_get h6 e1 e2)
    exact ⟨v, g2, hrv g3⟩
  · rcases Nat.lt_or_ge i hi with g' | g'
    · have g1 : lo * c ≤ i * c := Nat.mul_le_mul_right c g
      have g2 : (i + 1) * c ≤ hi * c := Nat.mul_le_mul_right c g'
      rw [if_pos (by omega)]
      rw [List.getElem?_append_left (by simp; omega), List.getElem?_append_right (by simp; omega), List.getElem?_replicate] at e1
      split at e1
      · cases e1
        have e3 : i * c + j = lo * c + ((i - lo) * c + j) := by
          have : i * c = lo * c + (i - lo) * c := by rw [← Nat.add_mul]; congr 1; omega
          omega
        have e4 : o + (i * c + j) - (o + lo * c) = (i - lo) * c + j := by omega
        have e5 : (i - lo) * c + j < (hi - lo) * c := by
          have : (i - lo + 1) * c ≤ (hi - lo) * c := Nat.mul_le_mul_right c (by omega)
          rw [Nat.succ_mul] at this; omega
        have e6 : ((i - lo) * c + j) % c = j := by rw [Nat.mul_comm, Nat.mul_add_mod, Nat.mod_eq_of_lt hj]
        have hjz : j < zs.size := by omega
        refine ⟨zs[j], ?_, hrv (hzs.2 j x _ e2 (Array.getElem?_eq_getElem hjz))⟩
        rw [e4]
        simp only [Builtin.zeroCells, Array.toList_map, Array.toList_range, List.getElem?_map, List.getElem?_range, hzc, e5, Option.map_some, e6]
        simp [hjz]
      · cases e1
    · have g1 : hi * c ≤ i * c := Nat.mul_le_mul_right c g'
      rw [if_neg (by omega)]
      rw [List.getElem?_append_right (by simp; omega), List.getElem?_drop] at e1
      have e3 : hi + (i - (m.take lo ++ List.replicate (hi - lo) z).length) = i := by simp; omega
      rw [e3] at e1
      obtain ⟨v, g2, g3⟩ := h7 _ x (flatten_get h6 e1 e2)
      exact ⟨v, g2, hrv g3⟩
theorem oClr {α : Type} {iE : Enc α} (z : α) {cl : Call} {x : Operand} {t1 el sz by_ c lo hi : Nat} {zz : List AV} {d : TD} {q : Pl} {m : List α} {S' : St} (hk : E3 F T k ops os e' l G) (ho : o.op = .call cl := by exact rfl) (hc : cl.callee = .builtin .clear := by exact rfl) (ha : cl.args.toList = [x] := by exact rfl) (hb : cl.argTypes.toList = [t1] := by exact rfl)
    (hd : o.dst = none := by exact rfl) (hg : o.guard = none := by exact rfl) (h1 : lk F.Δ t1 = some ⟨.slice el, sz, by_, zz⟩ := by exact rfl) (h2 : lk F.Δ el = some d := by exact rfl) (hx : St.val ⟨e, l, G⟩ x = some (.sub q c lo hi) := by exact rfl) (hq : St.ownAt ⟨e, l, G⟩ q = some (c, m.map enc) := by exact rfl) (hqt : (F.qt && anyG q) = false := by exact rfl)
    (hz : enc z = d.zero := by exact rfl) (hcz : d.zero.length = c := by exact rfl) (hlf : d.zero.all AV.leaf = true := by exact rfl) (hk1 : (match d.k with | .tup | .fn => False | _ => True) := by exact trivial) (hlh : lo ≤ hi := by omega) (hhl : hi ≤ m.length := by omega)
    (hS : St.setAt ⟨e, l, G⟩ q (.own c ((m.take lo ++ List.replicate (hi - lo) z ++ m.drop hi).map enc)) = S' := by exact rfl)
    (he : S'.env = e' := by ((repeat (refine nlc (m' := ?_) rfl ?_; rotate_left)); exact nln rfl)) (hl : S'.loc = l := by exact rfl) (hG : S'.G = G := by exact rfl) : E3 F T k ops (o :: os) e l G := by
  refine o_run hg (S' := S') (fun hΔ hd X a w hr => hk.h hΔ hd X a w (by rw [← st_of he hl hG]; exact hr)) (fun hΔ X a w hr hfin ht N Q hN => ?_)
  have hkt : d.k ≠ .tup := fun e => by rw [e] at hk1; exact hk1
  have hkf : d.k ≠ .fn := fun e => by rw [e] at hk1; exact hk1
  obtain ⟨zv, z1, z2⟩ := zero_ok hΔ h2 hkt hkf X.Fz X.D w
  have hzs : zv.cells.size = c := by rw [← z2.1, hcz]
  have hrow : (m.take lo ++ List.replicate (hi - lo) z ++ m.drop hi).map enc = (m.map enc).take lo ++ List.replicate (hi - lo) d.zero ++ (m.map enc).drop hi := by
    rw [List.map_append, List.map_append, List.map_take, List.map_drop, List.map_replicate, hz]
  have hval : ∃ (A B : Option Addr) (n cap : Nat), hdr X a w q = .slice A n cap ∧ a.eval x = .slice B (hi - lo) (cap - lo) ∧ lo ≤ hi ∧ hi ≤ n ∧ n ≤ cap ∧ (lo < cap → B = A.map (·.add (lo * c))) := by
    cases x with
    | tmp u => exact (hr.env u _ (show St.get ⟨e, l, G⟩ u = _ from hx)).2 (by rw [hq]; simp)
    | const v =>
      have hx' : ofConst v = some (.sub q c lo hi) := hx
      unfold ofConst at hx'
      split at hx'
      · split at hx' <;> cases hx'
      · rename_i v' _
        unfold leafConst at hx'
        split at hx' <;> cases hx'
    | func f => cases hx
    | global g => cases hx
  have arg1 : cl.args.map a.eval = #[a.eval x] := by rw [arr1 ha]; simp
  have arg2 : cl.argTypes = #[t1] := arr1 hb
  have step : ∀ w', (Builtin.clear_ #[t1] o.type #[a.eval x]).run F.P w = .ok (.tuple #[]) w' → (∃ X', RX X' S' a w' ∧ Fs F.qt X w X' w') → o.wp F.P a w N Q := by
    rintro w' hrun ⟨X', g1, g2⟩
    refine wp_value (v := .tuple #[]) (w' := w') ?_ (hN _ w' X' (by rw [hd]; exact g1) g2)
    rw [run_builtin ho hc, arg1, arg2]
    simp only [builtin]
    exact run_v hrun
  obtain ⟨A, B, n, cap, v1, v2, v3, v4, v5, v6⟩ := hval
  have hrowEq : St.setAt ⟨e, l, G⟩ q (.own c ((m.take lo ++ List.replicate (hi - lo) z ++ m.drop hi).map enc)) = S' := hS
  rw [hrow] at hrowEq
  by_cases hlt : lo < hi
  · rcases hr.own hq with ⟨hn, A', hA⟩ | ⟨b, off, cap', vs, T, k1, k2, k3, k4, k5, k6, k7⟩
    · rw [hA] at v1; cases v1; omega
    · rw [k1] at v1
      injection v1 with y1 y2 y3
      subst y1 y2 y3
      have hzb : ¬ X.Fz b := fun hz => by have := hr.dis _ hz; rw [k2] at this; cases this
      have hB : B = some ⟨b, off + lo * c, none⟩ := by rw [v6 (by omega)]; simp [add_none]
      have hm1 : hi * c ≤ cap' * c := Nat.mul_le_mul_right c (by omega)
      have hm2 : lo * c + (hi - lo) * c = hi * c := by rw [← Nat.add_mul]; congr 1; omega
      have hzsz : (Builtin.zeroCells zv.cells (hi - lo)).toList.length = (hi - lo) * c := by simp [Builtin.zeroCells, hzs]
      obtain ⟨w', s1, s2⟩ := run_storeCells (P := F.P) (b := b) (off := off + lo * c) (T := T) (Builtin.zeroCells zv.cells (hi - lo)).toList 0 w vs k3 (by rw [hzsz]; omega) (fun u hu => by
        have h1 := all_one z2 hlf
        simp only [Builtin.zeroCells, Array.toList_map, Array.toList_range, List.mem_map, List.mem_range] at hu
        obtain ⟨i, hi', rfl⟩ := hu
        have hpos : 0 < zv.cells.size := by
          rcases Nat.eq_zero_or_pos zv.cells.size with g | g
          · rw [g] at hi'; omega
          · exact g
        have hm : i % zv.cells.size < zv.cells.size := Nat.mod_lt _ hpos
        refine h1 _ ?_
        rw [getElem!_pos zv.cells _ hm]
        exact Array.getElem_mem_toList ..)
      refine step w' ?_ ⟨X, ?_, Fs.wr s2 k2 (fun hqt' hgp => ?_)⟩
      · rw [v2, hB]
        obtain ⟨j, hj⟩ : ∃ j, hi - lo = j + 1 := ⟨hi - lo - 1, by omega⟩
        have hu : (underlying t1).run F.P w = .ok (.slice el) w := by simp [underlying, elem_und hΔ h1]
        rw [hj] at s1 ⊢
        simp only [Builtin.clear_, List.getElem?_toArray, List.getElem?_cons_zero, Sem.run_bind, hu, Result.andThen_ok, z1, s1, Sem.run_pure]
      · rw [← hrowEq]
        refine hr.setRow hq k2 s2.size s2.other ?_
        exact OwnV.clear (by rw [k1]) k2 k3 k4 k5 k6 k7 hzb v3 (by simpa using hhl) z2 hzs s2
      · cases q <;> simp [gplace, anyG, hqt'] at hgp hqt
  · have hh : hi = lo := by omega
    subst hh
    refine step w ?_ ⟨X, ?_, Fs.refl _ _ _⟩
    · rw [v2, Nat.sub_self]
      have hu : (underlying t1).run F.P w = .ok (.slice el) w := by simp [underlying, elem_und hΔ h1]
      cases B with
      | none => simp only [Builtin.clear_, List.getElem?_toArray, List.getElem?_cons_zero, Sem.run_bind, hu, Result.andThen_ok, Sem.run_pure]
      | some ad => simp only [Builtin.clear_, List.getElem?_toArray, List.getElem?_cons_zero, Sem.run_bind, hu, Result.andThen_ok, Sem.run_pure]
    · have e1 : (m.map enc).take hi ++ List.replicate (hi - hi) d.zero ++ (m.map enc).drop hi = m.map enc := by simp
      rw [e1] at hrowEq
      rw [← hrowEq]
      exact hr.weaken (setAt_le hq)
end Go.AL
end
section
set_option linter.unusedVariables false
set_option linter.unusedSimpArgs false
namespace Go.AL
open Enc

structure SortOk (P : Program) (f g : FuncId) (c : Nat) (m m' : List (List AV)) : Prop where
  call : ∀ (vals : Array Value) (w : World), (callFunc f vals).run P w = .ok (.enter f vals) w
  len : m'.length = m.length
  wide : ∀ es ∈ m', es.length = c
  nil : m = [] → ∀ (A : Option Addr) (w : World), Calls P f #[.slice A 0 0, .func (.func g) #[] #[]] w fun e w' => e = .returned (.tuple #[]) ∧ w' = w
  run : ∀ (Fz : Nat → Prop) (D : Nat → Option Nat) (w : World) (b off cap : Nat) (vs : Array Value) (T : TypeId), w.heap[b]? = some (.cells vs T (0, 0)) → off + cap * c ≤ vs.size → m.length ≤ cap → (∀ es ∈ m, es.length = c) →
    (∀ (k : Nat) (x : AV), m.flatten[k]? = some x → ∃ v, vs[off + k]? = some v ∧ Rv Fz D w x v) → ¬ Fz b → (∀ k, Fz k → k < w.heap.size) →
    Calls P f #[.slice (some ⟨b, off, none⟩) m.length cap, .func (.func g) #[] #[]] w fun e w' => e = .returned (.tuple #[]) ∧ w'.os = w.os ∧ w'.tape = w.tape ∧ w'.output = w.output ∧ w.heap.size ≤ w'.heap.size ∧
      (∀ k, k < w.heap.size → k ≠ b → w'.heap[k]? = w.heap[k]?) ∧ ∃ vs', w'.heap[b]? = some (.cells vs' T (0, 0)) ∧ vs'.size = vs.size ∧ ∀ (k : Nat) (x : AV), m'.flatten[k]? = some x → ∃ v, vs'[off + k]? = some v ∧ Rv Fz D w x v

theorem sort_ok {P : Program} {X : Ctx} {S : St} {a : Act} {w : World} (h : RX X S a w) {q : Pl} {c : Nat} {m m' : List (List AV)} {qt : Bool} (hq : S.ownAt q = some (c, m)) (hqt : (qt && anyG q) = false) {f g : FuncId} (hs : SortOk P f g c m m') :
    Calls P f #[hdr X a w q, .func (.func g) #[] #[]] w fun e w' => ∃ X', e = .returned (.tuple #[]) ∧ RX X' (S.setAt q (.own c m')) a w' ∧ Fs qt X w X' w' := by
  rcases h.own hq with ⟨hn, A, hA⟩ | ⟨b, off, cap, vs, T, k1, k2, k3, k4, k5, k6, k7⟩
  · subst hn
    have : m' = [] := List.length_eq_zero_iff.1 hs.len
    subst this
    rw [hA]
    refine (hs.nil rfl A w).mono ?_
    rintro e w' ⟨rfl, rfl⟩
    exact ⟨X, rfl, h.weaken (setAt_le hq), Fs.refl _ _ _⟩
  · have hz : ¬ X.Fz b := fun hz => by have := h.dis _ hz; rw [k2] at this; cases this
    have hlt : b < w.heap.size := h.inh b (.inr (by rw [k2]; simp))
    rw [k1]
    refine (hs.run X.Fz X.D w b off cap vs T k3 k4 k5 k6 k7 hz (fun k hk => h.inh k (.inl hk))).mono ?_
    rintro e w' ⟨rfl, o1, o2, o3, o4, o5, vs', o6, o7, o8⟩
    let w1 : World := { w' with heap := w'.heap.setIfInBounds b (.cells vs T (0, 0)) }
    have hblt : b < w'.heap.size := Nat.lt_of_lt_of_le hlt o4
    have hw1 : ∀ k, k < w.heap.size → w1.heap[k]? = w.heap[k]? := by
      intro k hk
      by_cases e : k = b
      · subst e; simp [w1, hblt, k3]
      · simp only [w1, Array.getElem?_setIfInBounds_ne (Ne.symm e)]; exact o5 k hk e
    have hr1 : RX X S a w1 := h.world (by simpa [w1] using o4) (fun k hk => hw1 k (h.inh k hk))
    have hh : hdr X a w1 q = hdr X a w q := h.hdr_world (fun k hk => hw1 k (h.inh k hk)) (by rw [hq]; simp)
    refine ⟨X, rfl, hr1.setRow (w' := w') hq k2 (by simp [w1]) (fun k hk => by simp [w1, Array.getElem?_setIfInBounds_ne (Ne.symm hk)]) ?_, ?_⟩
    · rw [hh, k1]
      refine .inr ⟨b, off, cap, vs', T, by rw [hs.len], k2, o6, by rw [o7]; exact k4, by rw [hs.len]; exact k5, hs.wide, fun k x hk => ?_⟩
      obtain ⟨v, p1, p2⟩ := o8 k x hk
      exact ⟨v, p1, p2.mono (fun _ h => h) (fun _ _ h => h) (fun k hk => o5 k (h.inh k (.inl hk)) (fun e => hz (by rw [← e]; exact hk)))⟩
    · refine ⟨o1, o2, o3, o4, fun k hk hc => ⟨o5 k hk (fun e => ?_), rfl, fun h => h⟩, fun _ h => h, fun _ _ h => h, fun h => h, fun _ _ => rfl⟩
      subst e
      rcases hc with hc | ⟨hc, hg⟩
      · rw [k2] at hc; cases hc
      · rw [k2] at hg
        cases q <;> simp [gplace, anyG, hc] at hg hqt

variable {F : Cfg} {T : Task F} {k : List Frm} {K Q : St → Prop} {e e' : Env} {l l' : Loc} {G G' : Objs} {ops : Array Oper} {o : Oper} {os : List Oper} {n : Nat}
theorem oSo {cl : Call} {f g : FuncId} {t : Nat} {x0 : Operand} {q : Pl} {c : Nat} {m m' : List (List AV)} {S' : St} (h : SortOk F.P f g c m m') (hk : E3 F T k ops os e' l G) (ho : o.op = .call cl := by exact rfl) (hc : cl.callee = .value (.func f) := by exact rfl)
    (ha : cl.args.toList = [x0, .func g] := by exact rfl) (hd : o.dst = some t := by exact rfl) (hg : o.guard = none := by exact rfl) (hrow : rowOf ⟨e, l, G⟩ x0 = some q := by exact rfl) (hq : St.ownAt ⟨e, l, G⟩ q = some (c, m) := by exact rfl) (hqt : (F.qt && anyG q) = false := by exact rfl)
    (hS : ((St.setAt ⟨e, l, G⟩ q (.own c m')).put t (.tup [])) = S' := by exact rfl)
    (he : S'.env = e' := by ((repeat (refine nlc (m' := ?_) rfl ?_; rotate_left)); exact nln rfl)) (hl : S'.loc = l := by exact rfl) (hG : S'.G = G := by exact rfl) : E3 F T k ops (o :: os) e l G := by
  refine o_run hg (S' := S') (fun hΔ hd X a w hr => hk.h hΔ hd X a w (by rw [← st_of he hl hG]; exact hr)) (fun hΔ X a w hr hfin ht N Q hN => ?_)
  have hev := rowOf_ok hr hrow (by rw [hq]; simp)
  have hrun := sort_ok (qt := F.qt) hr hq hqt h
  unfold Oper.wp
  rw [run_call ho hc h.call, Oper.upon_enter]
  have e9 : cl.args.map a.eval = #[hdr X a w q, .func (.func g) #[] #[]] := by
    apply Array.toList_inj.1
    rw [Array.toList_map, ha]
    show [a.eval x0, a.eval (.func g)] = _
    rw [hev]; rfl
  rw [e9]
  refine hrun.mono ?_
  rintro _ w' ⟨X', rfl, m1, m2⟩
  refine hN _ w' X' ?_ m2
  rw [← hS, hd]
  exact m1.put (ht t hd) (.tup [] #[] rfl (fun j x v hx => by simp at hx))

theorem oNil {α : Type} {iE : Enc α} {m : List α} {ty tb t el sz by_ : Nat} {zz : List AV} {x : Operand} {v0 : Value} (h1 : m = [] → ∀ b, E3 F T k ops os ((t, .bool b) :: e) l G) (h2 : m ≠ [] → E3 F T k ops os ((t, .bool false) :: e) l G) (ho : o.op = .binOp .eql ty x (.const v0) tb := by exact rfl)
    (hv : v0 = .slice none 0 0 := by exact rfl) (ht : lk F.Δ ty = some ⟨.slice el, sz, by_, zz⟩ := by exact rfl) (hx : St.val ⟨e, l, G⟩ x = some (.sl (m.map enc)) := by exact rfl) (hd : o.dst = some t := by exact rfl) (hg : o.guard = none := by exact rfl) (hr0 : noRefs t e = true := by exact rfl) : E3 F T k ops (o :: os) e l G := by
  subst hv
  have key : ∀ b, E3 F T k ops os ((t, .bool b) :: e) l G → ∀ X a w, Tab.Ok F.P F.Δ → (∀ o' ∈ o :: os, ∀ t, o'.dst = some t → t < T.n) → Rdy F T ⟨e, l, G⟩ X a w → (binOp .eql ty (a.eval x) (.slice none 0 0)).run F.P w = .ok (.bool b) w → plainV (a.eval x) = true → wpList F.P ops (Kof F T k) (o :: os) a w := by
    intro b hk X a w hΔ hdd hr hrun hpl
    unfold wpList
    rw [if_pos (by simp [Region.wanted, hg])]
    refine .inl (wp_value (v := .bool b) (w' := w) (by simp only [execOp, ho]; exact run_v (by simp only [Sem.run_bind, run_eqGuard hpl, Result.andThen_ok]; exact hrun)) ?_)
    refine hk.h hΔ (fun o' ho' => hdd o' (by simp [ho'])) X _ w ⟨?_, by rw [size_put]; exact hr.n, by rw [put_defers]; exact hr.d, hr.fs⟩
    have hp := hr.rx.put (t := t) (x := .bool b) (v := .bool b) (by rw [hr.n]; exact hdd o (by simp) t hd) (.bool b)
    rw [hd]
    exact hp.weaken (cons_le hr0)
  refine ⟨fun hΔ hdd X a w hr => ?_⟩
  have hu := elem_und hΔ ht
  have hval := (hr.rx.evd hx rfl)
  obtain ⟨A, cap, he, _, hne⟩ := hval.sl_inv
  have hrun := Lib.run_eql_slice_nil (P := F.P) w ty el A (m.map enc).length cap 0 0 hu
  by_cases hm : m = []
  · exact key _ (h1 hm A.isNone) X a w hΔ hdd hr (by rw [he]; exact hrun) (by rw [he]; rfl)
  · obtain ⟨b, off, c', f, rfl, _⟩ := hne (by simp [hm])
    exact key _ (h2 hm) X a w hΔ hdd hr (by rw [he]; exact hrun) (by rw [he]; rfl)

theorem n_endO {x : Exit} {u c : Nat} {m : List (List AV)} {Post : AV → Objs → Prop} (hT : ∀ x a w, (∃ S X, finQ F [.tmp u] G Post x S ∧ Rdy F T S X a w) → T.Q x a w) (hp : Post (.own c m) G) (h : nxt k x = ([], .normal) ∨ nxt k x = ([], .ret) := by first | exact .inl rfl | exact .inr rfl)
    (hu : lk e u = some (.own c m) := by exact rfl) : E2 F T k x e l G := by
  refine fin_ hT h (.inl ?_)
  have hu' : St.get ⟨e, l, G⟩ u = some (.own c m) := hu
  simp only [hu']
  exact ⟨G, hp, fun id cs hh => hh, fun _ => rfl⟩
end Go.AL
end
section
set_option linter.unusedVariables false
set_option linter.unusedSimpArgs false
namespace Go.AL
open Enc Go.Proofs Go.Shelf Go.RowKit Go.Sort

theorem sortWorldK_other {β : Type} [Inhabited β] {en : β → List Value} {c : Nat} {w : World} {b off q : Nat} {dk : Array β} {os : Array Obj} {k : Nat} (hk : k < w.heap.size) (hb : k ≠ b) : (sortWorldK en c w b off q dk os).heap[k]? = w.heap[k]? := by
  unfold sortWorldK putRowK
  rw [heap_grow_old _ _ (by simpa [Sort.ahead] using hk)]
  simp only [putRow, mapBlock, Array.getElem?_modify, if_neg (Ne.symm hb)]
  rfl
theorem sortWorldK_at {β : Type} [Inhabited β] {en : β → List Value} {c : Nat} {w : World} {b off q : Nat} {dk : Array β} {os : Array Obj} {vs : Array Value} {T : TypeId} (h : w.heap[b]? = some (.cells vs T (0, 0))) :
    (sortWorldK en c w b off q dk os).heap[b]? = some (.cells (putCells id off (flatK en c dk) vs) T (0, 0)) := by
  have hlt : b < w.heap.size := (Array.getElem?_eq_some_iff.1 h).1
  unfold sortWorldK putRowK
  rw [heap_grow_old _ _ (by simpa [Sort.ahead] using hlt)]
  have h' : (Sort.ahead w q).heap[b]? = some (.cells vs T (0, 0)) := h
  simp only [putRow, mapBlock, Array.getElem?_modify, h', Option.map_some, onCells, if_true]

theorem one_cell' {v : Value} (h : one v = true) : v.oneCell' = true := by cases v <;> first | rfl | cases h

theorem sortOk_of {P : Program} {ρ : Ren} (L : SlLaysF0.n6 P ρ) {α : Type} [iE : Enc α] (c : Nat) (cf : α → α → Int) (Pd : α → Prop) {f g : FuncId} (hf : ρ.f 6 = f)
    (aE : ∀ w, (isAgg (ρ.t 24)).run P w = .ok true w) (zE : ∀ w, (Go.sizeOf (ρ.t 24)).run P w = .ok c w) (hwc : Enc.w α = c) (hc : 0 < c) (leaf : ∀ x : α, (enc x).all AV.leaf = true)
    (irr : ∀ x, Pd x → ¬ cf x x < 0) (tr : ∀ x y z, Pd x → Pd y → Pd z → cf x y < 0 → cf y z < 0 → cf x z < 0) (ntr : ∀ x y z, Pd x → Pd y → Pd z → ¬ cf x y < 0 → ¬ cf y z < 0 → ¬ cf x z < 0) (tot : ∀ x y, Pd x → Pd y → ¬ cf x y < 0 → ¬ cf y x < 0 → x = y)
    (eg : ∀ args w, (callFunc g args).run P w = .ok (.enter g args) w)
    (hcl : ∀ (Fz : Nat → Prop) (D : Nat → Option Nat) (W : World) (x y : α) (us vs : Array Value), Pd x → Pd y → CellsR Fz D W (enc x) us → CellsR Fz D W (enc y) vs → Calls P g #[.agg us, .agg vs] W fun e w' => e = .returned (.int .i64 (cf x y)) ∧ ∃ q os', w' = grow (W.drewN q) os')
    (m m' : List α) (hm : ∀ x ∈ m, Pd x) (hlen : m.length < 4611686018427387904) (hp : m'.Perm m) (hs : m'.Pairwise (fun x y => ¬ cf y x < 0)) : SortOk P f g c (m.map enc) (m'.map enc) := by
  subst hf
  have hll : m'.length = m.length := hp.length_eq
  refine ⟨fun vals w => L.f6.enters rfl vals w, by simp [hll], fun es hes => ?_, fun h A w => AnyF.slices_SortFunc_none L A 0 _ w, fun Fz D w b off cap vs T hb hcap hle hes hcells hz hin => ?_⟩
  · obtain ⟨x, _, rfl⟩ := List.mem_map.1 hes
    rw [Enc.hw, hwc]
  have hblt : b < w.heap.size := (Array.getElem?_eq_some_iff.1 hb).1
  rcases Nat.eq_zero_or_pos m.length with h0 | hpos
  · have hm0 : m = [] := List.length_eq_zero_iff.1 h0
    subst hm0
    have hm0' : m' = [] := List.length_eq_zero_iff.1 (by simpa using hll)
    subst hm0'
    refine (AnyF.slices_SortFunc_none L (some ⟨b, off, none⟩) cap _ w).mono ?_
    rintro e w' ⟨rfl, rfl⟩
    exact ⟨rfl, rfl, rfl, rfl, Nat.le_refl _, fun k _ _ => rfl, vs, hb, rfl, fun k x hx => by simp at hx⟩
  · let β := {p : Array Value × α // p.1.size = c ∧ Pd p.2 ∧ CellsR Fz D w (enc p.2) p.1}
    rw [List.length_map] at hle
    have hmul : m.length * c ≤ cap * c := Nat.mul_le_mul_right c hle
    have hmw : ∀ es ∈ m.map enc, es.length = c := hes
    have cellAt : ∀ i j, (hi : i < m.length) → j < c → ∃ v, vs[off + (i * c + j)]? = some v ∧ ∀ x, (enc m[i])[j]? = some x → Rv Fz D w x v := by
      intro i j hi hj
      have h1 : (m.map enc)[i]? = some (enc m[i]) := by simp [hi]
      have h2 : (enc m[i])[j]? = some ((enc m[i])[j]'(by rw [Enc.hw, hwc]; exact hj)) := List.getElem?_eq_getElem _
      obtain ⟨v, g1, g2⟩ := hcells _ _ (flatten_get hmw h1 h2)
      exact ⟨v, g1, fun x hx => by rw [h2] at hx; cases hx; exact g2⟩
    let us : Nat → Array Value := fun i => (Array.range c).map fun j => vs.getD (off + (i * c + j)) undef
    have huss : ∀ i, (us i).size = c := fun i => by simp [us]
    have hus : ∀ i (hi : i < m.length), CellsR Fz D w (enc m[i]) (us i) := by
      intro i hi
      refine ⟨by rw [Enc.hw, hwc]; simp [us], fun j x v hx hv => ?_⟩
      have hj : j < c := by
        have := (List.getElem?_eq_some_iff.1 hx).1
        rwa [Enc.hw, hwc] at this
      obtain ⟨u, g1, g2⟩ := cellAt i j hi hj
      simp only [us, Array.getElem?_map, Array.getElem?_range, hj, if_true, Option.map_some, Option.some.injEq, Array.getD_eq_getD_getElem?, g1, Option.getD_some] at hv
      subst hv
      exact g2 x hx
    let d : Array β := Array.ofFn (n := m.length) fun i => ⟨(us i.1, m[i.1]), huss _, hm _ (List.getElem_mem _), hus i.1 i.2⟩
    have hds : d.size = m.length := by simp [d]
    have inst : Inhabited β := ⟨⟨(us 0, m[0]), huss _, hm _ (List.getElem_mem _), hus 0 hpos⟩⟩
    let en : β → List Value := fun p => p.1.1.toList
    let cb : β → β → Int := fun p q => cf p.1.2 q.1.2
    have lt_iff : ∀ p q : β, ltOf cb p q = true ↔ cf p.1.2 q.1.2 < 0 := fun p q => by simp [ltOf, cb]
    have nlt_iff : ∀ p q : β, ltOf cb p q = false ↔ ¬ cf p.1.2 q.1.2 < 0 := fun p q => by rw [← lt_iff]; simp
    have hO : SWO (ltOf cb) := ⟨fun x => (nlt_iff x x).2 (irr _ x.2.2.1), fun x y z h1 h2 => (lt_iff x z).2 (tr _ _ _ x.2.2.1 y.2.2.1 z.2.2.1 ((lt_iff x y).1 h1) ((lt_iff y z).1 h2)),
      fun x y z h1 h2 => (nlt_iff x z).2 (ntr _ _ _ x.2.2.1 y.2.2.1 z.2.2.1 ((nlt_iff x y).1 h1) ((nlt_iff y z).1 h2))⟩
    have flat_at : ∀ (dd : Array β) (k : Nat), k < dd.size * c → (flatK en c dd)[k]! = ((dd[k / c]!).1.1.toList)[k % c]! := fun dd k hk => get_flatK en c dd k hk
    have hH : HoldsK en c w b off d := by
      intro k hk
      rw [size_flatK, hds] at hk
      have hkc : k / c < m.length := by rw [Nat.div_lt_iff_lt_mul hc]; exact hk
      have hkm : k % c < c := Nat.mod_lt _ hc
      obtain ⟨v, g1, _⟩ := cellAt (k / c) (k % c) hkc hkm
      have ek : k / c * c + k % c = k := by rw [Nat.mul_comm]; exact Nat.div_add_mod k c
      rw [ek] at g1
      have e1 : (flatK en c d)[k]! = v := by
        rw [flat_at d k (by rw [hds]; exact hk)]
        have e2 : (d[k / c]!).1.1 = us (k / c) := by
          rw [getElem!_pos d (k / c) (by rw [hds]; exact hkc)]
          simp [d]
        rw [e2]
        have e3 : (us (k / c)).toList[k % c]? = some v := by
          simp only [us, Array.toList_map, Array.toList_range, List.getElem?_map, List.getElem?_range, hkm, Option.map_some, Array.getD_eq_getD_getElem?, ek, g1]
          simp
        rw [List.getElem!_eq_getElem?_getD, e3]; rfl
      rw [e1]
      have hlt := (Array.getElem?_eq_some_iff.1 g1).1
      refine ⟨?_, by simp [World.frozen?, hb]⟩
      simp only [World.cell?, hb, Option.isSome_none, Bool.false_eq_true, if_false]
      exact g1
    have hcmp : CmpLays P g #[] en c cb b off d.size w := by
      intro q os dk hdk x y
      have mono : ∀ p : β, CellsR Fz D (sortWorldK en c w b off q dk os) (enc p.1.2) p.1.1 := fun p =>
        ⟨p.2.2.2.1, fun j x v hx hv => (p.2.2.2.2 j x v hx hv).mono (fun _ h => h) (fun _ _ h => h) (fun k hk => sortWorldK_other (hin k hk) (fun e => hz (by rw [← e]; exact hk)))⟩
      have := hcl Fz D (sortWorldK en c w b off q dk os) x.1.2 y.1.2 x.1.1 y.1.1 x.2.2.1 y.2.2.1 (mono x) (mono y)
      simpa [en] using this
    have hrun := AnyQ.slices_SortFunc L c aE zE en (fun x => by simp [en, x.2.1]) (fun x v hv => by
      have := all_one x.2.2.2 (leaf x.1.2) v (by simpa [en] using hv)
      exact one_cell' this) cb hO g #[] b off cap d w eg hcmp hH hblt (by rw [hds]; exact hlen)
    rw [hds] at hrun
    rw [List.length_map]
    refine hrun.mono ?_
    rintro e w' ⟨rfl, d', q, os, hpi, hsi, rfl⟩
    have hds' : d'.size = m.length := by rw [hpi.1, hds]
    have hperm : d'.toList.Perm d.toList := by
      have := hpi.2.2
      have e1 : d'.extract 0 m.length = d' := by rw [← hds']; exact Array.extract_size
      have e2 : d.extract 0 m.length = d := by rw [← hds]; exact Array.extract_size
      rwa [e1, e2] at this
    have hdm : d.toList.map (fun p => p.1.2) = m := by
      apply List.ext_getElem
      · simp [hds]
      · intro i h1 h2
        simp [d]
    have hpm : (d'.toList.map (fun p => p.1.2)).Perm m := by
      have := hperm.map (fun p : β => p.1.2)
      rwa [hdm] at this
    have hsort : (d'.toList.map (fun p => p.1.2)).Pairwise (fun x y => ¬ cf y x < 0) := by
      rw [List.pairwise_iff_getElem]
      intro i j hi hj hij
      simp only [List.length_map, Array.length_toList] at hi hj
      have := hsi i j (Nat.zero_le _) hij (by rw [← hds']; exact hj)
      rw [nlt_iff, getElem!_pos d' j hj, getElem!_pos d' i hi] at this
      simpa using this
    have hmem : ∀ x ∈ d'.toList.map (fun p => p.1.2), Pd x := fun x hx => hm x (hpm.mem_iff.1 hx)
    have heq : d'.toList.map (fun p => p.1.2) = m' := by
      refine List.Perm.eq_of_pairwise (le := fun x y => ¬ cf y x < 0) ?_ hsort hs (hpm.trans hp.symm)
      intro x y hx hy h1 h2
      exact tot x y (hmem x hx) (hm y (hp.mem_iff.1 hy)) h2 h1
    refine ⟨rfl, rfl, rfl, rfl, ?_, fun k hk hkb => sortWorldK_other hk hkb, _, sortWorldK_at hb, by simp [putCells], fun k x hx => ?_⟩
    · show w.heap.size ≤ ((putRowK en c (Sort.ahead w q) b off d').heap ++ os).size
      simp [putRowK, Sort.ahead]
    · have hw' : ∀ es ∈ m'.map enc, es.length = c := fun es hes => by obtain ⟨x, _, rfl⟩ := List.mem_map.1 hes; rw [Enc.hw, hwc]
      obtain ⟨i, j, es, rfl, hj, e1, e2⟩ := flatten_inv hw' hx
      rw [List.getElem?_map] at e1
      obtain ⟨y, hy, rfl⟩ := Option.map_eq_some_iff.1 e1
      have hi : i < d'.size := by
        have := (List.getElem?_eq_some_iff.1 hy).1
        rw [hds']; omega
      have hiy : (d'[i]).1.2 = y := by
        rw [← heq, List.getElem?_map] at hy
        simpa [hi] using hy
      have hk : i * c + j < d'.size * c := by
        have : (i + 1) * c ≤ d'.size * c := Nat.mul_le_mul_right c hi
        rw [Nat.succ_mul] at this; omega
      have hd1 : (i * c + j) / c = i := by rw [Nat.mul_comm, Nat.mul_add_div hc, Nat.div_eq_of_lt hj, Nat.add_zero]
      have hd2 : (i * c + j) % c = j := by rw [Nat.mul_comm, Nat.mul_add_mod, Nat.mod_eq_of_lt hj]
      have hjs : j < (d'[i]).1.1.size := by rw [(d'[i]).2.1]; exact hj
      have hval : (flatK en c d')[i * c + j]! = (d'[i]).1.1[j] := by
        rw [flat_at d' _ hk, hd1, hd2, getElem!_pos d' i hi, List.getElem!_eq_getElem?_getD]
        simp [hjs]
      refine ⟨(d'[i]).1.1[j], ?_, (d'[i]).2.2.2.2 j x _ (by rw [hiy]; exact e2) (Array.getElem?_eq_getElem hjs)⟩
      have hoff : off + (i * c + j) < vs.size := by rw [hds'] at hk; omega
      simp only [putCells, Array.getElem?_mapIdx, Array.getElem?_eq_getElem hoff, Option.map_some, Option.some.injEq]
      rw [if_pos ⟨by omega, by rw [size_flatK]; omega⟩, show off + (i * c + j) - off = i * c + j from by omega, hval]; rfl
end Go.AL
end
section
set_option linter.unusedVariables false
set_option linter.unusedSimpArgs false
namespace Go.AL
open Enc

theorem evEnd_imp {F : Cfg} {rs : List ResultVar} {S : St} {K K' : AV → Objs → Prop} (hk : ∀ r G, K r G → K' r G) (h : evEnd F rs S K) : evEnd F rs S K' := by
  unfold evEnd at *
  rcases h with h | ⟨h0, h⟩
  · refine .inl ?_
    split at h
    · split at h
      · exact hk _ _ h
      · exact h.elim
    · exact h.elim
  · refine .inr ⟨h0, ?_⟩
    split at h
    · exact ⟨h.1, hk _ _ h.2⟩
    · exact ⟨h.1, hk _ _ h.2⟩
    · exact h.elim

structure DoesL (P : Program) (f : FuncId) (vs cs : List AV) (Post : AV → List AV → Prop) : Prop where
  h : ∀ id, Does P false f (.ptr id 0 :: vs) (Objs.set O0 id cs) (fun r G' => ∃ cs', G' = Objs.set O0 id cs' ∧ Post r cs')

def finL (F : Cfg) (rs : List ResultVar) (Post : AV → List AV → Prop) : Exit → St → Prop := fun x S => match x with
  | .normal | .ret => ∃ cs', lk S.loc 1000000 = some cs' ∧ ∀ id, evEnd F rs ⟨kl (inP 1000000 id) S.env, rm S.loc 1000000, Objs.set O0 id cs'⟩ (fun r G'' => G'' = Objs.set O0 id cs' ∧ Post r.deEmp cs')
  | _ => False

theorem doesL_walk (n : Nat) {F : Cfg} (hΔ : Tab.Ok F.P F.Δ) (hm : F.P.follows .mixedOrders = true) {f : FuncId} {fn : Func} {c : Code} {vs cs : List AV} {Post : AV → List AV → Prop} (hf : F.P.funcs[f]? = some fn) (hb : fn.body = some c)
    (hq : ∀ T : Task F, (∀ x a w, (∃ S X, finL F fn.results.toList Post x S ∧ Rdy F T S X a w) → T.Q x a w) → E1 F T [] c ((0, .lptr 1000000 0) :: argEnv 1 vs) [(1000000, cs)] O0)
    (hqt : F.qt = false := by exact rfl) (hvs : vs.all AV.isDeep = true := by exact rfl)
    (hn : vs.length + 1 = n := by exact rfl) (hname : (fn.name == "runtime.NumGoroutine") = false := by decide) (hok : codeOk (n + (fn.ntmps - n)) F.tk c = true := by decide +kernel) : DoesL F.P f vs cs Post := by
  refine ⟨fun id => ?_⟩
  have main : Does F.P F.qt f (.ptr id 0 :: vs) (Objs.set O0 id cs) (fun r G' => ∃ cs', G' = Objs.set O0 id cs' ∧ Post r cs') := by
    refine Does.deP (does_of_wpL (Post := fun r G' => ∃ cs', G' = Objs.set O0 id cs' ∧ Post r.deEmp cs') hΔ (fun D j => if j = 1000000 then (D id).getD 0 else 0) hm hf hb hname ?_)
    intro X a w hL hfin hr hsz hd
    obtain ⟨Xo, b0, g0, g1, ro, hLo, fo⟩ := hr.opn (id := id) (k := 1000000) (cs := cs) (by simp [Objs.set_eq]) rfl
    have hXL : X.L 1000000 = b0 := by rw [hL]; simp [g0]
    have f0 : Fs false X w Xo w := fo Xo.L (fun j hj => by
      by_cases e : j = 1000000
      · rw [e, g1, hXL]
      · exact hLo j e)
    have hp : a.tmps.getD 0 undef = .pointer (some ⟨b0, 0, none⟩) := by
      obtain ⟨b, e1, e2⟩ := Rv.ptr_inv (show Rv X.Fz X.D w (.ptr id 0) _ from (hr.env 0 (.ptr id 0) rfl).2)
      rw [g0] at e1; cases e1; exact e2
    have ro2 : RX Xo ⟨(0, .lptr 1000000 0) :: argEnv 1 vs, [(1000000, cs)], O0⟩ a w := by
      refine ro.addp (fun t x hx => ?_) (fun j cs0 hj => hj) (fun i cs0 hi => by cases hi)
      by_cases e : 0 = t
      · subst e
        have hx : lk ((0, AV.lptr 1000000 0) :: argEnv 1 vs) 0 = some x := hx
        rw [lk_cons, if_pos rfl] at hx
        cases hx
        exact .inr ⟨1000000, 0, rfl, (hr.env 0 (.ptr id 0) rfl).1, by rw [hp, g1]⟩
      · have hx : lk ((0, AV.lptr 1000000 0) :: argEnv 1 vs) t = some x := hx
        rw [lk_cons, if_neg e] at hx
        refine .inl (kl_lk ?_ ?_)
        · show lk ((0, AV.ptr id 0) :: argEnv 1 vs) t = some x
          rw [lk_cons, if_neg e]; exact hx
        · rw [argEnv_get] at hx
          split at hx
          · have hdp := List.all_eq_true.1 hvs x (List.mem_of_getElem? hx)
            cases x <;> first | rfl | cases hdp
          · cases hx
    let Q := Qc F ((AV.ptr id 0 :: vs).length + (fn.ntmps - (AV.ptr id 0 :: vs).length)) X w (finQ F fn.results.toList (Objs.set O0 id cs) (fun r G' => ∃ cs', G' = Objs.set O0 id cs' ∧ Post r cs'))
    have := (hq ⟨X, w, (AV.ptr id 0 :: vs).length + (fn.ntmps - (AV.ptr id 0 :: vs).length), Q, hfin, hΔ, hm⟩ ?_).h (by simpa [hn] using hok) Xo a w ⟨ro2, hsz, hd, by rw [hqt]; exact f0⟩
    · exact this
    · rintro x a' w' ⟨S, X1, h1, h2⟩
      have key : ∀ cs', lk S.loc 1000000 = some cs' → (∀ id, evEnd F fn.results.toList ⟨kl (inP 1000000 id) S.env, rm S.loc 1000000, Objs.set O0 id cs'⟩ (fun r G'' => G'' = Objs.set O0 id cs' ∧ Post r.deEmp cs')) →
          ∃ S2 X2, evEnd F fn.results.toList S2 (fun r G'' => ∃ G', (∃ cs', G' = Objs.set O0 id cs' ∧ Post r.deEmp cs') ∧ (∀ id cs, G' id = some cs → G'' id = some cs) ∧ (F.qt = true → G' = Objs.set O0 id cs)) ∧ RX X2 S2 a' w' ∧ Fs F.qt X w X2 w' := by
        intro cs' hk he
        have f2 : Fs false X w X1 w' := by have := h2.fs; rwa [hqt] at this
        have hD : X1.D id = some (X1.L 1000000) := by rw [f2.L 1000000 (Nat.le_refl _), hXL]; exact f2.D _ _ g0
        refine ⟨_, _, evEnd_imp (fun r G'' ⟨e1, e2⟩ => ⟨Objs.set O0 id cs', ⟨cs', rfl, e2⟩, fun _ _ h => by rw [e1]; exact h, fun h => by rw [hqt] at h; cases h⟩) (he id), h2.rx.pub hk (.inr hD) (fun u x hx => .inl (lk_kl hx)), ?_⟩
        rw [hqt]
        exact f2.trans (fs_pub (.inr hD) (h2.rx.loc _ _ hk).1)
      cases x with
      | normal => obtain ⟨cs', hk, he⟩ := h1; obtain ⟨S2, X2, e1, e2, e3⟩ := key cs' hk he; exact ⟨S2, X2, e1, e2, h2.n, h2.d, e3⟩
      | ret => obtain ⟨cs', hk, he⟩ := h1; obtain ⟨S2, X2, e1, e2, e3⟩ := key cs' hk he; exact ⟨S2, X2, e1, e2, h2.n, h2.d, e3⟩
      | _ => exact h1.elim
  rwa [hqt] at main
end Go.AL
end
section
set_option linter.unusedVariables false
set_option linter.unusedSimpArgs false
namespace Go.AL
open Enc
variable {F : Cfg} {T : Task F} {k : List Frm} {K Q : St → Prop} {e e' : Env} {l l' : Loc} {G G' : Objs} {ops : Array Oper} {o : Oper} {os : List Oper} {n : Nat}

theorem finL_ {x : Exit} {rs : List ResultVar} {Post : AV → List AV → Prop} {cs' : List AV} (hT : ∀ x a w, (∃ S X, finL F rs Post x S ∧ Rdy F T S X a w) → T.Q x a w) (h : nxt k x = ([], .normal) ∨ nxt k x = ([], .ret)) (hc : lk l 1000000 = some cs')
    (key : ∀ id, evEnd F rs ⟨kl (inP 1000000 id) e, rm l 1000000, Objs.set O0 id cs'⟩ (fun r G'' => G'' = Objs.set O0 id cs' ∧ Post r.deEmp cs')) : E2 F T k x e l G := by
  refine ⟨fun X a w hr => ?_⟩
  rw [nxt_eq]
  rcases h with h | h <;> rw [h] <;> exact hT _ a w ⟨_, X, ⟨cs', hc, key⟩, hr⟩
theorem n_endL {x : Exit} {rs : List ResultVar} {Post : AV → List AV → Prop} {v : AV} {cs' : List AV} {S : Nat → St} (hT : ∀ x a w, (∃ S X, finL F rs Post x S ∧ Rdy F T S X a w) → T.Q x a w) (hp : Post v.deEmp cs') (h : nxt k x = ([], .normal) ∨ nxt k x = ([], .ret) := by first | exact .inl rfl | exact .inr rfl)
    (hc : lk l 1000000 = some cs' := by exact rfl)
    (h1 : ∀ id, St.frzResOk ⟨kl (inP 1000000 id) e, rm l 1000000, Objs.set O0 id cs'⟩ F rs = true := by exact fun _ => rfl) (h2 : ∀ id, St.frzRes ⟨kl (inP 1000000 id) e, rm l 1000000, Objs.set O0 id cs'⟩ F rs = S id := by exact fun _ => rfl) (h3 : ∀ id, resAll F (S id) rs = some [v] := by exact fun _ => rfl) (h4 : v.isDeep = true := by exact rfl) (h5 : ∀ id, (S id).G = Objs.set O0 id cs' := by exact fun _ => rfl) : E2 F T k x e l G := by
  refine finL_ hT h hc (fun id => .inr ⟨h1 id, ?_⟩)
  rw [h2, h3]
  exact ⟨h4, h5 id, hp⟩
theorem n_endsL {x : Exit} {rs : List ResultVar} {Post : AV → List AV → Prop} {v1 v2 : AV} {vs cs' : List AV} {S : Nat → St} (hT : ∀ x a w, (∃ S X, finL F rs Post x S ∧ Rdy F T S X a w) → T.Q x a w) (hp : Post (AV.deEmp (.tup (v1 :: v2 :: vs))) cs') (h : nxt k x = ([], .normal) ∨ nxt k x = ([], .ret) := by first | exact .inl rfl | exact .inr rfl)
    (hc : lk l 1000000 = some cs' := by exact rfl)
    (h1 : ∀ id, St.frzResOk ⟨kl (inP 1000000 id) e, rm l 1000000, Objs.set O0 id cs'⟩ F rs = true := by exact fun _ => rfl) (h2 : ∀ id, St.frzRes ⟨kl (inP 1000000 id) e, rm l 1000000, Objs.set O0 id cs'⟩ F rs = S id := by exact fun _ => rfl) (h3 : ∀ id, resAll F (S id) rs = some (v1 :: v2 :: vs) := by exact fun _ => rfl) (h4 : (v1 :: v2 :: vs).all AV.isDeep = true := by exact rfl) (h5 : ∀ id, (S id).G = Objs.set O0 id cs' := by exact fun _ => rfl) : E2 F T k x e l G := by
  refine finL_ hT h hc (fun id => .inr ⟨h1 id, ?_⟩)
  rw [h2, h3]
  exact ⟨h4, h5 id, hp⟩
theorem n_endLO {x : Exit} {u c : Nat} {m : List (List AV)} {Post : AV → List AV → Prop} {cs' : List AV} (hT : ∀ x a w, (∃ S X, finL F [.tmp u] Post x S ∧ Rdy F T S X a w) → T.Q x a w) (hp : Post (.own c m) cs') (h : nxt k x = ([], .normal) ∨ nxt k x = ([], .ret) := by first | exact .inl rfl | exact .inr rfl)
    (hc : lk l 1000000 = some cs' := by exact rfl) (hu : ∀ id, lk (kl (inP 1000000 id) e) u = some (.own c m) := by exact fun _ => rfl) : E2 F T k x e l G := by
  refine finL_ hT h hc (fun id => .inl ?_)
  have hu' : St.get ⟨kl (inP 1000000 id) e, rm l 1000000, Objs.set O0 id cs'⟩ u = some (.own c m) := hu id
  simp only [hu']
  exact ⟨trivial, hp⟩

theorem kl_id {r : AV → Bool} : ∀ {e : Env}, (e.all fun p => !(r p.2)) = true → kl r e = e
  | [], _ => rfl
  | (a, x) :: e, h => by
    simp only [List.all_cons, Bool.and_eq_true, Bool.not_eq_true'] at h
    simp only [kl, h.1, Bool.false_eq_true, if_false, kl_id h.2]
theorem l_wop {cl : Call} {f : FuncId} {t u kk : Nat} {xs : List Operand} {cs cs' vs us : List AV} {r : AV} (h : DoesL F.P f vs cs (fun x c => x = r ∧ c = cs')) (ho : o.op = .call cl) (hc : cl.callee = .value (.func f)) (ha : cl.args.toList = .tmp u :: xs) (hd : o.dst = some t) (hqt : F.qt = false)
    (hu : lk e u = some (.lptr kk 0)) (hk : lk l kk = some cs) (hus : St.argsOf ⟨e, l, O0⟩ xs = some us) (hvs : us.map AV.deEmp = vs) (hi : r.deEmp = r) (hdeep : St.deepArgs ⟨e, l, O0⟩ xs = true) (hres : resOk r = true) (hno : noGs e = true) (hnl : (e.all fun p => !(p.2.at_ (inL kk))) = true) :
    wop F.P F.Δ F.qt F.gs ⟨e, l, O0⟩ o (fun S => S = St.put ⟨e, up l kk cs', O0⟩ t r) := by
  unfold wop
  rw [ho]
  simp only [hc]
  refine .inr (.inr ⟨hqt, u, kk, xs, cs, us, ha, hu, hk, hus, hdeep, rfl, hno, fun id => ?_⟩)
  refine Does.de (Post := fun x G' => ∃ c', G' = Objs.set O0 id c' ∧ x = r ∧ c' = cs') ?_ ?_
  · have := h.h id
    subst hvs
    exact this
  · rintro x G' ⟨c', rfl, rfl, rfl⟩
    refine ⟨_, rfl, by rw [hi]; exact hres, ?_⟩
    rw [hi, kl_id hnl, hd]
    rfl
theorem oL {cl : Call} {f : FuncId} {t u kk : Nat} {xs : List Operand} {cs cs' vs us : List AV} {r : AV} (h : DoesL F.P f vs cs (fun x c => x = r ∧ c = cs')) (hk : E3 F T k ops os ((t, r) :: e) l' O0) (ho : o.op = .call cl := by exact rfl) (hc : cl.callee = .value (.func f) := by exact rfl) (ha : cl.args.toList = .tmp u :: xs := by exact rfl) (hd : o.dst = some t := by exact rfl) (hg : o.guard = none := by exact rfl) (hqt : F.qt = false := by exact rfl)
    (hu : lk e u = some (.lptr kk 0) := by exact rfl) (hkk : lk l kk = some cs := by exact rfl) (hus : St.argsOf ⟨e, l, O0⟩ xs = some us := by exact rfl) (hvs : us.map AV.deEmp = vs := by exact rfl) (hi : r.deEmp = r := by exact rfl) (hdeep : St.deepArgs ⟨e, l, O0⟩ xs = true := by exact rfl) (hres : resOk r = true := by exact rfl) (hno : noGs e = true := by exact rfl) (hnl : (e.all fun p => !(p.2.at_ (inL kk))) = true := by exact rfl) (hr : noRefs t e = true := by exact rfl)
    (hl : up l kk cs' = l' := by ((repeat (refine nlc (m' := ?_) rfl ?_; rotate_left)); exact nln rfl)) : E3 F T k ops (o :: os) e l O0 :=
  o_none hg (l_wop h ho hc ha hd hqt hu hkk hus hvs hi hdeep hres hno hnl) (fun S' hS hΔ hd X a w hr' => hk.h hΔ hd X a w (hr'.weaken (by rw [hS, hl]; exact cons_le hr)))
theorem gL {cl : Call} {f : FuncId} {t u kk j tj : Nat} {w p : Bool} {xs : List Operand} {cs cs' vs us : List AV} {r : AV} (h : DoesL F.P f vs cs (fun x c => x = r ∧ c = cs')) (hk : E3 F T k ops os ((t, r) :: e) l' O0) (ho : o.op = .call cl := by exact rfl) (hc : cl.callee = .value (.func f) := by exact rfl) (ha : cl.args.toList = .tmp u :: xs := by exact rfl) (hd : o.dst = some t := by exact rfl)
    (hg : o.guard = some (j, w) := by exact rfl) (ht : gtmp ops j = some tj := by exact rfl) (hv : lk e tj = some (.bool p) := by exact rfl) (hp : p = w := by with_reducible exact rfl) (hqt : F.qt = false := by exact rfl)
    (hu : lk e u = some (.lptr kk 0) := by exact rfl) (hkk : lk l kk = some cs := by exact rfl) (hus : St.argsOf ⟨e, l, O0⟩ xs = some us := by exact rfl) (hvs : us.map AV.deEmp = vs := by exact rfl) (hi : r.deEmp = r := by exact rfl) (hdeep : St.deepArgs ⟨e, l, O0⟩ xs = true := by exact rfl) (hres : resOk r = true := by exact rfl) (hno : noGs e = true := by exact rfl) (hnl : (e.all fun p => !(p.2.at_ (inL kk))) = true := by exact rfl) (hr : noRefs t e = true := by exact rfl)
    (hl : up l kk cs' = l' := by ((repeat (refine nlc (m' := ?_) rfl ?_; rotate_left)); exact nln rfl)) : E3 F T k ops (o :: os) e l O0 :=
  o_yes hg ht (hp ▸ hv) (l_wop h ho hc ha hd hqt hu hkk hus hvs hi hdeep hres hno hnl) (fun S' hS hΔ hd X a w hr' => hk.h hΔ hd X a w (hr'.weaken (by rw [hS, hl]; exact cons_le hr)))
theorem tL {cl : Call} {f : FuncId} {t u kk : Nat} {xs : List Operand} {cs cs' vs us : List AV} {r : AV} (h : DoesL F.P f vs cs (fun x c => x = r ∧ c = cs')) (hk : E5 F Q ops os e' l' O0) (ho : o.op = .call cl := by exact rfl) (hc : cl.callee = .value (.func f) := by exact rfl) (ha : cl.args.toList = .tmp u :: xs := by exact rfl) (hd : o.dst = some t := by exact rfl) (hg : o.guard = none := by exact rfl) (hqt : F.qt = false := by exact rfl)
    (hu : lk e u = some (.lptr kk 0) := by exact rfl) (hkk : lk l kk = some cs := by exact rfl) (hus : St.argsOf ⟨e, l, O0⟩ xs = some us := by exact rfl) (hvs : us.map AV.deEmp = vs := by exact rfl) (hi : r.deEmp = r := by exact rfl) (hdeep : St.deepArgs ⟨e, l, O0⟩ xs = true := by exact rfl) (hres : resOk r = true := by exact rfl) (hno : noGs e = true := by exact rfl) (hnl : (e.all fun p => !(p.2.at_ (inL kk))) = true := by exact rfl)
    (he : up (kl (AV.refs (.t t)) e) t r = e' := by ((repeat (refine nlc (m' := ?_) rfl ?_; rotate_left)); exact nln rfl))
    (hl : up l kk cs' = l' := by ((repeat (refine nlc (m' := ?_) rfl ?_; rotate_left)); exact nln rfl)) : E5 F Q ops (o :: os) e l O0 :=
  ⟨by simp only [evOps, hg]; exact wop_mono (fun S hS => by rw [hS, st_of (S := St.put ⟨e, up l kk cs', O0⟩ t r) he hl rfl]; exact hk.h) (l_wop h ho hc ha hd hqt hu hkk hus hvs hi hdeep hres hno hnl)⟩

theorem tLg {cl : Call} {f : FuncId} {t u kk j tj : Nat} {w p : Bool} {xs : List Operand} {cs cs' vs us : List AV} {r : AV} (h : DoesL F.P f vs cs (fun x c => x = r ∧ c = cs')) (hk : E5 F Q ops os e' l' O0) (ho : o.op = .call cl := by exact rfl) (hc : cl.callee = .value (.func f) := by exact rfl) (ha : cl.args.toList = .tmp u :: xs := by exact rfl) (hd : o.dst = some t := by exact rfl) (hg : o.guard = some (j, w) := by exact rfl) (ht : gtmp ops j = some tj := by exact rfl) (hv : lk e tj = some (.bool p) := by exact rfl) (hp : p = w := by with_reducible exact rfl) (hqt : F.qt = false := by exact rfl)
    (hu : lk e u = some (.lptr kk 0) := by exact rfl) (hkk : lk l kk = some cs := by exact rfl) (hus : St.argsOf ⟨e, l, O0⟩ xs = some us := by exact rfl) (hvs : us.map AV.deEmp = vs := by exact rfl) (hi : r.deEmp = r := by exact rfl) (hdeep : St.deepArgs ⟨e, l, O0⟩ xs = true := by exact rfl) (hres : resOk r = true := by exact rfl) (hno : noGs e = true := by exact rfl) (hnl : (e.all fun p => !(p.2.at_ (inL kk))) = true := by exact rfl)
    (he : up (kl (AV.refs (.t t)) e) t r = e' := by ((repeat (refine nlc (m' := ?_) rfl ?_; rotate_left)); exact nln rfl))
    (hl : up l kk cs' = l' := by ((repeat (refine nlc (m' := ?_) rfl ?_; rotate_left)); exact nln rfl)) : E5 F Q ops (o :: os) e l O0 := by
  have hv := hp ▸ hv
  refine ⟨evgt hg ht hv (fun _ => ?_) (fun h => by cases w <;> cases h)⟩
  simp only [St.setb, up_same hv]
  exact wop_mono (fun S hS => by rw [hS, st_of (S := St.put ⟨e, up l kk cs', O0⟩ t r) he hl rfl]; exact hk.h) (l_wop h ho hc ha hd hqt hu hkk hus hvs hi hdeep hres hno hnl)

theorem oP {cl : Call} {f : FuncId} {t : Nat} {vs us : List AV} {Post : AV → Objs → Prop} (h : Does F.P false f vs O0 Post) (hk : ∀ r G', Post r G' → E3 F T k ops os ((t, r) :: e) l G') (hr1 : ∀ r G', Post r G' → r.deEmp = r ∧ r.isDeep = true) (ho : o.op = .call cl := by exact rfl) (hc : cl.callee = .value (.func f) := by exact rfl)
    (hd : o.dst = some t := by exact rfl) (hg : o.guard = none := by exact rfl) (hqt : F.qt = false := by exact rfl) (hus : St.argsOf ⟨e, l, O0⟩ cl.args.toList = some us := by exact rfl) (hvs : us.map AV.deEmp = vs := by exact rfl) (hdeep : St.deepArgs ⟨e, l, O0⟩ cl.args.toList = true := by exact rfl) (hno : noG e = true := by exact rfl) (hr : noRefs t e = true := by exact rfl) : E3 F T k ops (o :: os) e l O0 := by
  have hw : wop F.P F.Δ F.qt F.gs ⟨e, l, O0⟩ o (fun S => ∃ r G', Post r G' ∧ S = St.put ⟨e, l, G'⟩ t r) := by
    unfold wop
    rw [ho]
    simp only [hc]
    refine .inr (.inl ?_)
    unfold wcallG
    obtain ⟨e1, e2⟩ := frzAll_deep hdeep
    refine ⟨e2 _, by rw [e1]; exact hdeep, ?_⟩
    rw [e1, hus, hqt]
    subst hvs
    simp only [List.append_nil]
    refine Does.de h (fun r G' hp => ?_)
    obtain ⟨q1, q2⟩ := hr1 r G' hp
    rw [q1]
    refine ⟨?_, r, G', hp, ?_⟩
    · cases r <;> first | exact q2 | cases q2
    · simp only [St.withG, St.putr, hd, kl_noG hno]
  refine o_none hg hw (fun S' hS hΔ hd X a w hr' => ?_)
  obtain ⟨r, G', hp, rfl⟩ := hS
  exact (hk r G' hp).h hΔ hd X a w (hr'.weaken (cons_le hr))
theorem c_opn (t : Nat) {c : Code} {id : Nat} {cs : List AV} (hk : E1 F T k c e' ((t, cs) :: l) O0) (hv : lk e t = some (.ptr id 0) := by exact rfl) (hl : lk l t = none := by exact rfl) (hqt : F.qt = false := by exact rfl) (ht : Nat.blt t 1000000 = true := by exact rfl)
    (he : up (kl (inO t) e) t (.lptr t 0) = e' := by ((repeat (refine nlc (m' := ?_) rfl ?_; rotate_left)); exact nln rfl)) : E1 F T k c e l (Objs.set O0 id cs) := by
  refine ⟨fun hc X a w hr => ?_⟩
  have htt : t < 1000000 := by simpa [Nat.blt_eq] using ht
  obtain ⟨Xo, b0, g0, g1, ro, hLo, fo⟩ := hr.rx.opn (id := id) (k := t) (cs := cs) (by simp [Objs.set_eq]) hl
  obtain ⟨p1, p2⟩ := hr.rx.env t _ (show St.get ⟨e, l, Objs.set O0 id cs⟩ t = _ from hv)
  obtain ⟨b, q1, q2⟩ := Rv.ptr_inv (show Rv X.Fz X.D w (.ptr id 0) _ from p2)
  rw [g0] at q1; cases q1
  refine hk.h hc Xo a w ⟨ro.addp (fun u x hx => ?_) (fun j cs0 hj => hj) (fun i cs0 hi => by cases hi), hr.n, hr.d, hr.fs.trans ?_⟩
  · subst he
    have hx : lk (up (kl (inO t) e) t (.lptr t 0)) u = some x := hx
    rw [lk_up] at hx
    by_cases c : u = t
    · rw [if_pos c] at hx; cases hx; subst c
      exact .inr ⟨_, 0, rfl, p1, by rw [q2, g1]⟩
    · rw [if_neg c] at hx; exact .inl hx
  · rw [hqt]
    exact fo Xo.L (fun j hj => hLo j (by omega))
theorem rdy_pub {id k0 : Nat} {cs : List AV} {X : Ctx} {a : Act} {w : World} (hr : Rdy F T ⟨e, l, G⟩ X a w) (hqt : F.qt = false) (hk : lk l k0 = some cs) (hid : X.D id = none) (he : ∀ u x, lk e' u = some x → (lk e u = some x ∧ inP k0 id x = false) ∨ (x = .ptr id 0 ∧ lk e u = some (.lptr k0 0))) :
    Rdy F T ⟨e', rm l k0, Objs.set O0 id cs⟩ (X.pub id k0) a w :=
  ⟨hr.rx.pub hk (.inl hid) he, hr.n, hr.d, hr.fs.trans (by rw [hqt]; exact fs_pub (.inl hid) (hr.rx.loc _ _ hk).1)⟩
theorem finP_ (t k0 : Nat) {x : Exit} {rs : List ResultVar} {Post : AV → Objs → Prop} {cs : List AV} (hT : ∀ x a w, (∃ S X, finQ F rs G Post x S ∧ Rdy F T S X a w) → T.Q x a w) (h : nxt k x = ([], .normal) ∨ nxt k x = ([], .ret)) (hqt : F.qt = false) (hv : lk e t = some (.lptr k0 0)) (hc : lk l k0 = some cs)
    (key : ∀ id, evEnd F rs ⟨(t, .ptr id 0) :: kl (fun x => inP k0 id x) e, rm l k0, Objs.set O0 id cs⟩ (fun r G'' => G'' = Objs.set O0 id cs ∧ Post r.deEmp (Objs.set O0 id cs))) : E2 F T k x e l G := by
  refine ⟨fun X a w hr => ?_⟩
  obtain ⟨M, hM⟩ := hr.fs.fin T.fin
  have hr' := rdy_pub (e' := (t, .ptr M 0) :: kl (fun x => inP k0 M x) e) hr hqt hc (hM M (Nat.le_refl _)) (fun u x hx => by
    rw [lk_cons] at hx
    by_cases c : t = u
    · rw [if_pos c] at hx; cases hx; subst c; exact .inr ⟨rfl, hv⟩
    · rw [if_neg c] at hx; exact .inl (lk_kl hx))
  rw [nxt_eq]
  have fin := evEnd_imp (K' := fun r G'' => ∃ G', Post r.deEmp G' ∧ (∀ id cs, G' id = some cs → G'' id = some cs) ∧ (F.qt = true → G' = G)) (fun r G'' ⟨e1, e2⟩ => ⟨_, e2, fun _ _ h => by rw [e1]; exact h, fun h => by rw [hqt] at h; cases h⟩) (key M)
  rcases h with h | h <;> rw [h] <;> exact hT _ a w ⟨_, _, fin, hr'⟩
theorem n_endsP (t k0 : Nat) {x : Exit} {rs : List ResultVar} {Post : AV → Objs → Prop} {v1 v2 : Nat → AV} {vs : Nat → List AV} {cs : List AV} {S : Nat → St} (hT : ∀ x a w, (∃ S X, finQ F rs G Post x S ∧ Rdy F T S X a w) → T.Q x a w) (hp : ∀ id, Post (AV.deEmp (.tup (v1 id :: v2 id :: vs id))) (Objs.set O0 id cs)) (h : nxt k x = ([], .normal) ∨ nxt k x = ([], .ret) := by first | exact .inl rfl | exact .inr rfl)
    (hqt : F.qt = false := by exact rfl) (hv : lk e t = some (.lptr k0 0) := by exact rfl) (hc : lk l k0 = some cs := by exact rfl)
    (h1 : ∀ id, St.frzResOk ⟨(t, .ptr id 0) :: kl (fun x => inP k0 id x) e, rm l k0, Objs.set O0 id cs⟩ F rs = true := by exact fun _ => rfl) (h2 : ∀ id, St.frzRes ⟨(t, .ptr id 0) :: kl (fun x => inP k0 id x) e, rm l k0, Objs.set O0 id cs⟩ F rs = S id := by exact fun _ => rfl) (h3 : ∀ id, resAll F (S id) rs = some (v1 id :: v2 id :: vs id) := by exact fun _ => rfl) (h4 : ∀ id, (v1 id :: v2 id :: vs id).all AV.isDeep = true := by exact fun _ => rfl) (h5 : ∀ id, (S id).G = Objs.set O0 id cs := by exact fun _ => rfl) : E2 F T k x e l G := by
  refine finP_ t k0 hT h hqt hv hc (fun id => .inr ⟨h1 id, ?_⟩)
  rw [h2, h3]
  exact ⟨h4 id, h5 id, hp id⟩
def deL : Loc → Loc
  | [] => []
  | (k, cs) :: l => (k, cs.map deEmp1) :: deL l
theorem lk_deL : ∀ (l : Loc) (k : Nat), lk (deL l) k = (lk l k).map (·.map deEmp1)
  | [], k => rfl
  | (a, cs) :: l, k => by
    simp only [deL, lk_cons]
    by_cases h : a = k
    · rw [if_pos h, if_pos h]; rfl
    · rw [if_neg h, if_neg h]; exact lk_deL l k
theorem RX.deL {X : Ctx} {a : Act} {w : World} (h : RX X ⟨e, l, G⟩ a w) : RX X ⟨e, Go.AL.deL l, G⟩ a w := by
  have own : ∀ q, St.ownAt ⟨e, Go.AL.deL l, G⟩ q ≠ none → St.ownAt ⟨e, l, G⟩ q ≠ none := by
    intro q hq
    cases q with
    | l k off =>
      obtain ⟨cs, c, m, e1, e2⟩ := live_l hq
      have e1 : lk (Go.AL.deL l) k = some cs := e1
      rw [lk_deL] at e1
      obtain ⟨cs0, f1, rfl⟩ := Option.map_eq_some_iff.1 e1
      rw [List.getElem?_map] at e2
      obtain ⟨y, f2, f3⟩ := Option.map_eq_some_iff.1 e2
      have : y = .own c m := by cases y <;> first | exact f3 | cases f3
      subst this
      have f1 : lk (St.mk e l G).loc k = some cs0 := f1
      simp [St.ownAt, f1, f2]
    | t n => exact hq
    | g k off => exact hq
    | res => exact absurd rfl hq
  refine ⟨fun t x hx => ?_, fun k cs hk => ?_, fun i cs hi => h.gob i cs hi, h.dis, h.inh⟩
  · obtain ⟨m1, m2⟩ := h.env t x hx
    exact ⟨m1, m2.congr (fun _ _ => rfl) (fun q _ hq => ⟨own q hq, rfl⟩)⟩
  · have hk : lk (Go.AL.deL l) k = some cs := hk
    rw [lk_deL] at hk
    obtain ⟨cs0, f1, rfl⟩ := Option.map_eq_some_iff.1 hk
    obtain ⟨m1, vs, T, m2, m3, m4⟩ := h.loc k cs0 f1
    refine ⟨m1, vs, T, m2, by simpa using m3, fun i x hx => ?_⟩
    rw [List.getElem?_map] at hx
    obtain ⟨y, f2, rfl⟩ := Option.map_eq_some_iff.1 hx
    have := m4 i y f2
    cases y with
    | own c m => exact this
    | junk => trivial
    | emp => exact Rv.de1 (x := .emp) this
    | _ => exact this
theorem c_del {c : Code} (hk : E1 F T k c e l' G) (hl : deL l = l' := by ((repeat (refine nlp (x' := ?_) (m' := ?_) rfl ?_ ?_; rotate_left 2; focus ((repeat (first | (refine nlc (p := AV.int _ _) (m' := ?_) rfl ?_; rotate_left) | (refine nlc (p := AV.sl _) (m' := ?_) rfl ?_; rotate_left) | (refine nlc (p := AV.bool _) (m' := ?_) rfl ?_; rotate_left) | (refine nlc (p := AV.own _ _) (m' := ?_) rfl ?_; rotate_left) | (refine nlc (p := AV.str _) (m' := ?_) rfl ?_; rotate_left) | (refine nlc (p := AV.junk) (m' := ?_) rfl ?_; rotate_left) | (refine nlc (p := AV.nilp) (m' := ?_) rfl ?_; rotate_left) | (refine nlc (p := AV.ptrF _) (m' := ?_) rfl ?_; rotate_left) | (refine nlc (p := AV.fn _ _) (m' := ?_) rfl ?_; rotate_left))); exact nln rfl))); exact nln rfl)) : E1 F T k c e l G :=
  ⟨fun hc X a w hr => hk.h hc X a w ⟨by rw [← hl]; exact hr.rx.deL, hr.n, hr.d, hr.fs⟩⟩
theorem oAvd {α : Type} {iE : Enc α} (dec : List AV → α) {c : Call} {b s : Operand} {t t1 t2 u el sz by_ sz2 by2 el2 cw : Nat} {z z2 : List AV} {d : TD} {vs : AV} {cs : List AV} {m : List α} (hk : E3 F T k ops os e' l G) (ho : o.op = .call c := by exact rfl) (hc : c.callee = .builtin .append := by exact rfl)
    (ha : c.args.toList = [b, s] := by exact rfl) (hb : c.argTypes.toList = [t1, t2] := by exact rfl) (hdst : o.dst = some t := by exact rfl) (hg : o.guard = none := by exact rfl) (h1 : lk F.Δ t1 = some ⟨.slice el, sz, by_, z⟩ := by exact rfl) (h2 : lk F.Δ t2 = some ⟨.slice el2, sz2, by2, z2⟩ := by exact rfl)
    (hd : lk F.Δ el = some d := by exact rfl) (hs : St.val ⟨e, l, G⟩ s = some vs := by exact rfl) (hm : St.slOf ⟨e, l, G⟩ vs = some [cs] := by exact rfl) (hb' : St.val ⟨e, l, G⟩ b = some (.view (.t u)) := by exact rfl) (hu : lk e u = some (.own cw (m.map enc)) := by exact rfl) (hcw : cw = d.size := by exact rfl)
    (a1 : d.zero.length = d.size := by exact rfl) (a2 : (match d.k with | .tup | .fn => False | _ => True) := by exact trivial) (a3 : 0 < d.bytes := by exact Nat.le_of_ble_eq_true rfl) (hx : cs = enc (dec cs) := by exact rfl) (a4 : w α = d.size := by exact rfl) (a5 : (enc (dec cs)).all AV.leaf = true := by exact rfl)
    (a6 : (m.length + 1) * d.bytes ≤ 140737488355328 := by (try dsimp only); omega)
    (he : (St.put (St.take ⟨e, l, G⟩ (.t u)) t (.own d.size ((m ++ [dec cs]).map enc))).env = e' := by ((repeat (refine nlc (m' := ?_) rfl ?_; rotate_left)); exact nln rfl)) (hl : (St.put (St.take ⟨e, l, G⟩ (.t u)) t (.own d.size ((m ++ [dec cs]).map enc))).loc = l := by exact rfl) (hG : (St.put (St.take ⟨e, l, G⟩ (.t u)) t (.own d.size ((m ++ [dec cs]).map enc))).G = G := by exact rfl) : E3 F T k ops (o :: os) e l G :=
  oAv (dec cs) hk ho hc ha hb hdst hg h1 h2 hd hs hm hb' hu hcw a1 a2 a3 hx a4 a5 a6 he hl hG
end Go.AL
end
section
set_option linter.unusedVariables false
set_option linter.unusedSimpArgs false
namespace Go.AL
open Enc

def leaf0 : AV → Bool | .int .. => true | .bool _ => true | .str _ => true | _ => false
theorem leaf0_rv {Fz Fz' : Nat → Prop} {D D' : Nat → Option Nat} {w w' : World} {x : AV} {v : Value} (h : leaf0 x = true) (hv : Rv Fz D w x v) : Rv Fz' D' w' x v := by
  cases x <;> cases h
  · exact Rv.int_inv hv ▸ .int _ _
  · exact Rv.bool_inv hv ▸ .bool _
  · exact Rv.str_inv hv ▸ .str _

def Plain : AV → Prop
  | .own _ m => ∀ es ∈ m, ∀ x ∈ es, leaf0 x = true
  | x => leaf0 x = true
theorem plain_map {α : Type} [Enc α] {c : Nat} {m : List α} (h : ∀ y : α, ∀ x ∈ (enc y : List AV), leaf0 x = true) : Plain (.own c (m.map enc)) := by
  intro es hes
  obtain ⟨y, _, rfl⟩ := List.mem_map.1 hes
  exact h y

theorem lend_ok {P : Program} {X : Ctx} {S S1 : St} {a : Act} {w : World} (h : RX X S a w) (hfin : ∃ M, ∀ i, M ≤ i → X.D i = none) {X1 : Ctx} (h1 : RX X1 S1 a w) (hf1 : ∃ M, ∀ i, M ≤ i → X1.D i = none) {qt : Bool} {t : Nat} {f : FuncId} {args : List Operand} {us : List AV} {r : AV}
    (ht : t < a.tmps.size) (hd : ∀ G, Does P true f us G (fun x _ => x = r)) (hus : S1.argsOf args = some us) (hdeep : S1.deepArgs args = true) (hr : Plain r) :
    Calls P f (args.map a.eval).toArray w fun e w' => ∃ v X', e = .returned v ∧ RX X' (S.put t r) (a.put (some t) v) w' ∧ Fs qt X w X' w' := by
  have hl1 := (argsOf_ok h1 hus).1
  have hgo : Gonly X1.callee := fun b p hb => by
    have hb : gOwn X1.O b = some p := hb
    exact gOwn_g hb
  refine ((hd S1.G).run w _ X1.callee h1.callee hgo hf1 (by simp [hl1]) (fun i x hx => ?_)).mono ?_
  · obtain ⟨y, k1, k2⟩ := deepArgs_ok h1 hus hdeep i x hx
    have e1 : (args.map a.eval).toArray.getD i undef = a.eval y := by simp [Array.getD_eq_getD_getElem?, k1]
    rw [e1]
    exact k2
  · rintro e w' ⟨v, r', G', X', rfl, rfl, hG, hrr, hRX, hfs, hOw⟩
    have same : ∀ b, b < w.heap.size → w'.heap[b]? = w.heap[b]? := fun b hb => (hfs.keep b hb (.inl rfl)).1
    have hw : RX X S a w' := h.world hfs.size (fun b hb => same b (h.inh b hb))
    have base : Fs qt X w X w' := ⟨hfs.os, hfs.tape, hfs.output, hfs.size, fun b hb _ => ⟨same b hb, rfl, fun h => h⟩, fun _ h => h, fun _ _ h => h, fun h => h, fun _ _ => rfl⟩
    have leafcase : leaf0 r' = true → ∃ v_1 X'_1, Ending.returned v = .returned v_1 ∧ RX X'_1 (S.put t r') (a.put (some t) v_1) w' ∧ Fs qt X w X'_1 w' := by
      intro hl
      refine ⟨v, X, rfl, hw.put ht ?_, base⟩
      have hrv : Rv X'.Fz X'.D w' r' v := by cases r' <;> first | exact hrr | cases hl
      have := leaf0_rv (Fz' := X.Fz) (D' := X.D) (w' := w') hl hrv
      cases r' <;> first | exact this | cases hl
    cases r' with
    | own c m =>
      have hrr : OwnV X' w' .res c m v := hrr
      rcases hrr with hn | ⟨b, off, cap, vs, T, g1, g2, g3, g4, g5, g6, g7⟩
      · exact ⟨v, X, rfl, hw.put ht (.inl hn), base⟩
      · have hge : w.heap.size ≤ b := by
          rcases Nat.lt_or_ge b w.heap.size with hlt | hge
          · have := (hfs.keep b hlt (.inl rfl)).2.1
            rw [g2] at this
            have this : gOwn X1.O b = some (.row .res) := this.symm
            rcases gOwn_g this with ⟨_, e⟩ | ⟨_, _, e⟩ <;> cases e
          · exact hge
        have hO : X.O b = none := by
          cases e : X.O b with
          | none => rfl
          | some p => have := h.inh b (.inr (by rw [e]; simp)); omega
        have hz : ¬ X.Fz b := fun hz => by have := h.inh b (.inl hz); omega
        have hlt : b < w'.heap.size := (Array.getElem?_eq_some_iff.1 g3).1
        refine ⟨v, X.setO b (some (.row (.t t))), rfl, (hw.setO (b := b) (p := some (.row (.t t))) ⟨hz, .inl hO⟩ (fun _ => hlt)).put ht ?_, ?_⟩
        · refine .inr ⟨b, off, cap, vs, T, g1, setO_same _ _ _, g3, g4, g5, g6, fun k x hk => ?_⟩
          obtain ⟨v', q1, q2⟩ := g7 k x hk
          have hx : leaf0 x = true := by
            obtain ⟨es, he, hx⟩ := List.mem_flatten.1 (List.mem_of_getElem? hk)
            exact hr es he x hx
          exact ⟨v', q1, leaf0_rv hx q2⟩
        · exact ⟨hfs.os, hfs.tape, hfs.output, hfs.size, fun b' hb _ => ⟨same b' hb, setO_ne _ _ (by omega), fun h => h⟩, fun _ h => h, fun _ _ h => h, fun h => h, fun _ _ => rfl⟩
    | int k n => exact leafcase rfl
    | bool b => exact leafcase rfl
    | str s => exact leafcase rfl
    | _ => cases hr

variable {F : Cfg} {T : Task F} {k : List Frm} {K Q : St → Prop} {e e' : Env} {l l' : Loc} {G G' : Objs} {ops : Array Oper} {o : Oper} {os : List Oper} {n : Nat}
theorem oV {cl : Call} {f : FuncId} {t : Nat} {vs us : List AV} {r : AV} (h : ∀ G, Does F.P true f vs G (fun x _ => x = r)) (hr : Plain r) (hk : E3 F T k ops os ((t, r) :: e) l G) (ho : o.op = .call cl := by exact rfl) (hc : cl.callee = .value (.func f) := by exact rfl)
    (hd : o.dst = some t := by exact rfl) (hg : o.guard = none := by exact rfl) (hfo : St.frzAllOk ⟨e, l, G⟩ F.qt cl.args.toList = true := by exact rfl) (hus : St.argsOf (St.frzAll ⟨e, l, G⟩ cl.args.toList) cl.args.toList = some us := by exact rfl) (hvs : us.map AV.deEmp = vs := by exact rfl) (hi : r.deEmp = r := by exact rfl) (hdeep : St.deepArgs (St.frzAll ⟨e, l, G⟩ cl.args.toList) cl.args.toList = true := by exact rfl) (hno : noRefs t e = true := by exact rfl) : E3 F T k ops (o :: os) e l G := by
  refine o_run hg (S' := ⟨(t, r) :: e, l, G⟩) (fun hΔ hd X a w hr => hk.h hΔ hd X a w hr) (fun hΔ X a w hrx hfin ht N Q hN => ?_)
  have ht' := ht t hd
  obtain ⟨X1, h1, f1⟩ := hrx.frzAll cl.args.toList hfo
  have hcon : ∀ G, Does F.P true f us G (fun x _ => x = r) := fun G => by subst hvs; exact Does.de' (h G) hi
  have hrun := lend_ok (qt := F.qt) (t := t) hrx hfin h1 (f1.fin hfin) ht' hcon hus hdeep hr
  have hcall := (h G).call
  unfold Oper.wp
  rw [run_call ho hc hcall, Oper.upon_enter]
  have e9 : (cl.args.toList.map a.eval).toArray = cl.args.map a.eval := by apply Array.toList_inj.1; simp
  rw [e9] at hrun
  refine hrun.mono ?_
  rintro _ w' ⟨v, X', rfl, m1, m2⟩
  rw [hd]
  have m1' := m1.weaken (cons_le (l := l) (G := G) hno)
  exact hN v w' X' (by rw [hd]; exact m1') m2 |> fun z => by rw [hd] at z; exact z
theorem fzl (t : Nat) {kk off : Nat} (hk : E3 F T k ops os e' l' G) (hv : lk e t = some (.lptr kk off) := by exact rfl) (he : (St.frz ⟨e, l, G⟩ (.tmp t)).env = e' := by ((repeat (refine nlc (m' := ?_) rfl ?_; rotate_left)); exact nln rfl)) (hl : (St.frz ⟨e, l, G⟩ (.tmp t)).loc = l' := by ((repeat (refine nlc (m' := ?_) rfl ?_; rotate_left)); exact nln rfl)) (hG : (St.frz ⟨e, l, G⟩ (.tmp t)).G = G := by exact rfl) : E3 F T k ops os e l G := by
  have hq : St.frzOk ⟨e, l, G⟩ F.qt (.tmp t) = true := by
    have hv' : St.get ⟨e, l, G⟩ t = some (.lptr kk off) := hv
    simp [St.frzOk, hv']
  refine ⟨fun hΔ hd X a w hr => ?_⟩
  obtain ⟨X', h1, h2⟩ := hr.rx.frz (x := .tmp t) hq
  rw [st_of he hl hG] at h1
  exact hk.h hΔ hd X' a w ⟨h1, hr.n, hr.d, hr.fs.trans h2⟩
theorem oCfc {cl : Call} {f : FuncId} {t u : Nat} {vs us caps ax : List AV} {r : AV} (h : ∀ G, Does F.P true f ax G (fun x _ => x = r)) (hk : E3 F T k ops os ((t, r) :: e) l G) (ho : o.op = .call cl := by exact rfl) (hc : cl.callee = .value (.tmp u) := by exact rfl) (hu : lk e u = some (.fn f caps) := by exact rfl)
    (hd : o.dst = some t := by exact rfl) (hg : o.guard = none := by exact rfl) (hus : St.argsOf ⟨e, l, G⟩ cl.args.toList = some us := by exact rfl) (hvs : us.map AV.deEmp = vs := by exact rfl) (has : vs ++ caps = ax := by exact rfl) (hcs : caps.map AV.deEmp = caps := by exact rfl) (hi : r.deEmp = r := by exact rfl) (hdeep : St.deepArgs ⟨e, l, G⟩ cl.args.toList = true := by exact rfl) (hres : resOk r = true := by exact rfl) (hno : noG e = true := by exact rfl) (hr : noRefs t e = true := by exact rfl) : E3 F T k ops (o :: os) e l G := by
  have hw : wop F.P F.Δ F.qt F.gs ⟨e, l, G⟩ o (fun S => S = St.put ⟨e, l, G⟩ t r) := by
    unfold wop
    rw [ho]
    simp only [hc]
    have hu' : St.get ⟨e, l, G⟩ u = some (.fn f caps) := hu
    simp only [hu']
    unfold wcallG
    obtain ⟨e1, e2⟩ := frzAll_deep hdeep
    refine ⟨e2 _, by rw [e1]; exact hdeep, ?_⟩
    rw [e1, hus]
    subst hvs
    subst has
    have h' : Does F.P true f ((us ++ caps).map AV.deEmp) G (fun x _ => x = r) := by rw [List.map_append, hcs]; exact h G
    refine ((Does.de' h' hi).strong F.qt).mono ?_
    rintro r' G' ⟨rfl, rfl⟩
    refine ⟨hres, ?_⟩
    simp only [St.withG, St.putr, hd, kl_noG hno]
  exact o_none hg hw (fun S' hS hΔ hd X a w hr' => hk.h hΔ hd X a w (hr'.weaken (by rw [hS]; exact cons_le hr)))
end Go.AL
end
section
set_option linter.unusedVariables false
set_option linter.unusedSimpArgs false
namespace Go.AL
open Enc
variable {F : Cfg} {T : Task F} {k : List Frm} {K Q : St → Prop} {e e' : Env} {l l' : Loc} {G G' : Objs} {ops : Array Oper} {o : Oper} {os : List Oper} {n : Nat}

theorem rehome (t p : Nat) {c : Code} {cw : Nat} {m : List (List AV)} {S' : St} (hk : E1 F T k c e' l G) (ht : lk e t = some (.own cw m) := by exact rfl) (hp : lk e p = some (.view (.t t)) := by exact rfl) (hne : Nat.beq t p = false := by exact rfl)
    (hS : ((St.take ⟨e, l, G⟩ (.t t)).put p (.own cw m)).put t (.view (.t p)) = S' := by exact rfl) (he : S'.env = e' := by ((repeat (refine nlc (m' := ?_) rfl ?_; rotate_left)); exact nln rfl)) (hl : S'.loc = l := by exact rfl) (hG : S'.G = G := by exact rfl) : E1 F T k c e l G := by
  refine ⟨fun hc X a w hr => ?_⟩
  have hne' : t ≠ p := Nat.ne_of_beq_eq_false hne
  have hown : St.ownAt ⟨e, l, G⟩ (.t t) = some (cw, m) := by simp only [St.ownAt]; rw [show St.get ⟨e, l, G⟩ t = some (.own cw m) from ht]
  obtain ⟨h1, h2⟩ := hr.rx.env p _ (show St.get ⟨e, l, G⟩ p = _ from hp)
  obtain ⟨h3, h4⟩ := hr.rx.env t _ (show St.get ⟨e, l, G⟩ t = _ from ht)
  have hval : a.tmps.getD p undef = a.tmps.getD t undef := h2 (by rw [hown]; simp)
  obtain ⟨X', r1, r2, r3, r4, r5⟩ := hr.rx.reown T.ok (p := .t p) hown (by simp) F.qt
  have r2' : OwnV X' w (.t p) cw m (a.tmps.getD p undef) := by rw [hval]; exact r2
  have p1 := r1.put h1 (t := p) (x := .own cw m) (v := a.tmps.getD p undef) r2'
  rw [act_put_self h1] at p1
  have p2 := p1.put h3 (t := t) (x := .view (.t p)) (v := a.tmps.getD t undef) (by
    intro _
    rw [act_put_self h3]
    exact hval.symm)
  rw [act_put_self h3] at p2
  rw [hS] at p2
  exact hk.h hc X' a w ⟨by rw [← st_of he hl hG]; exact p2, hr.n, hr.d, hr.fs.trans r3⟩

theorem oS3 {t ty el sz by_ cw : Nat} {z : List AV} {d : TD} {x lo hi mx : Operand} {q : Pl} {m : List (List AV)} {k1 k2 k3 : IntKind} {i j n : Int} (hk : E3 F T k ops os ((t, .junk) :: e) l G) (ho : o.op = .slice ty x (some lo) (some hi) (some mx) := by exact rfl) (hd : o.dst = some t := by exact rfl) (hg : o.guard = none := by exact rfl)
    (hx : St.val ⟨e, l, G⟩ x = some (.view q) := by exact rfl) (hq : St.ownAt ⟨e, l, G⟩ q = some (cw, m) := by exact rfl) (h1 : St.val ⟨e, l, G⟩ lo = some (.int k1 i) := by exact rfl) (h2 : St.val ⟨e, l, G⟩ hi = some (.int k2 j) := by exact rfl) (h3 : St.val ⟨e, l, G⟩ mx = some (.int k3 n) := by exact rfl) (ht : lk F.Δ ty = some ⟨.slice el, sz, by_, z⟩ := by exact rfl) (hde : lk F.Δ el = some d := by exact rfl)
    (c0 : 0 ≤ i := by omega) (c1 : i ≤ j := by omega) (c2 : j ≤ n := by (try simp only [List.length_map]); omega) (c3 : n ≤ (m.length : Int) := by (try simp only [List.length_map]); omega) (hr : noRefs t e = true := by exact rfl) : E3 F T k ops (o :: os) e l G := by
  refine o_run hg (S' := St.put ⟨e, l, G⟩ t .junk) (fun hΔ hd X a w hr' => hk.h hΔ hd X a w (hr'.weaken (cons_le hr))) (fun hΔ X a w hrx hfin htt N Q hN => ?_)
  have hv := hrx.own hq
  have hform : ∃ A cap, hdr X a w q = .slice A m.length cap ∧ m.length ≤ cap := by
    rcases hv with ⟨rfl, A, e1⟩ | ⟨b, off, cap, vs, T, e1, _, _, _, k5, _⟩
    · exact ⟨A, 0, e1, Nat.le_refl _⟩
    · exact ⟨_, cap, e1, k5⟩
  obtain ⟨A, cap, e1, hcap⟩ := hform
  have ex : a.eval x = .slice A m.length cap := (hrx.evc hx rfl (by rw [hq]; simp)).trans e1
  have el_ := (hrx.evd h1 rfl).int_inv
  have eh := (hrx.evd h2 rfl).int_inv
  have em := (hrx.evd h3 rfl).int_inv
  have hb : (Instr.sliceBounds true m.length cap (some (a.eval lo)) (some (a.eval hi)) (some (a.eval mx))).run F.P w = .ok (i.toNat, j.toNat, n.toNat) w := by
    unfold Instr.sliceBounds
    simp [el_, eh, em, run_sb (show 0 ≤ n by omega) (show n.toNat ≤ cap by omega), run_sb (show 0 ≤ j by omega) (show j.toNat ≤ n.toNat by omega), run_sb c0 (show i.toNat ≤ j.toNat by omega)]
  obtain ⟨v, hrun⟩ : ∃ v, (Instr.sliceAt ty (a.eval x) (some (a.eval lo)) (some (a.eval hi)) (some (a.eval mx))).run F.P w = .ok v w := by
    refine ⟨.slice (if n.toNat = i.toNat then A else A.map (·.add (i.toNat * d.size))) (j.toNat - i.toNat) (n.toNat - i.toNat), ?_⟩
    rw [ex]
    simp only [Instr.sliceAt, underlying, Sem.run_bind, run_program, Result.andThen_ok, elem_und hΔ ht, Sem.run_pure, Instr.slice]
    rw [hb]
    simp only [Result.andThen_ok, run_sizeOf hΔ hde w]
  refine wp_value (v := v) (w' := w) (by simp only [execOp, ho, Option.map_some]; exact run_v hrun) (hN v w X ?_ (Fs.refl _ _ _))
  rw [hd]
  exact hrx.put (htt t hd) (x := .junk) trivial

theorem oSd {t ty el sz by_ cw u h0 : Nat} {z : List AV} {d : TD} {lo hi : Operand} {p : Nat} {m : List (List AV)} {k1 k2 : IntKind} {i j : Int} (hk : E3 F T k ops os ((t, .sub (.t p) cw i.toNat j.toNat) :: e) l G) (ho : o.op = .slice ty (.tmp u) (some lo) (some hi) none := by exact rfl) (hd : o.dst = some t := by exact rfl) (hg : o.guard = none := by exact rfl)
    (hx : lk e u = some (.sub (.t p) cw 0 h0) := by exact rfl) (hq : lk e p = some (.own cw m) := by exact rfl) (h1 : St.val ⟨e, l, G⟩ lo = some (.int k1 i) := by exact rfl) (h2 : St.val ⟨e, l, G⟩ hi = some (.int k2 j) := by exact rfl) (ht : lk F.Δ ty = some ⟨.slice el, sz, by_, z⟩ := by exact rfl) (hde : lk F.Δ el = some d := by exact rfl) (hcw : cw = d.size := by exact rfl)
    (c0 : 0 ≤ i) (c1 : i ≤ j) (c2 : j ≤ (m.length : Int)) (hr : noRefs t e = true := by exact rfl) (hne : Nat.beq p t = false := by exact rfl) : E3 F T k ops (o :: os) e l G := by
  refine o_run hg (S' := St.put ⟨e, l, G⟩ t (.sub (.t p) cw i.toNat j.toNat)) (fun hΔ hd X a w hr' => hk.h hΔ hd X a w (hr'.weaken (cons_le hr))) (fun hΔ X a w hrx hfin htt N Q hN => ?_)
  have hown : St.ownAt ⟨e, l, G⟩ (.t p) = some (cw, m) := by simp only [St.ownAt]; rw [show St.get ⟨e, l, G⟩ p = some (.own cw m) from hq]
  have hv := hrx.own hown
  obtain ⟨A, B, n', cap, e1, e2, e3, e4, e5, e6⟩ := (hrx.env u _ (show St.get ⟨e, l, G⟩ u = _ from hx)).2 (by rw [hown]; simp)
  have hn : n' = m.length := by
    rcases hv with ⟨rfl, A', hA⟩ | ⟨b0, off, cap', ws, T, k1, _⟩
    · rw [e1] at hA; cases hA; rfl
    · rw [e1] at k1; cases k1; rfl
  subst hn
  rw [Nat.sub_zero, Nat.sub_zero] at e2
  have hrun := run_sliceAt_sl hΔ hrx (elem_und hΔ ht) hde (A := B) (len := h0) (cap := cap) (l := i.toNat) (h := j.toNat) (lo := some lo) (hi := some hi) (.inr ⟨_, k2, j, rfl, h2, by omega, rfl⟩) (.inr ⟨_, k1, i, rfl, h1, c0, rfl⟩) (by omega) (by omega)
  refine wp_value (w' := w) (by simp only [execOp, ho, Option.map_some, Option.map_none]; rw [show a.eval (.tmp u) = .slice B h0 cap from e2]; exact run_v hrun) (hN _ w X ?_ (Fs.refl _ _ _))
  rw [hd]
  have hne' : p ≠ t := Nat.ne_of_beq_eq_false hne
  refine hrx.put (htt t hd) (x := .sub (.t p) cw i.toNat j.toNat) ?_
  intro _
  refine ⟨A, _, m.length, cap, (getD_put_ne hne').trans e1, rfl, by omega, by omega, e5, fun hlt => ?_⟩
  rw [if_neg (by omega), e6 (by omega), hcw]
  cases A <;> simp [Addr.add]

theorem tDs {cl : Call} {b s : Operand} {t t1 t2 el el2 sz sz2 by_ by2 hi p cw : Nat} {z z2 : List AV} {d : TD} {vs : AV} {hi' : Nat} {lr m0 m lr' : List (List AV)} (hk : E5 F Q ops os e' l G) (ho : o.op = .call cl := by exact rfl) (hc : cl.callee = .builtin .append := by exact rfl) (ha : cl.args.toList = [b, s] := by exact rfl) (hb : cl.argTypes.toList = [t1, t2] := by exact rfl) (hdst : o.dst = some t := by exact rfl) (hg : o.guard = none := by exact rfl)
    (h1 : lk F.Δ t1 = some ⟨.slice el, sz, by_, z⟩ := by exact rfl) (h2 : lk F.Δ t2 = some ⟨.slice el2, sz2, by2, z2⟩ := by exact rfl) (hd : lk F.Δ el = some d := by exact rfl) (hs : St.val ⟨e, l, G⟩ s = some vs := by exact rfl) (hm : St.slOf ⟨e, l, G⟩ vs = some m0 := by exact rfl) (hb' : St.val ⟨e, l, G⟩ b = some (.sub (.t p) cw 0 hi) := by exact rfl) (hp : lk e p = some (.own cw lr) := by exact rfl)
    (hcw : cw = d.size := by exact rfl) (hne : Nat.beq t p = false := by exact rfl) (hmm : m0 = m) (hhi : hi + m.length = hi') (a4 : ∀ es ∈ m, es.length = d.size) (a5 : m.flatten.all AV.leaf = true) (a6 : hi + m.length ≤ lr.length) (hl' : lr.take hi ++ m ++ lr.drop (hi + m.length) = lr')
    (he : ((St.setAt ⟨e, l, G⟩ (.t p) (.own cw lr')).put t (.sub (.t p) cw 0 hi')).env = e' := by ((repeat (refine nlc (m' := ?_) rfl ?_; rotate_left)); exact nln rfl)) : E5 F Q ops (o :: os) e l G := by
  subst hcw
  subst hmm
  subst hhi
  refine ⟨?_⟩
  simp only [evOps, hg]
  unfold wop
  rw [ho]
  simp only [hc, ha, hb]
  refine .inr ⟨el, el2, sz, by_, sz2, by2, t, hi, p, z, z2, d, vs, lr, m0, h1, h2, hdst, hd, hs, hm, hb', hp, Nat.ne_of_beq_eq_false hne, a4, a5, a6, ?_⟩
  rw [hl', st_of (S := (St.setAt ⟨e, l, G⟩ (.t p) (.own d.size lr')).put t (.sub (.t p) d.size 0 (hi + m0.length))) he rfl rfl]
  exact hk.h

theorem oCTl {cl : Call} {f : FuncId} {t : Nat} {x0 : Operand} {xs : List Operand} {vs : List AV} {q : Pl} {c : Nat} {m : List (List AV)} {r : AV} {S' : St} (h : ∀ G, DoesT F.P true f (.own c m :: vs) G (fun x _ => x = r)) (hk : E3 F T k ops os e' l' G) (ho : o.op = .call cl := by exact rfl) (hc : cl.callee = .value (.func f) := by exact rfl)
    (ha : cl.args.toList = x0 :: xs := by exact rfl) (hd : o.dst = some t := by exact rfl) (hg : o.guard = none := by exact rfl) (hrow : rowOf ⟨e, l, G⟩ x0 = some q := by exact rfl) (hq : St.ownAt ⟨e, l, G⟩ q = some (c, m) := by exact rfl) (hqt : (F.qt && anyG q) = false := by exact rfl)
    (hvs : St.argsOf ⟨e, l, G⟩ xs = some vs := by exact rfl) (hdeep : St.deepArgs ⟨e, l, G⟩ xs = true := by exact rfl) (hres : resOk r = true := by exact rfl)
    (hS : ((St.take ⟨e, l, G⟩ q).withG (St.take ⟨e, l, G⟩ q).G).put t r = S' := by exact rfl)
    (he : S'.env = e' := by ((repeat (refine nlc (m' := ?_) rfl ?_; rotate_left)); exact nln rfl)) (hl : S'.loc = l' := by ((repeat (refine nlp (x' := ?_) (m' := ?_) rfl ?_ ?_; rotate_left 2; focus ((repeat (first | (refine nlc (p := AV.int _ _) (m' := ?_) rfl ?_; rotate_left) | (refine nlc (p := AV.sl _) (m' := ?_) rfl ?_; rotate_left) | (refine nlc (p := AV.bool _) (m' := ?_) rfl ?_; rotate_left) | (refine nlc (p := AV.own _ _) (m' := ?_) rfl ?_; rotate_left) | (refine nlc (p := AV.str _) (m' := ?_) rfl ?_; rotate_left) | (refine nlc (p := AV.emp) (m' := ?_) rfl ?_; rotate_left) | (refine nlc (p := AV.junk) (m' := ?_) rfl ?_; rotate_left) | (refine nlc (p := AV.nilp) (m' := ?_) rfl ?_; rotate_left) | (refine nlc (p := AV.ptrF _) (m' := ?_) rfl ?_; rotate_left) | (refine nlc (p := AV.fn _ _) (m' := ?_) rfl ?_; rotate_left) | (refine nlc (p := AV.ptr _ _) (m' := ?_) rfl ?_; rotate_left))); exact nln rfl))); exact nln rfl)) (hG : S'.G = G := by exact rfl) : E3 F T k ops (o :: os) e l G := by
  refine o_run hg (S' := S') (fun hΔ hd X a w hr => hk.h hΔ hd X a w (by rw [← st_of he hl hG]; exact hr)) (fun hΔ X a w hr hfin ht N Q hN => ?_)
  have ht' := ht t hd
  have hrun := wcallT_ok (qt := F.qt) (t := t) hr hfin ht' hrow hq hqt hvs hdeep hres h
  have hcall := (h G).call
  unfold Oper.wp
  rw [run_call ho hc hcall, Oper.upon_enter]
  have e9 : ((x0 :: xs).map a.eval).toArray = cl.args.map a.eval := by rw [← ha]; apply Array.toList_inj.1; simp
  rw [e9] at hrun
  refine hrun.mono ?_
  rintro _ w' ⟨v, X', rfl, m1, m2⟩
  rw [hS] at m1
  rw [hd]
  exact hN v w' X' (by rw [hd]; exact m1) m2 |> fun z => by rw [hd] at z; exact z
theorem sl_wop {α : Type} {iE : Enc α} {x : α} {q : Pl} {t c off : Nat} {ad y : Operand} {d : TD} {m : List α} {n : Int} {v : AV} (ho : o.op = .store t ad y) (hdst : o.dst = none) (ht : lk F.Δ t = some d) (had : St.val ⟨e, l, G⟩ ad = some (.eptr q c n.toNat off)) (hown : St.ownAt ⟨e, l, G⟩ q = some (c, m.map enc)) (hq : (F.qt && anyG q) = false) (hy : St.val ⟨e, l, G⟩ y = some v) (hl : v.cells.all AV.leaf = true) (hdp : v.isDeep = true) (hs : v.cells.length = d.size) (hle : off + d.size ≤ (enc (rd m n)).length)
    (hx : over (enc (rd m n)) off v.cells = enc x) (h0 : 0 ≤ n) (h1 : n < (m.length : Int)) : wop F.P F.Δ F.qt F.gs ⟨e, l, G⟩ o (fun S => S = St.setAt ⟨e, l, G⟩ q (.own c ((m.set n.toNat x).map enc))) := by
  unfold wop
  rw [ho]
  obtain ⟨f1, f2⟩ := frz_deep (S := ⟨e, l, G⟩) hy hdp
  have hfv : St.frzv ⟨e, l, G⟩ y = ⟨e, l, G⟩ := by
    unfold St.frzv
    rw [hy]
    cases v <;> first | rfl | cases hdp
  simp only [hfv]
  refine ⟨f2 _, hdst, ?_⟩
  unfold wstore
  simp only [ht, had, hown, hy]
  refine ⟨hq, trivial, hl, hdp, hs, _, at_enc h0 h1, hle, ?_⟩
  simp only [hx, List.map_set]
theorem oSfl {α β : Type} [iE : Enc α] (up_ : α → β → α) (cv : β → AV) {zz : β} {q : Pl} {t c off : Nat} {ad y : Operand} {d : TD} {m : List α} {n : Int} {v : AV} {S' : St} (hk : E3 F T k ops os e' l' G) (ho : o.op = .store t ad y := by exact rfl) (hdst : o.dst = none := by exact rfl) (hg : o.guard = none := by exact rfl) (ht : lk F.Δ t = some d := by exact rfl) (had : St.val ⟨e, l, G⟩ ad = some (.eptr q c n.toNat off) := by exact rfl) (hu : St.ownAt ⟨e, l, G⟩ q = some (c, m.map enc) := by exact rfl) (hq : (F.qt && anyG q) = false := by exact rfl) (hy : St.val ⟨e, l, G⟩ y = some v := by exact rfl) (hv : v = cv zz := by exact rfl)
    (hlf : v.cells.all AV.leaf = true := by exact rfl) (hdp : v.isDeep = true := by exact rfl) (hs : v.cells.length = d.size := by exact rfl) (hle : off + d.size ≤ (enc (rd m n)).length := by exact Nat.le_of_ble_eq_true rfl) (hx : ∀ (q : α) (z : β), over (enc q) off (cv z).cells = enc (up_ q z) := by exact fun _ _ => rfl) (h0 : 0 ≤ n := by omega) (h1 : n < (m.length : Int) := by first | omega | (simp only [List.length_set] at *; omega))
    (hS : St.setAt ⟨e, l, G⟩ q (.own c ((m.set n.toNat (up_ (rd m n) zz)).map enc)) = S' := by exact rfl)
    (he : S'.env = e' := by ((repeat (refine nlc (m' := ?_) rfl ?_; rotate_left)); exact nln rfl)) (hl : S'.loc = l' := by ((repeat (refine nlp (x' := ?_) (m' := ?_) rfl ?_ ?_; rotate_left 2; focus ((repeat (first | (refine nlc (p := AV.int _ _) (m' := ?_) rfl ?_; rotate_left) | (refine nlc (p := AV.sl _) (m' := ?_) rfl ?_; rotate_left) | (refine nlc (p := AV.bool _) (m' := ?_) rfl ?_; rotate_left) | (refine nlc (p := AV.own _ _) (m' := ?_) rfl ?_; rotate_left) | (refine nlc (p := AV.str _) (m' := ?_) rfl ?_; rotate_left) | (refine nlc (p := AV.emp) (m' := ?_) rfl ?_; rotate_left) | (refine nlc (p := AV.junk) (m' := ?_) rfl ?_; rotate_left) | (refine nlc (p := AV.nilp) (m' := ?_) rfl ?_; rotate_left) | (refine nlc (p := AV.ptrF _) (m' := ?_) rfl ?_; rotate_left) | (refine nlc (p := AV.fn _ _) (m' := ?_) rfl ?_; rotate_left) | (refine nlc (p := AV.ptr _ _) (m' := ?_) rfl ?_; rotate_left))); exact nln rfl))); exact nln rfl)) (hG : S'.G = G := by exact rfl) : E3 F T k ops (o :: os) e l G :=
  o_none hg (sl_wop ho hdst ht had hu hq hy hlf hdp hs hle (by rw [hv]; exact hx _ _) h0 h1) (fun S'' hS'' hΔ hd X a w hr => hk.h hΔ hd X a w (by rw [← st_of he hl hG, ← hS, ← hS'']; exact hr))
theorem vLs {P : Program} {Δ : Tab} {S : St} {x : Operand} {c : Call} {t el sz by_ p cw hi : Nat} {z : List AV} {lr : List (List AV)} (hc : c.callee = .builtin .len := by exact rfl) (ha : c.args.toList = [x] := by exact rfl) (hb : c.argTypes.toList = [t] := by exact rfl) (hx : S.val x = some (.sub (.t p) cw 0 hi) := by exact rfl) (hp : S.get p = some (.own cw lr) := by exact rfl)
    (ht : lk Δ t = some ⟨.slice el, sz, by_, z⟩ := by exact rfl) (hle : hi ≤ lr.length) : QV P Δ S (.call c) (.int .i64 (hi : Int)) := by
  refine ⟨?_⟩
  simp only [qop, hc, ha, hb]
  unfold qlen
  have hn : Nat.beq cw cw = true := by simp
  simp only [ht, hx, St.slOf, St.ownAt, hp, hn, cond_true]
  congr 2
  simp; omega
theorem vLo {α : Type} {iE : Enc α} {P : Program} {Δ : Tab} {S : St} {x : Operand} {c : Call} {m : List α} {t cw : Nat} (hc : c.callee = .builtin .len := by exact rfl) (ha : c.args.toList = [x] := by exact rfl) (hb : c.argTypes.toList = [t] := by exact rfl) (hx : S.val x = some (.own cw (m.map enc)) := by exact rfl)
    (ht : (match lk Δ t with | some ⟨.slice _, _, _, _⟩ => true | _ => false) = true := by exact rfl) : QV P Δ S (.call c) (.int .i64 (m.length : Int)) := by
  refine ⟨?_⟩
  simp only [qop, hc, ha, hb]
  unfold qlen
  split at ht
  · rename_i h; simp [h, hx, St.slOf]
  · cases ht
theorem sub_sl {α : Type} {iE : Enc α} {S : St} {q : Pl} {c lo hi : Nat} {m : List α} (h : S.ownAt q = some (c, m.map enc) := by exact rfl) : S.slOf (.sub q c lo hi) = some (((m.take hi).drop lo).map enc) := by
  have hn : Nat.beq c c = true := by simp
  simp only [St.slOf, h, hn, cond_true, List.map_take, List.map_drop]
end Go.AL
end
section
set_option linter.unusedVariables false
set_option linter.unusedSimpArgs false
namespace Go.AL
open Enc
variable {F : Cfg} {T : Task F} {k : List Frm} {K Q : St → Prop} {e e' : Env} {l l' : Loc} {G : Objs} {ops : Array Oper} {o : Oper} {os : List Oper}
theorem tAs {α : Type} {iE : Enc α} (x : α) {c : Call} {b s : Operand} {t t1 t2 u el sz by_ sz2 by2 el2 cw hi : Nat} {z z2 : List AV} {d : TD} {vs : AV} {cs : List AV} {m : List α} (hk : E5 F Q ops os e' l G) (ho : o.op = .call c := by exact rfl) (hc : c.callee = .builtin .append := by exact rfl)
    (ha : c.args.toList = [b, s] := by exact rfl) (hb : c.argTypes.toList = [t1, t2] := by exact rfl) (hdst : o.dst = some t := by exact rfl) (hg : o.guard = none := by exact rfl) (h1 : lk F.Δ t1 = some ⟨.slice el, sz, by_, z⟩ := by exact rfl) (h2 : lk F.Δ t2 = some ⟨.slice el2, sz2, by2, z2⟩ := by exact rfl)
    (hd : lk F.Δ el = some d := by exact rfl) (hs : St.val ⟨e, l, G⟩ s = some vs := by exact rfl) (hm : St.slOf ⟨e, l, G⟩ vs = some [cs] := by exact rfl) (hb' : St.val ⟨e, l, G⟩ b = some (.sub (.t u) cw 0 hi) := by exact rfl) (hu : lk e u = some (.own cw (m.map enc)) := by exact rfl) (hcw : cw = d.size := by exact rfl)
    (a1 : d.zero.length = d.size := by exact rfl) (a2 : (match d.k with | .tup | .fn => False | _ => True) := by exact trivial) (a3 : 0 < d.bytes := by exact Nat.le_of_ble_eq_true rfl) (hx : cs = enc x := by exact rfl) (a4 : w α = d.size := by exact rfl) (a5 : (enc x).all AV.leaf = true := by exact rfl)
    (a6 : (m.length + 1) * d.bytes ≤ 140737488355328 := by (try dsimp only); omega)
    (he : (St.put (St.take ⟨e, l, G⟩ (.t u)) t (.own d.size ((m.take hi ++ [x]).map enc))).env = e' := by ((repeat (refine nlc (m' := ?_) rfl ?_; rotate_left)); exact nln rfl)) (hl : (St.put (St.take ⟨e, l, G⟩ (.t u)) t (.own d.size ((m.take hi ++ [x]).map enc))).loc = l := by exact rfl) (hG : (St.put (St.take ⟨e, l, G⟩ (.t u)) t (.own d.size ((m.take hi ++ [x]).map enc))).G = G := by exact rfl) : E5 F Q ops (o :: os) e l G := by
  subst hx hcw
  have hok : apOk d (((m.map enc).take hi).drop 0) ([enc x]) := by
    refine ⟨a1, a2, a3, ?_, ?_, Nat.le_trans (Nat.mul_le_mul_right _ (by simp; omega)) a6⟩
    · intro es hes
      rw [List.mem_singleton.1 hes, Enc.hw, a4]
    · simpa using a5
  have hw : wop F.P F.Δ F.qt F.gs ⟨e, l, G⟩ o (fun S => S = ⟨e', l, G⟩) := by
    unfold wop
    rw [ho]
    simp only [hc, ha, hb]
    refine .inl ?_
    unfold wappend
    have e1 : ((m.map enc).take hi).drop 0 ++ [enc x] = (m.take hi ++ [x]).map enc := by simp [List.map_take]
    have hu' : St.ownAt ⟨e, l, G⟩ (.t u) = some (d.size, m.map enc) := by simp only [St.ownAt]; rw [show St.get ⟨e, l, G⟩ u = some (.own d.size (m.map enc)) from hu]
    simp only [h1, h2, hdst, hd, hs, hm, hb', hu']
    exact ⟨by simp [anyG], trivial, trivial, hok, by rw [e1, st_of he hl hG]⟩
  exact ⟨by simp only [evOps, hg]; exact wop_mono (fun S hS => by rw [hS]; exact hk.h) hw⟩
theorem tAsd {α : Type} {iE : Enc α} (dec : List AV → α) {c : Call} {b s : Operand} {t t1 t2 u el sz by_ sz2 by2 el2 cw hi : Nat} {z z2 : List AV} {d : TD} {vs : AV} {cs : List AV} {m : List α} (hk : E5 F Q ops os e' l G) (ho : o.op = .call c := by exact rfl) (hc : c.callee = .builtin .append := by exact rfl)
    (ha : c.args.toList = [b, s] := by exact rfl) (hb : c.argTypes.toList = [t1, t2] := by exact rfl) (hdst : o.dst = some t := by exact rfl) (hg : o.guard = none := by exact rfl) (h1 : lk F.Δ t1 = some ⟨.slice el, sz, by_, z⟩ := by exact rfl) (h2 : lk F.Δ t2 = some ⟨.slice el2, sz2, by2, z2⟩ := by exact rfl)
    (hd : lk F.Δ el = some d := by exact rfl) (hs : St.val ⟨e, l, G⟩ s = some vs := by exact rfl) (hm : St.slOf ⟨e, l, G⟩ vs = some [cs] := by exact rfl) (hb' : St.val ⟨e, l, G⟩ b = some (.sub (.t u) cw 0 hi) := by exact rfl) (hu : lk e u = some (.own cw (m.map enc)) := by exact rfl) (hcw : cw = d.size := by exact rfl)
    (a1 : d.zero.length = d.size := by exact rfl) (a2 : (match d.k with | .tup | .fn => False | _ => True) := by exact trivial) (a3 : 0 < d.bytes := by exact Nat.le_of_ble_eq_true rfl) (hx : cs = enc (dec cs) := by exact rfl) (a4 : w α = d.size := by exact rfl) (a5 : (enc (dec cs)).all AV.leaf = true := by exact rfl)
    (a6 : (m.length + 1) * d.bytes ≤ 140737488355328 := by (try dsimp only); omega)
    (he : (St.put (St.take ⟨e, l, G⟩ (.t u)) t (.own d.size ((m.take hi ++ [dec cs]).map enc))).env = e' := by ((repeat (refine nlc (m' := ?_) rfl ?_; rotate_left)); exact nln rfl)) (hl : (St.put (St.take ⟨e, l, G⟩ (.t u)) t (.own d.size ((m.take hi ++ [dec cs]).map enc))).loc = l := by exact rfl) (hG : (St.put (St.take ⟨e, l, G⟩ (.t u)) t (.own d.size ((m.take hi ++ [dec cs]).map enc))).G = G := by exact rfl) : E5 F Q ops (o :: os) e l G :=
  tAs (dec cs) hk ho hc ha hb hdst hg h1 h2 hd hs hm hb' hu hcw a1 a2 a3 hx a4 a5 a6 he hl hG
theorem sub_slD {α : Type} {iE : Enc α} {S : St} {q : Pl} {c lo : Nat} {m : List α} (h : S.ownAt q = some (c, m.map enc) := by exact rfl) : S.slOf (.sub q c lo m.length) = some ((m.drop lo).map enc) := by
  rw [sub_sl h, List.take_length]
end Go.AL
end
