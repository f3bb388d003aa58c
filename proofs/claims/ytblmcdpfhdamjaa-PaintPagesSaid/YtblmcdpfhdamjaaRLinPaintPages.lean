import Derived.Test.YtblmcdpfhdamjaaPLin2PaintPages
import Derived.Test.YtblmcdpfhdamjaaRfs2PaintPages
/-! Our own text: what the reference draws of a line. -/
namespace Go.Proofs.Ytblmcdpfhdamjaa.PPaintPages
set_option linter.unusedVariables false
set_option linter.unusedSimpArgs false
open Go.RowKit Go.Proofs.YtblmcdpfhdamjaaW.PrintWords

def tm (m : S38) : S96 := ⟨m.f0, m.f1, m.f2, m.f3, m.f4⟩
def Rg (a : Int) : Prop := -1152921504606846976 ≤ a ∧ a ≤ 1152921504606846976
theorem sb_eq {a b : Int} (h : Rg b) : sb_ a b = ad_ a (wrap64 (-b)) := by
  obtain ⟨h1, h2⟩ := h
  unfold sb_
  rw [cl_id h1 h2, v64 (by omega) (by omega)]
theorem ad_rg (a b : Int) : Rg (ad_ a b) := cl_rng _
theorem stl_rg {T : List S87} {R : List S89} {sp : Int → Int} {en : Int} {s : ByteArray} : ∀ (f i : Nat) (x : Int), Rg x → ∀ y ∈ stl_ T R sp en s f i x, Rg y.f1
  | 0, i, x, h, y, hy => by
    have : stl_ T R sp en s 0 i x = [⟨(s.size : Int), x⟩] := rfl
    rw [this, List.mem_singleton] at hy; subst hy; exact h
  | f + 1, i, x, h, y, hy => by
    by_cases c : i < s.size
    · have e : stl_ T R sp en s (f + 1) i x = (⟨(i : Int), x⟩ : S99) :: stl_ T R sp en s f (i + (rsize_ s (i : Int)).toNat) (if kd_ (vOf s (i : Int) (rsize_ s (i : Int))) = 1 then (if (i : Int) < en then ad_ x (sp (sa_ R (i : Int))) else x) else ad_ x (wd_ T (sa_ R (i : Int)) (vOf s (i : Int) (rsize_ s (i : Int))))) := if_pos c
      rw [e] at hy
      rcases List.mem_cons.1 hy with e1 | e1
      · subst e1; exact h
      · refine stl_rg f _ _ ?_ y e1
        split
        · split
          · exact ad_rg _ _
          · exact h
        · exact ad_rg _ _
    · have e : stl_ T R sp en s (f + 1) i x = [⟨(s.size : Int), x⟩] := if_neg c
      rw [e, List.mem_singleton] at hy; subst hy; exact h
theorem d96 (o : List S38) (m : S38) : rd_T96 ((o ++ [m]).map tm) (o.length : Int) = tm m := by
  unfold rd_T96; rw [Int.toNat_natCast]; simp [List.getD_eq_getElem?_getD]
theorem s96 (o : List S38) (m : S38) (m' : S96) : ((o ++ [m]).map tm).set ((o.length : Int)).toNat m' = o.map tm ++ [m'] := by
  rw [Int.toNat_natCast]; simp [List.set_append]
theorem rs2_l0 {l : List S89} (hl : l.length ≤ 1000) : ∀ (t : List S89) (i : Nat) (a : Int), l.drop i = t → 0 ≤ a → a ≤ 1000000 →
    Ev (fun k => regletref21_style.l0 k l a (i : Int)) (sa_ t a)
  | [], i, a, h, h0, h1 => by
    have := dropN h
    exact Ev.step (fun k => by rw [regletref21_style.l0, if_neg (by omega)]; rfl) (Ev.now _)
  | y :: t, i, a, h, h0, h1 => by
    obtain ⟨g1, g2, g3⟩ := d75 h
    unfold sa_
    by_cases c : y.f0 ≤ 0
    · rw [if_pos c]
      refine Ev.step (fun k => ?_) (rs2_l0 hl t (i + 1) a g3 h0 h1)
      rw [regletref21_style.l0, if_pos (by omega), if_pos (by omega), g2, if_neg (by omega), upN (by omega)]
    · rw [if_neg c]
      by_cases d : a < y.f0
      · rw [if_pos d]
        exact Ev.step (fun k => by rw [regletref21_style.l0, if_pos (by omega), if_pos (by omega), g2, if_pos (by omega), if_pos d]) (Ev.now _)
      · rw [if_neg d]
        refine Ev.step (fun k => ?_) (rs2_l0 hl t (i + 1) (a - y.f0) g3 (by omega) (by omega))
        rw [regletref21_style.l0, if_pos (by omega), if_pos (by omega), g2, if_pos (by omega), if_neg d, upN (by omega), v64 (x := a - y.f0) (by omega) (by omega)]
theorem rs2_ev {l : List S89} (hl : l.length ≤ 1000) {a : Int} (h0 : 0 ≤ a) (h1 : a ≤ 1000000) : Ev (fun k => regletref21_style.f k l a) (sa_ l a) := rs2_l0 hl l 0 a rfl h0 h1
/-- Is a rune quiet? -/
def okn (RL : List Int) (S : List S99) (n : Nat) : Bool := (!(kd_ (rd RL (n : Int)) == 1) && !(kd_ (rd RL (n : Int)) == 2)) && ((rd_T99 S (n : Int)).f1 == (rd_T99 S ((n + 1 : Nat) : Int)).f1)
def qb (RL : List Int) (S : List S99) : Nat → Nat → Bool
  | a, 0 => true
  | a, d + 1 => okn RL S a && qb RL S (a + 1) d
theorem qb_end (RL : List Int) (S : List S99) : ∀ (d a : Nat), qb RL S a (d + 1) = (qb RL S a d && okn RL S (a + d))
  | 0, a => by simp [qb]
  | d + 1, a => by
    have ih := qb_end RL S d (a + 1)
    rw [show qb RL S a (d + 1 + 1) = (okn RL S a && qb RL S (a + 1) (d + 1)) from rfl, ih, show qb RL S a (d + 1) = (okn RL S a && qb RL S (a + 1) d) from rfl, Bool.and_assoc, show a + 1 + d = a + (d + 1) by omega]
theorem rd46 (S : List S99) {n : Nat} (h : n < S.length) : rd_T46 (S.map t44) (n : Int) = t44 (rd_T99 S (n : Int)) := by
  unfold rd_T46 rd_T99
  rw [Int.toNat_natCast, List.getD_eq_getElem?_getD, List.getElem?_map, List.getD_eq_getElem?_getD, List.getElem?_eq_getElem h]; rfl
theorem quiet_l0 {RL : List Int} {S : List S99} (hl : S.length = RL.length + 1) (hl2 : RL.length ≤ 100000) {n : Nat} (hn : n ≤ RL.length) : ∀ (d a : Nat), a + d = n → Ev (fun k => regletref21_quiet.l0 k RL (S.map t44) (n : Int) (a : Int)) (qb RL S a d)
  | 0, a, h => Ev.step (fun k => by rw [regletref21_quiet.l0, if_neg (by omega)]; rfl) (Ev.now _)
  | d + 1, a, h => by
    have ih := quiet_l0 hl hl2 hn d (a + 1) (by omega)
    have e1 := rd46 S (n := a) (by omega)
    have e2 := rd46 S (n := a + 1) (by omega)
    have hx : (t44 (rd_T99 S (a : Int))).f1 = (rd_T99 S (a : Int)).f1 := rfl
    have hy : (t44 (rd_T99 S ((a + 1 : Nat) : Int))).f1 = (rd_T99 S ((a + 1 : Nat) : Int)).f1 := rfl
    have hm : (S.map t44).length = S.length := List.length_map ..
    have hq : qb RL S a (d + 1) = (okn RL S a && qb RL S (a + 1) d) := rfl
    rw [hq]
    unfold okn
    refine Ev.step (fun k => by rw [regletref21_quiet.l0, if_pos (by omega), if_pos (by omega), if_pos (by omega)]) (Ev.bind (rkind_ev _) ?_)
    by_cases k1 : kd_ (rd RL (a : Int)) = 1
    · rw [show (kd_ (rd RL (a : Int)) == 1) = true from by simp [k1]]
      exact Ev.congr (fun k => by rw [if_pos k1]) (by simpa using Ev.now false)
    rw [show (kd_ (rd RL (a : Int)) == 1) = false from by simp [k1]]
    by_cases k2 : kd_ (rd RL (a : Int)) = 2
    · rw [show (kd_ (rd RL (a : Int)) == 2) = true from by simp [k2]]
      exact Ev.congr (fun k => by rw [if_neg k1, if_pos k2]) (by simpa using Ev.now false)
    rw [show (kd_ (rd RL (a : Int)) == 2) = false from by simp [k2]]
    refine Ev.congr (fun k => by rw [if_neg k1, if_neg k2, if_pos (by omega), upN (by omega), if_pos (by omega), if_pos (by omega), e1, e2, hx, hy]) ?_
    by_cases k3 : (rd_T99 S (a : Int)).f1 = (rd_T99 S ((a + 1 : Nat) : Int)).f1
    · rw [show ((rd_T99 S (a : Int)).f1 == (rd_T99 S ((a + 1 : Nat) : Int)).f1) = true from beq_iff_eq.2 k3]
      exact Ev.congr (fun k => by rw [if_pos k3]) (by simpa using ih)
    · rw [show ((rd_T99 S (a : Int)).f1 == (rd_T99 S ((a + 1 : Nat) : Int)).f1) = false from beq_eq_false_iff_ne.2 k3]
      exact Ev.congr (fun k => by rw [if_neg k3]) (by simpa using Ev.now false)
/-- The last mark's last rune. -/
def La (RL : List Int) (S : List S99) (n : Nat) (c : Option (S38 × Bool)) (last : Int) : Prop := match c with
  | none => last = -1
  | some (_, b) => ∃ l : Nat, last = (l : Int) ∧ l < n ∧ b = qb RL S (l + 1) (n - (l + 1))
theorem la_quiet {RL : List Int} {S : List S99} {n : Nat} {c : Option (S38 × Bool)} {last : Int} (h : La RL S n c last) {q : Bool} (hq : okn RL S n = q) : La RL S (n + 1) (c.map fun p => (p.1, p.2 && q)) last := by
  match c, h with
  | none, h => exact h
  | some (m, b), ⟨l, h1, h2, h3⟩ =>
    refine ⟨l, h1, by omega, ?_⟩
    rw [show n + 1 - (l + 1) = (n - (l + 1)) + 1 by omega, qb_end, show l + 1 + (n - (l + 1)) = n by omega, hq, ← h3]
theorem la_new {RL : List Int} {S : List S99} {n : Nat} (m : S38) : La RL S (n + 1) (some (m, true)) (n : Int) := ⟨n, rfl, by omega, by rw [show n + 1 - (n + 1) = 0 by omega]; rfl⟩
theorem rl1_ {T : List S87} {R : List S89} (hR : R.length ≤ 1000) {S' : List S46} {RL : List Int} {out : List S96} {s : ByteArray} {b2 b3 b4 b6 : Int} {b5 b7 b8 : Bool} (h1 : RL.length < S'.length) (ho : out.length ≤ 100000) : ∀ (t : List S89) (i : Nat) (a : Int), R.drop i = t →
    Ev (fun k => regletref21_Line.l1 k T S' RL out a (i : Int) s R b2 b3 b4 b5 b6 b7 b8) (out ++ [⟨(rd_T46 S' (RL.length : Int)).f1, b6, (stg_ T (ls_ t a)).f4, (⟨#[45]⟩ : ByteArray), ls_ t a⟩])
  | [], i, a, h => by
    have := dropN h
    refine Ev.step (fun k => by rw [regletref21_Line.l1, if_neg (by omega), if_pos (by omega), if_pos (by omega), rof_f, Option.bind_some, if_pos (by omega)]; rfl) (Ev.now _)
  | y :: t, i, a, h => by
    obtain ⟨g1, g2, g3⟩ := d75 h
    refine Ev.step (fun k => ?_) (rl1_ hR h1 ho (s := s) (b2 := b2) (b3 := b3) (b4 := b4) (b6 := b6) (b5 := b5) (b7 := b7) (b8 := b8) t (i + 1) (if y.f0 > 0 then y.f1 else a) g3)
    rw [regletref21_Line.l1, if_pos (by omega), if_pos (by omega), g2, upN (by omega)]
    split <;> rfl
end Go.Proofs.Ytblmcdpfhdamjaa.PPaintPages
