import Derived.Test.YtblmcdpfhdamjaaRLin2PaintPages
/-! Our own text: marks as the document's, and held against each other. -/
namespace Go.Proofs.Ytblmcdpfhdamjaa.PPaintPages
set_option linter.unusedVariables false
set_option linter.unusedSimpArgs false
open Go.RowKit Go.Proofs.YtblmcdpfhdamjaaW.PrintWords

theorem stq_len (R : List S89) (Y : Int) (s : ByteArray) (c : Option (S38 × Bool)) (r : Int) (y z : S99) (o : List S38) : (o ++ (stq_ R Y s c r y z).1 ++ lst_ (stq_ R Y s c r y z).2).length ≤ (o ++ lst_ c).length + 1 := by
  unfold stq_
  by_cases d : dr_ r = true
  · simp only [if_pos d]
    match c with
    | none => simp [lst_]
    | some (m0, false) => simp [lst_]
    | some (m0, true) =>
      by_cases e : m0.f4 = sa_ R y.f0
      · simp only [if_pos e]; simp [lst_]
      · simp only [if_neg e]; simp [lst_]
  · simp only [if_neg d]
    match c with
    | none => simp [lst_]
    | some (m0, q) => simp [lst_]
theorem drw_len (R : List S89) (Y : Int) (s : ByteArray) : ∀ (RL : List Int) (S : List S99) (o : List S38) (c : Option (S38 × Bool)), (drw_ R Y s RL S o c).length ≤ (o ++ lst_ c).length + RL.length
  | [], S, o, c => by
    have : drw_ R Y s [] S o c = o ++ lst_ c := by cases S <;> rfl
    rw [this]; simp
  | r :: rt, [], o, c => by
    have : drw_ R Y s (r :: rt) [] o c = o ++ lst_ c := rfl
    rw [this]; omega
  | r :: rt, [y], o, c => by
    have : drw_ R Y s (r :: rt) [y] o c = o ++ lst_ c := rfl
    rw [this]; omega
  | r :: rt, y :: z :: st, o, c => by
    have := drw_len R Y s rt (z :: st) (o ++ (stq_ R Y s c r y z).1) (stq_ R Y s c r y z).2
    have h := stq_len R Y s c r y z o
    have e : drw_ R Y s (r :: rt) (y :: z :: st) o c = drw_ R Y s rt (z :: st) (o ++ (stq_ R Y s c r y z).1) (stq_ R Y s c r y z).2 := rfl
    rw [e, List.length_cons]; omega
theorem d38 {l t : List S38} {i : Nat} {n : S38} (h : l.drop i = n :: t) : i < l.length ∧ rd_T38 l (i : Int) = n ∧ l.drop (i + 1) = t := by
  have := dropI z38 h
  unfold rd_T38; rw [Int.toNat_natCast]; exact this
theorem marks_l0 {l : List S38} (hl : l.length ≤ 100000) : ∀ (t : List S38) (i : Nat) (acc : List S96), l.drop i = t → acc.length = i → Ev (fun k => regletlaw21_marks.l0 k l acc (i : Int)) (acc ++ t.map tm)
  | [], i, acc, h, ha => by
    have := dropN h
    exact Ev.step (fun k => by rw [regletlaw21_marks.l0, if_neg (by omega)]; simp) (Ev.now _)
  | m :: t, i, acc, h, ha => by
    obtain ⟨g1, g2, g3⟩ := d38 h
    have ih := marks_l0 hl t (i + 1) (acc ++ [tm m]) g3 (by simp [ha])
    rw [List.append_assoc] at ih
    refine Ev.step (fun k => ?_) ih
    rw [regletlaw21_marks.l0, if_pos (by omega), if_pos (by omega), if_pos (by omega), g2, upN (by omega)]
    rfl
theorem marks_ev {l : List S38} (hl : l.length ≤ 100000) : Ev (fun k => regletlaw21_marks.f k l) (l.map tm) := by
  unfold regletlaw21_marks.f
  exact marks_l0 hl l 0 [] rfl rfl
theorem same_l0 {l : List S96} (hl : l.length ≤ 100000) : ∀ d i : Nat, i + d = l.length → Ev (fun k => regletref21_Same.l0 k l l (i : Int)) true
  | 0, i, h => Ev.step (fun k => by rw [regletref21_Same.l0, if_neg (by omega)]) (Ev.now true)
  | d + 1, i, h => by
    have ih := same_l0 hl d (i + 1) (by omega)
    refine Ev.step (fun k => ?_) ih
    rw [regletref21_Same.l0, if_pos (by omega), if_pos (by omega), if_pos (by omega), if_neg (by simp), upN (by omega)]
theorem same_ev {l : List S96} (hl : l.length ≤ 100000) : Ev (fun k => regletref21_Same.f k l l) true := by
  unfold regletref21_Same.f
  exact Ev.congr (fun k => by rw [if_pos rfl]; rfl) (same_l0 hl l.length 0 (by omega))
theorem lines2_ev {T : List S87} (hT : ∀ x ∈ T, RightS x) {x : S25} (hg : GoodL x) : ∃ out : List S38, out.length ≤ 1002 ∧ Ev (fun k => paint_Line.f k [⟨T⟩] x.f0 x.f1 x.f2 x.f3 x.f4 x.f5 x.f6 x.f7 x.f8) out ∧ Ev (fun k => regletref21_Line.f k T x.f0 x.f1 x.f2 x.f3 x.f4 x.f5 x.f6 x.f7 x.f8) (out.map tm) := by
  obtain ⟨X, h1, h2⟩ := lines_ev hT hg
  refine ⟨_, ?_, h1, h2⟩
  have hl := drw_len x.f1 x.f6 x.f0 (rl_ x.f0 (x.f0.size + 1) 0) (sts_ T x.f1 (spw_ T x.f2 x.f3) x.f0) [] none
  have hr := rl_short x.f0 (x.f0.size + 1) 0
  have hs := hg.1
  have h0 : (([] : List S38) ++ lst_ none).length = 0 := rfl
  unfold hyp_
  split
  · rw [List.length_append, List.length_singleton]; omega
  · omega
end Go.Proofs.Ytblmcdpfhdamjaa.PPaintPages
