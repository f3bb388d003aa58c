import Derived.Test.YtblmcdpfhdamjaaRLin2PaintSeen
/-! Our own text: marks as the document's, and held against each other. -/
namespace Go.Proofs.Ytblmcdpfhdamjaa.PPaintSeen
set_option linter.unusedVariables false
set_option linter.unusedSimpArgs false
open Go.RowKit Go.Proofs.YtblmcdpfhdamjaaW.PrintWords

theorem stq_len (R : List S89) (Y : Int) (s : ByteArray) (c : Option (S38 × Bool)) (r : Int) (y z : S99) (o : List S38) : (o ++ (stq_ R Y s c r y z).1 ++ lst_ (stq_ R Y s c r y z).2).length ≤ (o ++ lst_ c).length + 1 := by
  unfold stq_
  by_cases d : dr_ r = true
  · simp only [if_pos d]
    match c with
    | none => simp [lst_]
    | some (m0, false) => simp [lst_]
    | some (m0, true) =>
      by_cases e : m0.f4 = sa_ R y.f0
      · simp only [if_pos e]; simp [lst_]
      · simp only [if_neg e]; simp [lst_]
  · simp only [if_neg d]
    match c with
    | none => simp [lst_]
    | some (m0, q) => simp [lst_]
theorem drw_len (R : List S89) (Y : Int) (s : ByteArray) : ∀ (RL : List Int) (S : List S99) (o : List S38) (c : Option (S38 × Bool)), (drw_ R Y s RL S o c).length ≤ (o ++ lst_ c).length + RL.length
  | [], S, o, c => by
    have : drw_ R Y s [] S o c = o ++ lst_ c := by cases S <;> rfl
    rw [this]; simp
  | r :: rt, [], o, c => by
    have : drw_ R Y s (r :: rt) [] o c = o ++ lst_ c := rfl
    rw [this]; omega
  | r :: rt, [y], o, c => by
    have : drw_ R Y s (r :: rt) [y] o c = o ++ lst_ c := rfl
    rw [this]; omega
  | r :: rt, y :: z :: st, o, c => by
    have := drw_len R Y s rt (z :: st) (o ++ (stq_ R Y s c r y z).1) (stq_ R Y s c r y z).2
    have h := stq_len R Y s c r y z o
    have e : drw_ R Y s (r :: rt) (y :: z :: st) o c = drw_ R Y s rt (z :: st) (o ++ (stq_ R Y s c r y z).1) (stq_ R Y s c r y z).2 := rfl
    rw [e, List.length_cons]; omega
theorem d38 {l t : List S38} {i : Nat} {n : S38} (h : l.drop i = n :: t) : i < l.length ∧ rd_T38 l (i : Int) = n ∧ l.drop (i + 1) = t := by
  have := dropI z38 h
  unfold rd_T38; rw [Int.toNat_natCast]; exact this
end Go.Proofs.Ytblmcdpfhdamjaa.PPaintSeen
