/-
Two numbers from 1 to 3999 are written alike in Roman letters only when they are the same number: the pure statement of the law OutlineUnlike. No condition.
-/
import Derived.Test.YtmgflcepgbgcmaaRomSameOutlineUnlike
namespace Go.Proofs.Ytmgflcepgbgcmaa.Pure
open Go.RowKit Go.Proofs.Ytmgflcepgbgcmaa.POutlineUnlike Go.Proofs.YtmgflcepgbgcmaaW.PrintWords Go.Proofs.YtmgflcepgbgcmaaW.PrintLast

def rv_ (c : UInt8) : Nat := if c = 109 then 1000 else if c = 100 then 500 else if c = 99 then 100 else if c = 108 then 50 else if c = 120 then 10 else if c = 118 then 5 else 1
def rdec_ : UInt8 → List UInt8 → Nat
  | a, [] => rv_ a
  | a, b :: t => if rv_ a < rv_ b then rdec_ b t - rv_ a else rdec_ b t + rv_ a
def rd_ : List UInt8 → Nat
  | [] => 0
  | a :: t => rdec_ a t
theorem rd_rr0 : ∀ (x : Fin 40) (y : Fin 100), rd_ (rr_ (x.val * 100 + y.val)) = x.val * 100 + y.val := by decide +kernel
theorem rd_rr (n : Nat) (h : n < 4000) : rd_ (rr_ n) = n := by
  have := rd_rr0 ⟨n / 100, by omega⟩ ⟨n % 100, by omega⟩
  simp only [show n / 100 * 100 + n % 100 = n by omega] at this
  exact this
theorem loop_bs (l : List UInt8) : ∀ (n i : Nat) (r : List UInt8), l.length - i = n → ByteArray.toList.loop (bs_ l) i r = r.reverse ++ l.drop i := by
  intro n
  induction n with
  | zero =>
    intro i r h
    rw [ByteArray.toList.loop, if_neg (by rw [bs_size]; omega), List.drop_eq_nil_of_le (by omega), List.append_nil]
  | succ n ih =>
    intro i r h
    have hi : i < l.length := by omega
    have hg : (bs_ l).get! i = l[i] := by
      show (bs_ l).data[i]! = l[i]
      simp [bs_, hi]
    rw [ByteArray.toList.loop, if_pos (by rw [bs_size]; omega), ih (i + 1) _ (by omega), hg, List.drop_eq_getElem_cons hi, List.reverse_cons, List.append_assoc, List.singleton_append]
theorem bs_list (l : List UInt8) : (bs_ l).toList = l := by
  have := loop_bs l _ 0 [] rfl
  simpa [ByteArray.toList] using this
theorem rom_inj {m n : Nat} (hm : m < 4000) (hn : n < 4000) (h : romL_ romT_ m = romL_ romT_ n) : m = n := by
  rw [rom_same m hm, rom_same n hn] at h
  rw [← rd_rr m hm, ← rd_rr n hn, h]
theorem awake_ev : Ev (fun k => regletlaw22_awake.f k) true :=
  Ev.of (fun k => regletlaw22_awake.mono k) (k := 40) (by decide +kernel)
theorem stop_ev (a b : Int) : Ev (fun k => regletlaw22_OutlineUnlike.j0 k a b true) true := Ev.step (fun k => by rw [regletlaw22_OutlineUnlike.j0, if_pos rfl]) (Ev.now _)
theorem same_ev (m n : Nat) (hm : m < 4000) (hn : n < 4000) : ((romL_ romT_ m == romL_ romT_ n) == ((m : Int) == (n : Int))) = true := by
  by_cases h : m = n
  · subst h; simp
  · have h1 : (romL_ romT_ m == romL_ romT_ n) = false := by
      rw [beq_eq_false_iff_ne]; exact fun e => h (rom_inj hm hn e)
    have h2 : ((m : Int) == (n : Int)) = false := by
      rw [beq_eq_false_iff_ne]; exact fun e => h (Int.ofNat.inj e)
    rw [h1, h2]; rfl
theorem OutlineUnlike : regletlaw22_OutlineUnlike.Pure := by
  intro a b ha hb
  apply Ev.rounds
  unfold regletlaw22_OutlineUnlike.f
  refine Ev.bind awake_ev ?_
  simp only [if_true]
  by_cases h1 : a < 1
  · simp only [if_pos h1]; exact stop_ev a b
  by_cases h2 : b < 1
  · simp only [if_neg h1, if_pos h2]; exact stop_ev a b
  by_cases h3 : a > 3999
  · simp only [if_neg h1, if_neg h2, if_pos h3]; exact stop_ev a b
  by_cases h4 : b > 3999
  · simp only [if_neg h1, if_neg h2, if_neg h3, decide_eq_true h4]; exact stop_ev a b
  simp only [if_neg h1, if_neg h2, if_neg h3, decide_eq_false h4]
  obtain ⟨m, rfl⟩ : ∃ m : Nat, a = m := ⟨a.toNat, by omega⟩
  obtain ⟨n, rfl⟩ : ∃ n : Nat, b = n := ⟨b.toNat, by omega⟩
  have e1 : outline_Roman.f (m : Int) = some (bs_ (romL_ romT_ m)) := by rw [roman_f, if_neg (fun h => h.elim (fun h => h1 h) (fun h => h3 h)), Int.toNat_natCast]
  have e2 : outline_Roman.f (n : Int) = some (bs_ (romL_ romT_ n)) := by rw [roman_f, if_neg (fun h => h.elim (fun h => h2 h) (fun h => h4 h)), Int.toNat_natCast]
  refine Ev.step (fun k => by rw [regletlaw22_OutlineUnlike.j0, if_neg Bool.false_ne_true, e1, e2, Option.bind_some, Option.bind_some, bs_list, bs_list, same_ev m n (by omega) (by omega)]) ?_
  exact Ev.now _
end Go.Proofs.Ytmgflcepgbgcmaa.Pure
