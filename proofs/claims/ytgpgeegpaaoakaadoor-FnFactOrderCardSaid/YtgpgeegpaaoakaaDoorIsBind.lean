/- The contracts of IsBinding, the program's and the reference's: both return the same plain function of the pairs; wherever the lengths can be counted. -/
import Derived.Test.YtgpgeegpaaoakaaDoorPair
import Derived.Test.YtgpgeegpaaoakaaDoorIsFact
namespace Go.Proofs.YtgpgeegpaaoakaaDoor
open Go.RowKit
attribute [local go_sem ↓] Go.wp_at_zero Go.wp_at_succ
def bless (a b : ByteArray) : Bool := Op.bytesLess a.toList b.toList
def okAt (b : List (ByteArray × ByteArray)) (k : Nat) : Bool :=
  match b[k]? with
  | none => true
  | some p => (isVarB p.1 && isAtomB p.2) && (match k with | 0 => true | j + 1 => match b[j]? with | none => true | some q => bless q.1 p.1)
def isBindB (b : List (ByteArray × ByteArray)) : Bool := decide (b.length ≤ 6) && (List.range b.length).all (okAt b)
theorem okAt_var {b : List (ByteArray × ByteArray)} {k : Nat} (hk : k < b.length) (h : isVarB b[k].1 = false) : okAt b k = false := by
  unfold okAt; rw [List.getElem?_eq_getElem hk]; simp [h]
theorem okAt_val {b : List (ByteArray × ByteArray)} {k : Nat} (hk : k < b.length) (h : isAtomB b[k].2 = false) : okAt b k = false := by
  unfold okAt; rw [List.getElem?_eq_getElem hk]; simp [h]
theorem okAt_first {b : List (ByteArray × ByteArray)} (hk : 0 < b.length) (h : isVarB b[0].1 = true) (h' : isAtomB b[0].2 = true) : okAt b 0 = true := by
  unfold okAt; rw [List.getElem?_eq_getElem hk]; simp [h, h']
theorem okAt_next {b : List (ByteArray × ByteArray)} {j : Nat} (hk : j + 1 < b.length) (h : isVarB b[j+1].1 = true) (h' : isAtomB b[j+1].2 = true) : okAt b (j+1) = bless b[j].1 b[j+1].1 := by
  unfold okAt; simp [List.getElem?_eq_getElem hk, List.getElem?_eq_getElem (show j < b.length by omega), h, h']
theorem range_all_succ {k : Nat} {p : Nat → Bool} (h : (List.range k).all p = true) (h' : p k = true) : (List.range (k+1)).all p = true := by
  rw [List.range_succ, List.all_append, h]; simp [h']
theorem range_all_f {n k : Nat} {p : Nat → Bool} (hk : k < n) (h' : p k = false) : (List.range n).all p = false := by
  rw [List.all_eq_false]; exact ⟨k, List.mem_range.2 hk, by simp [h']⟩
theorem isBindB_f {b : List (ByteArray × ByteArray)} {k : Nat} (hk : k < b.length) (h : okAt b k = false) : isBindB b = false := by
  unfold isBindB; rw [range_all_f hk h]; simp
theorem psz_at {L : List (ByteArray × ByteArray)} (h : psz L ≤ 1048576) (k : Nat) (hk : k < L.length) : L[k].1.size ≤ maxLen ∧ L[k].2.size ≤ maxLen := by
  have h1 := psum_take_succ L k hk
  have h2 := psum_take_le L (k+1)
  unfold psz at h
  unfold psz1 at h1
  unfold maxLen
  omega
theorem quiet_l {P : Program} {f : FuncId} {args : Array Value} {w : World} {n : Nat} {v : Value}
    (h : Calls P f args (w.drewN n) fun e w' => e = .returned v ∧ w.drewN n = w') : Calls P f args (w.drewN n) fun e w'' => e = .returned v ∧ ∃ m, w'' = w.drewN m :=
  h.mono fun _ _ ⟨he, hm⟩ => ⟨he, n, hm.symm⟩
end Go.Proofs.YtgpgeegpaaoakaaDoor
