/- The contracts of IsFact and IsPattern, the program's and the reference's: each pair returns the same plain function of the fact or pattern; wherever the lengths can be counted. -/
import Derived.Test.YtgpgeegpaaoakaaDoorC1
import Derived.Test.YtgpgeegpaaoakaaDoorAtom
namespace Go.Proofs.YtgpgeegpaaoakaaDoor
open Go.RowKit
attribute [local go_sem ↓] Go.wp_at_zero Go.wp_at_succ
def isFactB (f : FactV) : Bool := (isNameB f.rel && decide (f.args.length ≤ 3)) && f.args.all isAtomB
def isPatB (f : FactV) : Bool := (isNameB f.rel && decide (f.args.length ≤ 3)) && f.args.all isTermB
theorem fsz_rel {f : FactV} (h : fsz f ≤ 1048576) : f.rel.size ≤ maxLen := by unfold fsz at h; unfold maxLen; omega
theorem fsz_arg {f : FactV} (h : fsz f ≤ 1048576) (k : Nat) (hk : k < f.args.length) : f.args[k].size ≤ maxLen := by
  have := tsum_mem (List.getElem_mem hk); unfold fsz tsz at h; unfold maxLen; omega
theorem all_take_t {α : Type} {L : List α} {p : α → Bool} {k : Nat} (hk : k < L.length) (h : (L.take k).all p = true) (h' : p L[k] = true) : (L.take (k+1)).all p = true := by
  rw [List.take_succ_eq_append_getElem hk, List.all_append, h]; simp [h']
theorem all_at_f {α : Type} {L : List α} {p : α → Bool} {k : Nat} (hk : k < L.length) (h' : p L[k] = false) : L.all p = false := by
  rw [List.all_eq_false]; exact ⟨L[k], List.getElem_mem hk, by simp [h']⟩
theorem all_take_all {α : Type} {L : List α} {p : α → Bool} {k : Nat} (hk : L.length ≤ k) (h : (L.take k).all p = true) : L.all p = true := by rwa [List.take_of_length_le hk] at h
end Go.Proofs.YtgpgeegpaaoakaaDoor
