/- What a set of facts is, as a plain function of the list; no condition: nothing of the program is named here. -/
import Derived.Test.YtgpgeegpaaoakaaDoorCmpF
import Derived.Test.YtgpgeegpaaoakaaDoorFacts
import Derived.Test.YtgpgeegpaaoakaaDoorIsFact
import Derived.Test.YtgpgeegpaaoakaaDoorIsBind
namespace Go.Proofs.YtgpgeegpaaoakaaDoor
open Go.RowKit
set_option linter.unusedVariables false
def okFAt (x : List FactV) (i : Nat) : Bool := isFactB (x.getD i default) && (i == 0 || decide (cmpF (x.getD (i - 1) default) (x.getD i default) < 0))
def areFB (x : List FactV) : Bool := decide (x.length ≤ 24) && (List.range x.length).all (okFAt x)
theorem okFAt_0 {x : List FactV} (h : 0 < x.length) : okFAt x 0 = isFactB x[0] := by unfold okFAt; simp [List.getD_eq_getElem?_getD, List.getElem?_eq_getElem h]
theorem okFAt_s {x : List FactV} {j : Nat} (h : j + 1 < x.length) : okFAt x (j + 1) = (isFactB x[j+1] && decide (cmpF x[j] x[j+1] < 0)) := by
  unfold okFAt; simp [List.getD_eq_getElem?_getD, List.getElem?_eq_getElem h, List.getElem?_eq_getElem (show j < x.length by omega)]
theorem areFB_f {x : List FactV} {k : Nat} (hk : k < x.length) (h : okFAt x k = false) : areFB x = false := by unfold areFB; rw [range_all_f hk h]; simp
theorem fssz_at {L : List FactV} (h : fssz L ≤ 1048576) (k : Nat) (hk : k < L.length) : fsz L[k] ≤ 1048576 := by
  have := fsum_mem (List.getElem_mem hk); unfold fssz at h; omega
theorem areFB_end {x : List FactV} (h : (List.range x.length).all (okFAt x) = true) : areFB x = decide ((x.length : Int) ≤ 24) := by
  unfold areFB; rw [h, Bool.and_true]; congr 1; apply propext; omega
end Go.Proofs.YtgpgeegpaaoakaaDoor
