/- The walk of the law FnExactCompareAtoms: for every input the call returns true and nothing that was there has turned. -/
import Derived.Test.YtlofgeiajcegcaaDoorCmp
namespace Go.Proofs.YtlofgeiajcegcaaDoor
open Go.RowKit
attribute [local go_sem ↓] Go.wp_at_zero Go.wp_at_succ
set_option linter.unusedVariables false
set_option maxHeartbeats 2000000 in
set_option maxRecDepth 100000 in
theorem walk_FnExactCompareAtoms (w : World) (x0 : ByteArray) (o0 : okS x0) (x1 : ByteArray) (o1 : okS x1) (HT : Tabs w) :
    Calls Tryd.prog 5 #[.string x0, .string x1] w fun e w' => e = .returned (.bool true) ∧ Below w.heap.size w w' := by
  have B := Lib.hid (Up.rf w)
  by_cases hs0 : (x0.size : Int) ≤ 1048576
  · skip
    by_cases hs1 : (x1.size : Int) ≤ 1048576
    · skip
      go_enter Tryd.func5, Tryd.ntmps5
      go_wp2_with fail
      refine (cCmpAtomsS  (by omega) (by omega)).mono ?_
      rintro e W1 ⟨rfl, b2⟩
      have s3 : w.heap.size ≤ W1.heap.size := b2.size
      replace B := Lib.hid (Up.tr B.out b2)
      clear b2
      go_wp2_with fail
      refine (cCmpAtoms (HT.up (B.out)) (by omega) (by omega)).mono ?_
      rintro e W4 ⟨rfl, b5⟩
      have s6 : W1.heap.size ≤ W4.heap.size := b5.size
      replace B := Lib.hid (Up.tr B.out b5)
      clear b5
      go_wp2_with fail
      go_ret
      exact ⟨rfl, B.out⟩
    · go_enter Tryd.func5, Tryd.ntmps5
      go_wp2_with fail
      go_ret
      exact ⟨rfl, B.out⟩
  · go_enter Tryd.func5, Tryd.ntmps5
    go_wp2_with fail
    go_ret
    exact ⟨rfl, B.out⟩
end Go.Proofs.YtlofgeiajcegcaaDoor
