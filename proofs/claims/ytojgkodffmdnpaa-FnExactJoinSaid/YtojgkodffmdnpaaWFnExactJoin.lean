/- The walk of the law FnExactJoin: for every input the call returns true and nothing that was there has turned. -/
import Derived.Test.YtojgkodffmdnpaaJoin
import Derived.Test.YtojgkodffmdnpaaLawAtom
namespace Go.Proofs.Ytojgkodffmdnpaa
open Go.RowKit
attribute [local go_sem ↓] Go.wp_at_zero Go.wp_at_succ
set_option linter.unusedVariables false
set_option maxHeartbeats 2000000 in
set_option maxRecDepth 100000 in
theorem walk_FnExactJoin (w : World) (v0 : Value) (x0 : List ByteArray) (m0 : TX w 0 w.heap.size v0 x0) (o0 : okT x0) (x1 : ByteArray) (o1 : okS x1) :
    Calls Try.prog 14 #[v0, .string x1] w fun e w' => e = .returned (.bool true) ∧ Below w.heap.size w w' := by
  have M0 := Lib.hid (show Ob TX w 0 w.heap.size v0 x0 from ⟨m0, Nat.le_refl _⟩)
  clear m0
  have B := Lib.hid (Up.rf w)
  by_cases hs1 : (x1.size : Int) ≤ 1048576
  · skip
    go_enter Try.func14, Try.ntmps14
    go_wp2_with fail
    refine (csz_texts ((M0.out)) o0 (by omega) (by omega)).mono ?_
    rintro e W1 ⟨rfl, b2⟩
    have s3 : w.heap.size ≤ W1.heap.size := b2.size
    replace M0 := Lib.hid (M0.out.up b2)
    replace B := Lib.hid (Up.tr B.out b2)
    clear b2
    by_cases hl0 : ((tsz x0 : Nat) : Int) ≤ 1048576
    · skip
      rw [szv_pos hl0]
      have hz0 : tsz x0 ≤ 1048576 := by omega
      go_wp2_with fail
      refine (cto_texts ((M0.out)) hz0).mono ?_
      rintro e W4 ⟨u8, rfl, hN7, b5⟩
      have s6 : W1.heap.size ≤ W4.heap.size := b5.size
      have N7 := Lib.hid hN7
      clear hN7
      replace M0 := Lib.hid (M0.out.up b5)
      replace B := Lib.hid (Up.tr B.out b5)
      clear b5
      go_wp2_with fail
      refine (cJoinS ((N7.out).tx) (lj_len (by omega)) (lj_sz (by omega) (by omega))).mono ?_
      rintro e W9 ⟨rfl, b10⟩
      have s11 : W4.heap.size ≤ W9.heap.size := b10.size
      clear N7
      replace M0 := Lib.hid (M0.out.up b10)
      replace B := Lib.hid (Up.tr B.out b10)
      clear b10
      go_wp2_with fail
      refine (cto_texts ((M0.out)) hz0).mono ?_
      rintro e W12 ⟨u16, rfl, hN15, b13⟩
      have s14 : W9.heap.size ≤ W12.heap.size := b13.size
      have N15 := Lib.hid hN15
      clear hN15
      replace M0 := Lib.hid (M0.out.up b13)
      replace B := Lib.hid (Up.tr B.out b13)
      clear b13
      go_wp2_with fail
      refine (cJoin ((N15.out).tx) (lj_len (by omega)) (lj_sz (by omega) (by omega))).mono ?_
      rintro e W17 ⟨rfl, b18⟩
      have s19 : W12.heap.size ≤ W17.heap.size := b18.size
      replace M0 := Lib.hid (M0.out.up b18)
      replace N15 := Lib.hid (N15.out.up b18)
      replace B := Lib.hid (Up.tr B.out b18)
      clear b18
      go_wp2_with fail
      refine (cto_texts ((M0.out)) hz0).mono ?_
      rintro e W20 ⟨u24, rfl, hN23, b21⟩
      have s22 : W17.heap.size ≤ W20.heap.size := b21.size
      have N23 := Lib.hid hN23
      clear hN23
      clear M0
      replace N15 := Lib.hid (N15.out.up b21)
      replace B := Lib.hid (Up.tr B.out b21)
      clear b21
      go_wp2_with fail
      refine (ceq_texts ((N15.out).tx) ((N23.out).tx) ).mono ?_
      rintro e W25 ⟨rfl, b26⟩
      have s27 : W20.heap.size ≤ W25.heap.size := b26.size
      clear N15
      clear N23
      replace B := Lib.hid (Up.tr B.out b26)
      clear b26
      go_wp2_with fail
      go_ret
      exact ⟨rfl, B.out⟩
    · have hn : szv (1048576) (tsz x0) < 0 := by rw [szv_neg (by omega)]; omega
      go_wp2_with fail
      go_ret
      exact ⟨rfl, B.out⟩
  · go_enter Try.func14, Try.ntmps14
    go_wp2_with fail
    go_ret
    exact ⟨rfl, B.out⟩
end Go.Proofs.Ytojgkodffmdnpaa
