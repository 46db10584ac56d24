/- The walk of the law FnExactSortedTexts: for every input the call returns true and nothing that was there has turned. -/
import Derived.Test.YtojgkodffmdnpaaMarkFs
import Derived.Test.YtojgkodffmdnpaaVars
import Derived.Test.YtojgkodffmdnpaaLawAtom
namespace Go.Proofs.Ytojgkodffmdnpaa
open Go.RowKit
attribute [local go_sem ↓] Go.wp_at_zero Go.wp_at_succ
set_option linter.unusedVariables false
set_option maxHeartbeats 2000000 in
set_option maxRecDepth 100000 in
theorem walk_FnExactSortedTexts (w : World) (v0 : Value) (x0 : List ByteArray) (m0 : TX w 0 w.heap.size v0 x0) (o0 : okT x0) :
    Calls Try.prog 10 #[v0] w fun e w' => e = .returned (.bool true) ∧ Below w.heap.size w w' := by
  have M0 := Lib.hid (show Ob TX w 0 w.heap.size v0 x0 from ⟨m0, Nat.le_refl _⟩)
  clear m0
  have B := Lib.hid (Up.rf w)
  go_enter Try.func10, Try.ntmps10
  go_wp2_with fail
  refine (csz_texts ((M0.out)) o0 (by omega) (by omega)).mono ?_
  rintro e W1 ⟨rfl, b2⟩
  have s3 : w.heap.size ≤ W1.heap.size := b2.size
  replace M0 := Lib.hid (M0.out.up b2)
  replace B := Lib.hid (Up.tr B.out b2)
  clear b2
  by_cases hl0 : ((tsz x0 : Nat) : Int) ≤ 1048576
  · skip
    rw [szv_pos hl0]
    have hz0 : tsz x0 ≤ 1048576 := by omega
    go_wp2_with fail
    refine (cto_texts ((M0.out)) hz0).mono ?_
    rintro e W4 ⟨u8, rfl, hN7, b5⟩
    have s6 : W1.heap.size ≤ W4.heap.size := b5.size
    have N7 := Lib.hid hN7
    clear hN7
    replace M0 := Lib.hid (M0.out.up b5)
    replace B := Lib.hid (Up.tr B.out b5)
    clear b5
    go_wp2_with fail
    refine (cSortedS ((N7.out).tx) (tsz_len (by omega))).mono ?_
    rintro e W9 ⟨u13, rfl, hN12, b10⟩
    have s11 : W4.heap.size ≤ W9.heap.size := b10.size
    have N12 := Lib.hid hN12
    clear hN12
    have z14 : tsz (setT x0) ≤ 4194304 := zr_le (setT_tsz x0) (by omega)
    clear N7
    replace M0 := Lib.hid (M0.out.up b10)
    replace B := Lib.hid (Up.tr B.out b10)
    clear b10
    go_wp2_with fail
    refine (cto_texts ((M0.out)) hz0).mono ?_
    rintro e W15 ⟨u19, rfl, hN18, b16⟩
    have s17 : W9.heap.size ≤ W15.heap.size := b16.size
    have N18 := Lib.hid hN18
    clear hN18
    replace M0 := Lib.hid (M0.out.up b16)
    replace N12 := Lib.hid (N12.out.up b16)
    replace B := Lib.hid (Up.tr B.out b16)
    clear b16
    go_wp2_with fail
    refine (cSorted ((N18.out).tx) (tsz_len (by omega))).mono ?_
    rintro e W20 ⟨u24, rfl, hN23, b21⟩
    have s22 : W15.heap.size ≤ W20.heap.size := b21.size
    have N23 := Lib.hid hN23
    clear hN23
    have z25 : tsz (setT x0) ≤ 4194304 := zr_le (setT_tsz x0) (by omega)
    replace M0 := Lib.hid (M0.out.up b21)
    replace N12 := Lib.hid (N12.out.up b21)
    replace N18 := Lib.hid (N18.out.up b21)
    replace B := Lib.hid (Up.tr B.out b21)
    clear b21
    go_wp2_with fail
    refine (ceq_texts ((N23.out).tx) ((N12.out).tx) ).mono ?_
    rintro e W26 ⟨rfl, b27⟩
    have s28 : W20.heap.size ≤ W26.heap.size := b27.size
    replace M0 := Lib.hid (M0.out.up b27)
    replace N12 := Lib.hid (N12.out.up b27)
    replace N18 := Lib.hid (N18.out.up b27)
    replace N23 := Lib.hid (N23.out.up b27)
    replace B := Lib.hid (Up.tr B.out b27)
    clear b27
    go_wp2_with fail
    refine (cto_texts ((M0.out)) hz0).mono ?_
    rintro e W29 ⟨u33, rfl, hN32, b30⟩
    have s31 : W26.heap.size ≤ W29.heap.size := b30.size
    have N32 := Lib.hid hN32
    clear hN32
    replace M0 := Lib.hid (M0.out.up b30)
    replace N12 := Lib.hid (N12.out.up b30)
    replace N18 := Lib.hid (N18.out.up b30)
    replace N23 := Lib.hid (N23.out.up b30)
    replace B := Lib.hid (Up.tr B.out b30)
    clear b30
    go_wp2_with fail
    refine (ceq_texts ((N18.out).tx) ((N32.out).tx) ).mono ?_
    rintro e W34 ⟨rfl, b35⟩
    have s36 : W29.heap.size ≤ W34.heap.size := b35.size
    clear N32
    replace M0 := Lib.hid (M0.out.up b35)
    replace N12 := Lib.hid (N12.out.up b35)
    replace N18 := Lib.hid (N18.out.up b35)
    replace N23 := Lib.hid (N23.out.up b35)
    replace B := Lib.hid (Up.tr B.out b35)
    clear b35
    go_wp2_with fail
    have cb40 := ctT_le (x := x0) (by omega)
    refine (cmk_texts (N18.out) (k := 1) (by omega) (by omega)).mono ?_
    rintro e W37 ⟨rfl, h41, c42⟩
    have s39 : W34.heap.size ≤ W37.heap.size := c42.size
    have i43 : (0 : Int) ≤ ((1 + ctT (x0) : Nat) : Int) := by omega
    clear N18
    replace M0 := Lib.hid (M0.out.chg c42 (by omega))
    replace N12 := Lib.hid (N12.out.chg c42 (by omega))
    replace N23 := Lib.hid (N23.out.chg c42 (by omega))
    replace B := Lib.hid (c42.below B.out (by omega) (by have := B.out.size; omega))
    clear h41
    clear c42
    go_wp2_with fail
    refine (ceq_texts ((N23.out).tx) ((N12.out).tx) ).mono ?_
    rintro e W44 ⟨rfl, b45⟩
    have s46 : W37.heap.size ≤ W44.heap.size := b45.size
    replace M0 := Lib.hid (M0.out.up b45)
    replace N12 := Lib.hid (N12.out.up b45)
    replace N23 := Lib.hid (N23.out.up b45)
    replace B := Lib.hid (Up.tr B.out b45)
    clear b45
    go_wp2_with fail
    have cb50 := ctT_le (x := (setT x0)) (by omega)
    refine (cmk_texts (N23.out) (k := 1) (by omega) (by omega)).mono ?_
    rintro e W47 ⟨rfl, h51, c52⟩
    have s49 : W44.heap.size ≤ W47.heap.size := c52.size
    have i53 : (0 : Int) ≤ ((1 + ctT ((setT x0)) : Nat) : Int) := by omega
    replace M0 := Lib.hid (M0.out.chg c52 (by omega))
    replace N12 := Lib.hid (N12.out.chg c52 (by omega))
    replace B := Lib.hid (c52.below B.out (by omega) (by have := B.out.size; omega))
    replace N23 := Lib.hid h51
    clear h51
    clear c52
    go_wp2_with fail
    refine (chd_texts ((N23.out).tx) (by omega) (by have := ctT_le (x := (setT x0)) (by omega); omega)).mono ?_
    rintro e W54 ⟨rfl, b55⟩
    have s56 : W47.heap.size ≤ W54.heap.size := b55.size
    have i57 : (0 : Int) ≤ ((1 + ctT ((setT x0)) : Nat) : Int) := by omega
    replace M0 := Lib.hid (M0.out.up b55)
    replace N12 := Lib.hid (N12.out.up b55)
    replace N23 := Lib.hid (N23.out.up b55)
    replace B := Lib.hid (Up.tr B.out b55)
    clear b55
    go_wp2_with fail
    refine (cto_texts ((M0.out)) hz0).mono ?_
    rintro e W58 ⟨u62, rfl, hN61, b59⟩
    have s60 : W54.heap.size ≤ W58.heap.size := b59.size
    have N61 := Lib.hid hN61
    clear hN61
    clear M0
    replace N12 := Lib.hid (N12.out.up b59)
    replace N23 := Lib.hid (N23.out.up b59)
    replace B := Lib.hid (Up.tr B.out b59)
    clear b59
    go_wp2_with fail
    refine (cSorted ((N61.out).tx) (tsz_len (by omega))).mono ?_
    rintro e W63 ⟨u67, rfl, hN66, b64⟩
    have s65 : W58.heap.size ≤ W63.heap.size := b64.size
    have N66 := Lib.hid hN66
    clear hN66
    have z68 : tsz (setT x0) ≤ 4194304 := zr_le (setT_tsz x0) (by omega)
    clear N61
    replace N12 := Lib.hid (N12.out.up b64)
    replace N23 := Lib.hid (N23.out.up b64)
    replace B := Lib.hid (Up.tr B.out b64)
    clear b64
    go_wp2_with fail
    refine (ceq_texts ((N66.out).tx) ((N12.out).tx) ).mono ?_
    rintro e W69 ⟨rfl, b70⟩
    have s71 : W63.heap.size ≤ W69.heap.size := b70.size
    clear N12
    clear N66
    replace N23 := Lib.hid (N23.out.up b70)
    replace B := Lib.hid (Up.tr B.out b70)
    clear b70
    go_wp2_with fail
    refine (chd_texts ((N23.out).tx) (by omega) (by have := ctT_le (x := (setT x0)) (by omega); omega)).mono ?_
    rintro e W72 ⟨rfl, b73⟩
    have s74 : W69.heap.size ≤ W72.heap.size := b73.size
    have i75 : (0 : Int) ≤ ((1 + ctT ((setT x0)) : Nat) : Int) := by omega
    clear N23
    replace B := Lib.hid (Up.tr B.out b73)
    clear b73
    go_wp2_with fail
    go_ret
    exact ⟨rfl, B.out⟩
  · have hn : szv (1048576) (tsz x0) < 0 := by rw [szv_neg (by omega)]; omega
    go_wp2_with fail
    go_ret
    exact ⟨rfl, B.out⟩
end Go.Proofs.Ytojgkodffmdnpaa
