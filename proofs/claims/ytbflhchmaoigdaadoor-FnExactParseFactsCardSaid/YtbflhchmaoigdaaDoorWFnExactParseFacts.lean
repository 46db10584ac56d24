/- The walk of the law FnExactParseFacts: for every input the call returns true and nothing that was there has turned. -/
import Derived.Test.YtbflhchmaoigdaaDoorMarkFs
import Derived.Test.YtbflhchmaoigdaaDoorParFs
import Derived.Test.YtbflhchmaoigdaaDoorLawAtom
namespace Go.Proofs.YtbflhchmaoigdaaDoor
open Go.RowKit
attribute [local go_sem ↓] Go.wp_at_zero Go.wp_at_succ
set_option linter.unusedVariables false
set_option maxHeartbeats 2000000 in
set_option maxRecDepth 100000 in
theorem walk_FnExactParseFacts (w : World) (x0 : ByteArray) (o0 : okS x0) (H_MxL : MxL w) :
    Calls Tryd.prog 9 #[.string x0] w fun e w' => e = .returned (.bool true) ∧ Below w.heap.size w w' := by
  have B := Lib.hid (Up.rf w)
  by_cases hs0 : (x0.size : Int) ≤ 1048576
  · skip
    go_enter Tryd.func9, Tryd.ntmps9
    go_wp2_with fail
    refine (cParseFsS  (by omega)).mono ?_
    rintro e W1 ⟨u5, rfl, hN4, b2⟩
    have s3 : w.heap.size ≤ W1.heap.size := b2.size
    have N4 := Lib.hid hN4
    clear hN4
    have z6 : fssz ((parseFs x0).getD []) ≤ 4194304 := parseFs_fssz x0 (by omega)
    replace B := Lib.hid (Up.tr B.out b2)
    clear b2
    go_wp2_with fail
    refine (cParseFs (H_MxL.up (B.out)) (by omega)).mono ?_
    rintro e W7 ⟨u11, rfl, hN10, b8⟩
    have s9 : W1.heap.size ≤ W7.heap.size := b8.size
    have N10 := Lib.hid hN10
    clear hN10
    have z12 : fssz ((parseFs x0).getD []) ≤ 4194304 := parseFs_fssz x0 (by omega)
    replace N4 := Lib.hid (N4.out.up b8)
    replace B := Lib.hid (Up.tr B.out b8)
    clear b8
    go_wp2_with fail
    refine (ceq_facts ((N10.out).sf) ((N4.out).sf) ).mono ?_
    rintro e W13 ⟨rfl, b14⟩
    have s15 : W7.heap.size ≤ W13.heap.size := b14.size
    replace N4 := Lib.hid (N4.out.up b14)
    replace N10 := Lib.hid (N10.out.up b14)
    replace B := Lib.hid (Up.tr B.out b14)
    clear b14
    go_wp2_with fail
    have cb19 := (show ctFs ((parseFs x0).getD []) ≤ 8388608 by first | omega | exact Nat.le_trans (ctFs_le (by omega)) (by omega))
    refine (cmk_facts (N10.out) (k0 := 1) (by omega) (by omega)).mono ?_
    rintro e W16 ⟨rfl, h20, c21⟩
    have s18 : W13.heap.size ≤ W16.heap.size := c21.size
    have i22 : (0 : Int) ≤ ((1 + ctFs (((parseFs x0).getD [])) : Nat) : Int) := by omega
    replace N4 := Lib.hid (N4.out.chg c21 (by omega))
    replace B := Lib.hid (c21.below B.out (by omega) (by have := B.out.size; omega))
    replace N10 := Lib.hid h20
    clear h20
    clear c21
    go_wp2_with fail
    refine (chd_facts ((N10.out).sf) (by omega) (by have := (show ctFs ((parseFs x0).getD []) ≤ 8388608 by first | omega | exact Nat.le_trans (ctFs_le (by omega)) (by omega)); omega)).mono ?_
    rintro e W23 ⟨rfl, b24⟩
    have s25 : W16.heap.size ≤ W23.heap.size := b24.size
    have i26 : (0 : Int) ≤ ((1 + ctFs (((parseFs x0).getD [])) : Nat) : Int) := by omega
    replace N4 := Lib.hid (N4.out.up b24)
    replace N10 := Lib.hid (N10.out.up b24)
    replace B := Lib.hid (Up.tr B.out b24)
    clear b24
    go_wp2_with fail
    refine (cParseFs (H_MxL.up (B.out)) (by omega)).mono ?_
    rintro e W27 ⟨u31, rfl, hN30, b28⟩
    have s29 : W23.heap.size ≤ W27.heap.size := b28.size
    have N30 := Lib.hid hN30
    clear hN30
    have z32 : fssz ((parseFs x0).getD []) ≤ 4194304 := parseFs_fssz x0 (by omega)
    replace N4 := Lib.hid (N4.out.up b28)
    replace N10 := Lib.hid (N10.out.up b28)
    replace B := Lib.hid (Up.tr B.out b28)
    clear b28
    go_wp2_with fail
    refine (ceq_facts ((N30.out).sf) ((N4.out).sf) ).mono ?_
    rintro e W33 ⟨rfl, b34⟩
    have s35 : W27.heap.size ≤ W33.heap.size := b34.size
    clear N4
    clear N30
    replace N10 := Lib.hid (N10.out.up b34)
    replace B := Lib.hid (Up.tr B.out b34)
    clear b34
    go_wp2_with fail
    refine (chd_facts ((N10.out).sf) (by omega) (by have := (show ctFs ((parseFs x0).getD []) ≤ 8388608 by first | omega | exact Nat.le_trans (ctFs_le (by omega)) (by omega)); omega)).mono ?_
    rintro e W36 ⟨rfl, b37⟩
    have s38 : W33.heap.size ≤ W36.heap.size := b37.size
    have i39 : (0 : Int) ≤ ((1 + ctFs (((parseFs x0).getD [])) : Nat) : Int) := by omega
    clear N10
    replace B := Lib.hid (Up.tr B.out b37)
    clear b37
    go_wp2_with fail
    go_ret
    exact ⟨rfl, B.out⟩
  · go_enter Tryd.func9, Tryd.ntmps9
    go_wp2_with fail
    go_ret
    exact ⟨rfl, B.out⟩
end Go.Proofs.YtbflhchmaoigdaaDoor
