/- The walk of the law FnExactSameFacts: for every input the call returns true and nothing that was there has turned. -/
import Derived.Test.YtpbnglpiadfjpaaFindF
import Derived.Test.YtpbnglpiadfjpaaLawAtom
namespace Go.Proofs.Ytpbnglpiadfjpaa
open Go.RowKit
attribute [local go_sem ↓] Go.wp_at_zero Go.wp_at_succ
set_option linter.unusedVariables false
set_option maxHeartbeats 2000000 in
set_option maxRecDepth 100000 in
theorem walk_FnExactSameFacts (w : World) (v0 : Value) (x0 : List FactV) (m0 : SF w 0 w.heap.size v0 x0) (o0 : okFs x0) (v1 : Value) (x1 : List FactV) (m1 : SF w 0 w.heap.size v1 x1) (o1 : okFs x1) :
    Calls Try.prog 5 #[v0, v1] w fun e w' => e = .returned (.bool true) ∧ Below w.heap.size w w' := by
  have M0 := Lib.hid (show Ob SF w 0 w.heap.size v0 x0 from ⟨m0, Nat.le_refl _⟩)
  have M1 := Lib.hid (show Ob SF w 0 w.heap.size v1 x1 from ⟨m1, Nat.le_refl _⟩)
  clear m0
  clear m1
  have B := Lib.hid (Up.rf w)
  go_enter Try.func5, Try.ntmps5
  go_wp2_with fail
  refine (csz_facts ((M0.out)) o0 (by omega) (by omega)).mono ?_
  rintro e W1 ⟨rfl, b2⟩
  have s3 : w.heap.size ≤ W1.heap.size := b2.size
  replace M0 := Lib.hid (M0.out.up b2)
  replace M1 := Lib.hid (M1.out.up b2)
  replace B := Lib.hid (Up.tr B.out b2)
  clear b2
  by_cases hl0 : ((fssz x0 : Nat) : Int) ≤ 1048576
  · skip
    rw [szv_pos hl0]
    have hz0 : fssz x0 ≤ 1048576 := by omega
    go_wp2_with fail
    refine (csz_facts ((M1.out)) o1 (by omega) (by omega)).mono ?_
    rintro e W4 ⟨rfl, b5⟩
    have s6 : W1.heap.size ≤ W4.heap.size := b5.size
    replace M0 := Lib.hid (M0.out.up b5)
    replace M1 := Lib.hid (M1.out.up b5)
    replace B := Lib.hid (Up.tr B.out b5)
    clear b5
    by_cases hl1 : ((fssz x1 : Nat) : Int) ≤ 1048576 - (fssz x0 : Nat)
    · skip
      rw [szv_pos hl1]
      have hz1 : fssz x1 ≤ 1048576 := by omega
      go_wp2_with fail
      refine (cto_facts ((M0.out)) hz0).mono ?_
      rintro e W7 ⟨u11, rfl, hN10, b8⟩
      have s9 : W4.heap.size ≤ W7.heap.size := b8.size
      have N10 := Lib.hid hN10
      clear hN10
      replace M0 := Lib.hid (M0.out.up b8)
      replace M1 := Lib.hid (M1.out.up b8)
      replace B := Lib.hid (Up.tr B.out b8)
      clear b8
      go_wp2_with fail
      refine (cto_facts ((M1.out)) hz1).mono ?_
      rintro e W12 ⟨u16, rfl, hN15, b13⟩
      have s14 : W7.heap.size ≤ W12.heap.size := b13.size
      have N15 := Lib.hid hN15
      clear hN15
      replace M0 := Lib.hid (M0.out.up b13)
      replace M1 := Lib.hid (M1.out.up b13)
      replace N10 := Lib.hid (N10.out.up b13)
      replace B := Lib.hid (Up.tr B.out b13)
      clear b13
      go_wp2_with fail
      refine (cSameFactsS ((N10.out).sf) ((N15.out).sf) ).mono ?_
      rintro e W17 ⟨rfl, b18⟩
      have s19 : W12.heap.size ≤ W17.heap.size := b18.size
      clear N10
      clear N15
      replace M0 := Lib.hid (M0.out.up b18)
      replace M1 := Lib.hid (M1.out.up b18)
      replace B := Lib.hid (Up.tr B.out b18)
      clear b18
      go_wp2_with fail
      refine (cto_facts ((M0.out)) hz0).mono ?_
      rintro e W20 ⟨u24, rfl, hN23, b21⟩
      have s22 : W17.heap.size ≤ W20.heap.size := b21.size
      have N23 := Lib.hid hN23
      clear hN23
      replace M0 := Lib.hid (M0.out.up b21)
      replace M1 := Lib.hid (M1.out.up b21)
      replace B := Lib.hid (Up.tr B.out b21)
      clear b21
      go_wp2_with fail
      refine (cto_facts ((M1.out)) hz1).mono ?_
      rintro e W25 ⟨u29, rfl, hN28, b26⟩
      have s27 : W20.heap.size ≤ W25.heap.size := b26.size
      have N28 := Lib.hid hN28
      clear hN28
      replace M0 := Lib.hid (M0.out.up b26)
      replace M1 := Lib.hid (M1.out.up b26)
      replace N23 := Lib.hid (N23.out.up b26)
      replace B := Lib.hid (Up.tr B.out b26)
      clear b26
      go_wp2_with fail
      refine (cSameFacts ((N23.out).sf) ((N28.out).sf) ).mono ?_
      rintro e W30 ⟨rfl, b31⟩
      have s32 : W25.heap.size ≤ W30.heap.size := b31.size
      replace M0 := Lib.hid (M0.out.up b31)
      replace M1 := Lib.hid (M1.out.up b31)
      replace N23 := Lib.hid (N23.out.up b31)
      replace N28 := Lib.hid (N28.out.up b31)
      replace B := Lib.hid (Up.tr B.out b31)
      clear b31
      go_wp2_with fail
      refine (cto_facts ((M0.out)) hz0).mono ?_
      rintro e W33 ⟨u37, rfl, hN36, b34⟩
      have s35 : W30.heap.size ≤ W33.heap.size := b34.size
      have N36 := Lib.hid hN36
      clear hN36
      clear M0
      replace M1 := Lib.hid (M1.out.up b34)
      replace N23 := Lib.hid (N23.out.up b34)
      replace N28 := Lib.hid (N28.out.up b34)
      replace B := Lib.hid (Up.tr B.out b34)
      clear b34
      go_wp2_with fail
      refine (ceq_facts ((N23.out).sf) ((N36.out).sf) ).mono ?_
      rintro e W38 ⟨rfl, b39⟩
      have s40 : W33.heap.size ≤ W38.heap.size := b39.size
      clear N23
      clear N36
      replace M1 := Lib.hid (M1.out.up b39)
      replace N28 := Lib.hid (N28.out.up b39)
      replace B := Lib.hid (Up.tr B.out b39)
      clear b39
      go_wp2_with fail
      refine (cto_facts ((M1.out)) hz1).mono ?_
      rintro e W41 ⟨u45, rfl, hN44, b42⟩
      have s43 : W38.heap.size ≤ W41.heap.size := b42.size
      have N44 := Lib.hid hN44
      clear hN44
      clear M1
      replace N28 := Lib.hid (N28.out.up b42)
      replace B := Lib.hid (Up.tr B.out b42)
      clear b42
      go_wp2_with fail
      refine (ceq_facts ((N28.out).sf) ((N44.out).sf) ).mono ?_
      rintro e W46 ⟨rfl, b47⟩
      have s48 : W41.heap.size ≤ W46.heap.size := b47.size
      clear N28
      clear N44
      replace B := Lib.hid (Up.tr B.out b47)
      clear b47
      go_wp2_with fail
      go_ret
      exact ⟨rfl, B.out⟩
    · have hn : szv (1048576 - (fssz x0 : Nat)) (fssz x1) < 0 := by rw [szv_neg (by omega)]; omega
      go_wp2_with fail
      go_ret
      exact ⟨rfl, B.out⟩
  · have hn : szv (1048576) (fssz x0) < 0 := by rw [szv_neg (by omega)]; omega
    go_wp2_with fail
    go_ret
    exact ⟨rfl, B.out⟩
end Go.Proofs.Ytpbnglpiadfjpaa
