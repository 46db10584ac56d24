/- The walk of the law FnExactFactsWith: for every input the call returns true and nothing that was there has turned. -/
import Derived.Test.YtpbnglpiadfjpaaMarkFs
import Derived.Test.YtpbnglpiadfjpaaFw
import Derived.Test.YtpbnglpiadfjpaaLawAtom
namespace Go.Proofs.Ytpbnglpiadfjpaa
open Go.RowKit
attribute [local go_sem ↓] Go.wp_at_zero Go.wp_at_succ
set_option linter.unusedVariables false
set_option maxHeartbeats 2000000 in
set_option maxRecDepth 100000 in
theorem walk_FnExactFactsWith (w : World) (v0 : Value) (x0 : List FactV) (m0 : SF w 0 w.heap.size v0 x0) (o0 : okFs x0) (x1 : ByteArray) (o1 : okS x1) :
    Calls Try.prog 9 #[v0, .string x1] w fun e w' => e = .returned (.bool true) ∧ Below w.heap.size w w' := by
  have M0 := Lib.hid (show Ob SF w 0 w.heap.size v0 x0 from ⟨m0, Nat.le_refl _⟩)
  clear m0
  have B := Lib.hid (Up.rf w)
  by_cases hs1 : (x1.size : Int) ≤ 1048576
  · skip
    go_enter Try.func9, Try.ntmps9
    go_wp2_with fail
    refine (csz_facts ((M0.out)) o0 (by omega) (by omega)).mono ?_
    rintro e W1 ⟨rfl, b2⟩
    have s3 : w.heap.size ≤ W1.heap.size := b2.size
    replace M0 := Lib.hid (M0.out.up b2)
    replace B := Lib.hid (Up.tr B.out b2)
    clear b2
    by_cases hl0 : ((fssz x0 : Nat) : Int) ≤ 1048576
    · skip
      rw [szv_pos hl0]
      have hz0 : fssz x0 ≤ 1048576 := by omega
      go_wp2_with fail
      refine (cto_facts ((M0.out)) hz0).mono ?_
      rintro e W4 ⟨u8, rfl, hN7, b5⟩
      have s6 : W1.heap.size ≤ W4.heap.size := b5.size
      have N7 := Lib.hid hN7
      clear hN7
      replace M0 := Lib.hid (M0.out.up b5)
      replace B := Lib.hid (Up.tr B.out b5)
      clear b5
      go_wp2_with fail
      refine (cFactsWithS ((N7.out).sf) hz0).mono ?_
      rintro e W9 ⟨u13, rfl, hN12, b10⟩
      have s11 : W4.heap.size ≤ W9.heap.size := b10.size
      have N12 := Lib.hid hN12
      clear hN12
      have z14 : fssz (withF x0 x1) ≤ 4194304 := zr_le (fssz_filter (relB x1) x0) (by omega)
      clear N7
      replace M0 := Lib.hid (M0.out.up b10)
      replace B := Lib.hid (Up.tr B.out b10)
      clear b10
      go_wp2_with fail
      refine (cto_facts ((M0.out)) hz0).mono ?_
      rintro e W15 ⟨u19, rfl, hN18, b16⟩
      have s17 : W9.heap.size ≤ W15.heap.size := b16.size
      have N18 := Lib.hid hN18
      clear hN18
      replace M0 := Lib.hid (M0.out.up b16)
      replace N12 := Lib.hid (N12.out.up b16)
      replace B := Lib.hid (Up.tr B.out b16)
      clear b16
      go_wp2_with fail
      refine (cFactsWith ((N18.out).sf) hz0).mono ?_
      rintro e W20 ⟨u24, rfl, hN23, b21⟩
      have s22 : W15.heap.size ≤ W20.heap.size := b21.size
      have N23 := Lib.hid hN23
      clear hN23
      have z25 : fssz (withF x0 x1) ≤ 4194304 := zr_le (fssz_filter (relB x1) x0) (by omega)
      replace M0 := Lib.hid (M0.out.up b21)
      replace N12 := Lib.hid (N12.out.up b21)
      replace N18 := Lib.hid (N18.out.up b21)
      replace B := Lib.hid (Up.tr B.out b21)
      clear b21
      go_wp2_with fail
      refine (ceq_facts ((N23.out).sf) ((N12.out).sf) ).mono ?_
      rintro e W26 ⟨rfl, b27⟩
      have s28 : W20.heap.size ≤ W26.heap.size := b27.size
      replace M0 := Lib.hid (M0.out.up b27)
      replace N12 := Lib.hid (N12.out.up b27)
      replace N18 := Lib.hid (N18.out.up b27)
      replace N23 := Lib.hid (N23.out.up b27)
      replace B := Lib.hid (Up.tr B.out b27)
      clear b27
      go_wp2_with fail
      refine (cto_facts ((M0.out)) hz0).mono ?_
      rintro e W29 ⟨u33, rfl, hN32, b30⟩
      have s31 : W26.heap.size ≤ W29.heap.size := b30.size
      have N32 := Lib.hid hN32
      clear hN32
      replace M0 := Lib.hid (M0.out.up b30)
      replace N12 := Lib.hid (N12.out.up b30)
      replace N18 := Lib.hid (N18.out.up b30)
      replace N23 := Lib.hid (N23.out.up b30)
      replace B := Lib.hid (Up.tr B.out b30)
      clear b30
      go_wp2_with fail
      refine (ceq_facts ((N18.out).sf) ((N32.out).sf) ).mono ?_
      rintro e W34 ⟨rfl, b35⟩
      have s36 : W29.heap.size ≤ W34.heap.size := b35.size
      clear N32
      replace M0 := Lib.hid (M0.out.up b35)
      replace N12 := Lib.hid (N12.out.up b35)
      replace N18 := Lib.hid (N18.out.up b35)
      replace N23 := Lib.hid (N23.out.up b35)
      replace B := Lib.hid (Up.tr B.out b35)
      clear b35
      go_wp2_with fail
      refine (cmk_facts (N18.out) (k0 := 1) (by omega) (by have := ctFs_le (x := x0) (by omega); omega)).mono ?_
      rintro e W37 ⟨rfl, h40, c41⟩
      have s39 : W34.heap.size ≤ W37.heap.size := c41.size
      have i42 : (0 : Int) ≤ ((1 + ctFs (x0) : Nat) : Int) := by omega
      clear N18
      replace M0 := Lib.hid (M0.out.chg c41 (by omega))
      replace N12 := Lib.hid (N12.out.chg c41 (by omega))
      replace N23 := Lib.hid (N23.out.chg c41 (by omega))
      replace B := Lib.hid (c41.below B.out (by omega) (by have := B.out.size; omega))
      clear h40
      clear c41
      go_wp2_with fail
      refine (ceq_facts ((N23.out).sf) ((N12.out).sf) ).mono ?_
      rintro e W43 ⟨rfl, b44⟩
      have s45 : W37.heap.size ≤ W43.heap.size := b44.size
      replace M0 := Lib.hid (M0.out.up b44)
      replace N12 := Lib.hid (N12.out.up b44)
      replace N23 := Lib.hid (N23.out.up b44)
      replace B := Lib.hid (Up.tr B.out b44)
      clear b44
      go_wp2_with fail
      refine (cmk_facts (N23.out) (k0 := 1) (by omega) (by have := ctFs_le (x := (withF x0 x1)) (by omega); omega)).mono ?_
      rintro e W46 ⟨rfl, h49, c50⟩
      have s48 : W43.heap.size ≤ W46.heap.size := c50.size
      have i51 : (0 : Int) ≤ ((1 + ctFs ((withF x0 x1)) : Nat) : Int) := by omega
      replace M0 := Lib.hid (M0.out.chg c50 (by omega))
      replace N12 := Lib.hid (N12.out.chg c50 (by omega))
      replace B := Lib.hid (c50.below B.out (by omega) (by have := B.out.size; omega))
      replace N23 := Lib.hid h49
      clear h49
      clear c50
      go_wp2_with fail
      refine (chd_facts ((N23.out).sf) (by omega) (by have := ctFs_le (x := (withF x0 x1)) (by omega); omega)).mono ?_
      rintro e W52 ⟨rfl, b53⟩
      have s54 : W46.heap.size ≤ W52.heap.size := b53.size
      have i55 : (0 : Int) ≤ ((1 + ctFs ((withF x0 x1)) : Nat) : Int) := by omega
      replace M0 := Lib.hid (M0.out.up b53)
      replace N12 := Lib.hid (N12.out.up b53)
      replace N23 := Lib.hid (N23.out.up b53)
      replace B := Lib.hid (Up.tr B.out b53)
      clear b53
      go_wp2_with fail
      refine (cto_facts ((M0.out)) hz0).mono ?_
      rintro e W56 ⟨u60, rfl, hN59, b57⟩
      have s58 : W52.heap.size ≤ W56.heap.size := b57.size
      have N59 := Lib.hid hN59
      clear hN59
      clear M0
      replace N12 := Lib.hid (N12.out.up b57)
      replace N23 := Lib.hid (N23.out.up b57)
      replace B := Lib.hid (Up.tr B.out b57)
      clear b57
      go_wp2_with fail
      refine (cFactsWith ((N59.out).sf) hz0).mono ?_
      rintro e W61 ⟨u65, rfl, hN64, b62⟩
      have s63 : W56.heap.size ≤ W61.heap.size := b62.size
      have N64 := Lib.hid hN64
      clear hN64
      have z66 : fssz (withF x0 x1) ≤ 4194304 := zr_le (fssz_filter (relB x1) x0) (by omega)
      clear N59
      replace N12 := Lib.hid (N12.out.up b62)
      replace N23 := Lib.hid (N23.out.up b62)
      replace B := Lib.hid (Up.tr B.out b62)
      clear b62
      go_wp2_with fail
      refine (ceq_facts ((N64.out).sf) ((N12.out).sf) ).mono ?_
      rintro e W67 ⟨rfl, b68⟩
      have s69 : W61.heap.size ≤ W67.heap.size := b68.size
      clear N12
      clear N64
      replace N23 := Lib.hid (N23.out.up b68)
      replace B := Lib.hid (Up.tr B.out b68)
      clear b68
      go_wp2_with fail
      refine (chd_facts ((N23.out).sf) (by omega) (by have := ctFs_le (x := (withF x0 x1)) (by omega); omega)).mono ?_
      rintro e W70 ⟨rfl, b71⟩
      have s72 : W67.heap.size ≤ W70.heap.size := b71.size
      have i73 : (0 : Int) ≤ ((1 + ctFs ((withF x0 x1)) : Nat) : Int) := by omega
      clear N23
      replace B := Lib.hid (Up.tr B.out b71)
      clear b71
      go_wp2_with fail
      go_ret
      exact ⟨rfl, B.out⟩
    · have hn : szv (1048576) (fssz x0) < 0 := by rw [szv_neg (by omega)]; omega
      go_wp2_with fail
      go_ret
      exact ⟨rfl, B.out⟩
  · go_enter Try.func9, Try.ntmps9
    go_wp2_with fail
    go_ret
    exact ⟨rfl, B.out⟩
end Go.Proofs.Ytpbnglpiadfjpaa
