/- The walk of the law FnExactRestrict: for every input the call returns true and nothing that was there has turned. -/
import Derived.Test.YtpbnglpiadfjpaaMarkFs
import Derived.Test.YtpbnglpiadfjpaaRes
import Derived.Test.YtpbnglpiadfjpaaLawAtom
namespace Go.Proofs.Ytpbnglpiadfjpaa
open Go.RowKit
attribute [local go_sem ↓] Go.wp_at_zero Go.wp_at_succ
set_option linter.unusedVariables false
set_option maxHeartbeats 2000000 in
set_option maxRecDepth 100000 in
theorem walk_FnExactRestrict (w : World) (v0 : Value) (x0 : List (ByteArray × ByteArray)) (m0 : SP w 0 w.heap.size v0 x0) (o0 : okPs x0) (v1 : Value) (x1 : List ByteArray) (m1 : TX w 0 w.heap.size v1 x1) (o1 : okT x1) :
    Calls Try.prog 10 #[v0, v1] w fun e w' => e = .returned (.bool true) ∧ Below w.heap.size w w' := by
  have M0 := Lib.hid (show Ob SP w 0 w.heap.size v0 x0 from ⟨m0, Nat.le_refl _⟩)
  have M1 := Lib.hid (show Ob TX w 0 w.heap.size v1 x1 from ⟨m1, Nat.le_refl _⟩)
  clear m0
  clear m1
  have B := Lib.hid (Up.rf w)
  go_enter Try.func10, Try.ntmps10
  go_wp2_with fail
  refine (csz_pairs ((M0.out)) o0 (by omega) (by omega)).mono ?_
  rintro e W1 ⟨rfl, b2⟩
  have s3 : w.heap.size ≤ W1.heap.size := b2.size
  replace M0 := Lib.hid (M0.out.up b2)
  replace M1 := Lib.hid (M1.out.up b2)
  replace B := Lib.hid (Up.tr B.out b2)
  clear b2
  by_cases hl0 : ((psz x0 : Nat) : Int) ≤ 1048576
  · skip
    rw [szv_pos hl0]
    have hz0 : psz x0 ≤ 1048576 := by omega
    go_wp2_with fail
    refine (csz_texts ((M1.out)) o1 (by omega) (by omega)).mono ?_
    rintro e W4 ⟨rfl, b5⟩
    have s6 : W1.heap.size ≤ W4.heap.size := b5.size
    replace M0 := Lib.hid (M0.out.up b5)
    replace M1 := Lib.hid (M1.out.up b5)
    replace B := Lib.hid (Up.tr B.out b5)
    clear b5
    by_cases hl1 : ((tsz x1 : Nat) : Int) ≤ 1048576 - (psz x0 : Nat)
    · skip
      rw [szv_pos hl1]
      have hz1 : tsz x1 ≤ 1048576 := by omega
      go_wp2_with fail
      refine (cto_pairs ((M0.out)) hz0).mono ?_
      rintro e W7 ⟨u11, rfl, hN10, b8⟩
      have s9 : W4.heap.size ≤ W7.heap.size := b8.size
      have N10 := Lib.hid hN10
      clear hN10
      replace M0 := Lib.hid (M0.out.up b8)
      replace M1 := Lib.hid (M1.out.up b8)
      replace B := Lib.hid (Up.tr B.out b8)
      clear b8
      go_wp2_with fail
      refine (cto_texts ((M1.out)) hz1).mono ?_
      rintro e W12 ⟨u16, rfl, hN15, b13⟩
      have s14 : W7.heap.size ≤ W12.heap.size := b13.size
      have N15 := Lib.hid hN15
      clear hN15
      replace M0 := Lib.hid (M0.out.up b13)
      replace M1 := Lib.hid (M1.out.up b13)
      replace N10 := Lib.hid (N10.out.up b13)
      replace B := Lib.hid (Up.tr B.out b13)
      clear b13
      go_wp2_with fail
      refine (cRestrictS ((N10.out).sp) ((N15.out).tx) hz0).mono ?_
      rintro e W17 ⟨u21, rfl, hN20, b18⟩
      have s19 : W12.heap.size ≤ W17.heap.size := b18.size
      have N20 := Lib.hid hN20
      clear hN20
      have z22 : psz (resP x0 x1) ≤ 4194304 := zr_le (resP_psz x0 x1) (by omega)
      clear N10
      clear N15
      replace M0 := Lib.hid (M0.out.up b18)
      replace M1 := Lib.hid (M1.out.up b18)
      replace B := Lib.hid (Up.tr B.out b18)
      clear b18
      go_wp2_with fail
      refine (cto_pairs ((M0.out)) hz0).mono ?_
      rintro e W23 ⟨u27, rfl, hN26, b24⟩
      have s25 : W17.heap.size ≤ W23.heap.size := b24.size
      have N26 := Lib.hid hN26
      clear hN26
      replace M0 := Lib.hid (M0.out.up b24)
      replace M1 := Lib.hid (M1.out.up b24)
      replace N20 := Lib.hid (N20.out.up b24)
      replace B := Lib.hid (Up.tr B.out b24)
      clear b24
      go_wp2_with fail
      refine (cto_texts ((M1.out)) hz1).mono ?_
      rintro e W28 ⟨u32, rfl, hN31, b29⟩
      have s30 : W23.heap.size ≤ W28.heap.size := b29.size
      have N31 := Lib.hid hN31
      clear hN31
      replace M0 := Lib.hid (M0.out.up b29)
      replace M1 := Lib.hid (M1.out.up b29)
      replace N20 := Lib.hid (N20.out.up b29)
      replace N26 := Lib.hid (N26.out.up b29)
      replace B := Lib.hid (Up.tr B.out b29)
      clear b29
      go_wp2_with fail
      refine (cRestrict ((N26.out).sp) ((N31.out).tx) hz0).mono ?_
      rintro e W33 ⟨u37, rfl, hN36, b34⟩
      have s35 : W28.heap.size ≤ W33.heap.size := b34.size
      have N36 := Lib.hid hN36
      clear hN36
      have z38 : psz (resP x0 x1) ≤ 4194304 := zr_le (resP_psz x0 x1) (by omega)
      replace M0 := Lib.hid (M0.out.up b34)
      replace M1 := Lib.hid (M1.out.up b34)
      replace N20 := Lib.hid (N20.out.up b34)
      replace N26 := Lib.hid (N26.out.up b34)
      replace N31 := Lib.hid (N31.out.up b34)
      replace B := Lib.hid (Up.tr B.out b34)
      clear b34
      go_wp2_with fail
      refine (ceq_pairs ((N36.out).sp) ((N20.out).sp) ).mono ?_
      rintro e W39 ⟨rfl, b40⟩
      have s41 : W33.heap.size ≤ W39.heap.size := b40.size
      replace M0 := Lib.hid (M0.out.up b40)
      replace M1 := Lib.hid (M1.out.up b40)
      replace N20 := Lib.hid (N20.out.up b40)
      replace N26 := Lib.hid (N26.out.up b40)
      replace N31 := Lib.hid (N31.out.up b40)
      replace N36 := Lib.hid (N36.out.up b40)
      replace B := Lib.hid (Up.tr B.out b40)
      clear b40
      go_wp2_with fail
      refine (cto_pairs ((M0.out)) hz0).mono ?_
      rintro e W42 ⟨u46, rfl, hN45, b43⟩
      have s44 : W39.heap.size ≤ W42.heap.size := b43.size
      have N45 := Lib.hid hN45
      clear hN45
      replace M0 := Lib.hid (M0.out.up b43)
      replace M1 := Lib.hid (M1.out.up b43)
      replace N20 := Lib.hid (N20.out.up b43)
      replace N26 := Lib.hid (N26.out.up b43)
      replace N31 := Lib.hid (N31.out.up b43)
      replace N36 := Lib.hid (N36.out.up b43)
      replace B := Lib.hid (Up.tr B.out b43)
      clear b43
      go_wp2_with fail
      refine (ceq_pairs ((N26.out).sp) ((N45.out).sp) ).mono ?_
      rintro e W47 ⟨rfl, b48⟩
      have s49 : W42.heap.size ≤ W47.heap.size := b48.size
      clear N45
      replace M0 := Lib.hid (M0.out.up b48)
      replace M1 := Lib.hid (M1.out.up b48)
      replace N20 := Lib.hid (N20.out.up b48)
      replace N26 := Lib.hid (N26.out.up b48)
      replace N31 := Lib.hid (N31.out.up b48)
      replace N36 := Lib.hid (N36.out.up b48)
      replace B := Lib.hid (Up.tr B.out b48)
      clear b48
      go_wp2_with fail
      refine (cto_texts ((M1.out)) hz1).mono ?_
      rintro e W50 ⟨u54, rfl, hN53, b51⟩
      have s52 : W47.heap.size ≤ W50.heap.size := b51.size
      have N53 := Lib.hid hN53
      clear hN53
      replace M0 := Lib.hid (M0.out.up b51)
      replace M1 := Lib.hid (M1.out.up b51)
      replace N20 := Lib.hid (N20.out.up b51)
      replace N26 := Lib.hid (N26.out.up b51)
      replace N31 := Lib.hid (N31.out.up b51)
      replace N36 := Lib.hid (N36.out.up b51)
      replace B := Lib.hid (Up.tr B.out b51)
      clear b51
      go_wp2_with fail
      refine (ceq_texts ((N31.out).tx) ((N53.out).tx) ).mono ?_
      rintro e W55 ⟨rfl, b56⟩
      have s57 : W50.heap.size ≤ W55.heap.size := b56.size
      clear N53
      replace M0 := Lib.hid (M0.out.up b56)
      replace M1 := Lib.hid (M1.out.up b56)
      replace N20 := Lib.hid (N20.out.up b56)
      replace N26 := Lib.hid (N26.out.up b56)
      replace N31 := Lib.hid (N31.out.up b56)
      replace N36 := Lib.hid (N36.out.up b56)
      replace B := Lib.hid (Up.tr B.out b56)
      clear b56
      go_wp2_with fail
      have cb61 := ctP_le (x := x0) (by omega)
      refine (cmk_pairs (N26.out) (k0 := 1) (by omega) (by omega)).mono ?_
      rintro e W58 ⟨rfl, h62, c63⟩
      have s60 : W55.heap.size ≤ W58.heap.size := c63.size
      have i64 : (0 : Int) ≤ ((1 + ctP (x0) : Nat) : Int) := by omega
      clear N26
      replace M0 := Lib.hid (M0.out.chg c63 (by omega))
      replace M1 := Lib.hid (M1.out.chg c63 (by omega))
      replace N20 := Lib.hid (N20.out.chg c63 (by omega))
      replace N31 := Lib.hid (N31.out.chg c63 (by omega))
      replace N36 := Lib.hid (N36.out.chg c63 (by omega))
      replace B := Lib.hid (c63.below B.out (by omega) (by have := B.out.size; omega))
      clear h62
      clear c63
      go_wp2_with fail
      have cb68 := ctT_le (x := x1) (by omega)
      refine (cmk_texts (N31.out) (k := (1 + ctP (x0))) (by omega) (by omega)).mono ?_
      rintro e W65 ⟨rfl, h69, c70⟩
      have s67 : W58.heap.size ≤ W65.heap.size := c70.size
      have i71 : (0 : Int) ≤ (((1 + ctP (x0)) + ctT (x1) : Nat) : Int) := by omega
      clear N31
      replace M0 := Lib.hid (M0.out.chg c70 (by omega))
      replace M1 := Lib.hid (M1.out.chg c70 (by omega))
      replace N20 := Lib.hid (N20.out.chg c70 (by omega))
      replace N36 := Lib.hid (N36.out.chg c70 (by omega))
      replace B := Lib.hid (c70.below B.out (by omega) (by have := B.out.size; omega))
      clear h69
      clear c70
      go_wp2_with fail
      refine (ceq_pairs ((N36.out).sp) ((N20.out).sp) ).mono ?_
      rintro e W72 ⟨rfl, b73⟩
      have s74 : W65.heap.size ≤ W72.heap.size := b73.size
      replace M0 := Lib.hid (M0.out.up b73)
      replace M1 := Lib.hid (M1.out.up b73)
      replace N20 := Lib.hid (N20.out.up b73)
      replace N36 := Lib.hid (N36.out.up b73)
      replace B := Lib.hid (Up.tr B.out b73)
      clear b73
      go_wp2_with fail
      have cb78 := ctP_le (x := (resP x0 x1)) (by omega)
      refine (cmk_pairs (N36.out) (k0 := 1) (by omega) (by omega)).mono ?_
      rintro e W75 ⟨rfl, h79, c80⟩
      have s77 : W72.heap.size ≤ W75.heap.size := c80.size
      have i81 : (0 : Int) ≤ ((1 + ctP ((resP x0 x1)) : Nat) : Int) := by omega
      replace M0 := Lib.hid (M0.out.chg c80 (by omega))
      replace M1 := Lib.hid (M1.out.chg c80 (by omega))
      replace N20 := Lib.hid (N20.out.chg c80 (by omega))
      replace B := Lib.hid (c80.below B.out (by omega) (by have := B.out.size; omega))
      replace N36 := Lib.hid h79
      clear h79
      clear c80
      go_wp2_with fail
      refine (chd_pairs ((N36.out).sp) (by omega) (by have := ctP_le (x := (resP x0 x1)) (by omega); omega)).mono ?_
      rintro e W82 ⟨rfl, b83⟩
      have s84 : W75.heap.size ≤ W82.heap.size := b83.size
      have i85 : (0 : Int) ≤ ((1 + ctP ((resP x0 x1)) : Nat) : Int) := by omega
      replace M0 := Lib.hid (M0.out.up b83)
      replace M1 := Lib.hid (M1.out.up b83)
      replace N20 := Lib.hid (N20.out.up b83)
      replace N36 := Lib.hid (N36.out.up b83)
      replace B := Lib.hid (Up.tr B.out b83)
      clear b83
      go_wp2_with fail
      refine (cto_pairs ((M0.out)) hz0).mono ?_
      rintro e W86 ⟨u90, rfl, hN89, b87⟩
      have s88 : W82.heap.size ≤ W86.heap.size := b87.size
      have N89 := Lib.hid hN89
      clear hN89
      clear M0
      replace M1 := Lib.hid (M1.out.up b87)
      replace N20 := Lib.hid (N20.out.up b87)
      replace N36 := Lib.hid (N36.out.up b87)
      replace B := Lib.hid (Up.tr B.out b87)
      clear b87
      go_wp2_with fail
      refine (cto_texts ((M1.out)) hz1).mono ?_
      rintro e W91 ⟨u95, rfl, hN94, b92⟩
      have s93 : W86.heap.size ≤ W91.heap.size := b92.size
      have N94 := Lib.hid hN94
      clear hN94
      clear M1
      replace N20 := Lib.hid (N20.out.up b92)
      replace N36 := Lib.hid (N36.out.up b92)
      replace N89 := Lib.hid (N89.out.up b92)
      replace B := Lib.hid (Up.tr B.out b92)
      clear b92
      go_wp2_with fail
      refine (cRestrict ((N89.out).sp) ((N94.out).tx) hz0).mono ?_
      rintro e W96 ⟨u100, rfl, hN99, b97⟩
      have s98 : W91.heap.size ≤ W96.heap.size := b97.size
      have N99 := Lib.hid hN99
      clear hN99
      have z101 : psz (resP x0 x1) ≤ 4194304 := zr_le (resP_psz x0 x1) (by omega)
      clear N89
      clear N94
      replace N20 := Lib.hid (N20.out.up b97)
      replace N36 := Lib.hid (N36.out.up b97)
      replace B := Lib.hid (Up.tr B.out b97)
      clear b97
      go_wp2_with fail
      refine (ceq_pairs ((N99.out).sp) ((N20.out).sp) ).mono ?_
      rintro e W102 ⟨rfl, b103⟩
      have s104 : W96.heap.size ≤ W102.heap.size := b103.size
      clear N20
      clear N99
      replace N36 := Lib.hid (N36.out.up b103)
      replace B := Lib.hid (Up.tr B.out b103)
      clear b103
      go_wp2_with fail
      refine (chd_pairs ((N36.out).sp) (by omega) (by have := ctP_le (x := (resP x0 x1)) (by omega); omega)).mono ?_
      rintro e W105 ⟨rfl, b106⟩
      have s107 : W102.heap.size ≤ W105.heap.size := b106.size
      have i108 : (0 : Int) ≤ ((1 + ctP ((resP x0 x1)) : Nat) : Int) := by omega
      clear N36
      replace B := Lib.hid (Up.tr B.out b106)
      clear b106
      go_wp2_with fail
      go_ret
      exact ⟨rfl, B.out⟩
    · have hn : szv (1048576 - (psz x0 : Nat)) (tsz x1) < 0 := by rw [szv_neg (by omega)]; omega
      go_wp2_with fail
      go_ret
      exact ⟨rfl, B.out⟩
  · have hn : szv (1048576) (psz x0) < 0 := by rw [szv_neg (by omega)]; omega
    go_wp2_with fail
    go_ret
    exact ⟨rfl, B.out⟩
end Go.Proofs.Ytpbnglpiadfjpaa
