/- The walk of the law FnExactVarsOf: for every input the call returns true and nothing that was there has turned. -/
import Derived.Test.YtojgkodffmdnpaaMarkFs
import Derived.Test.YtojgkodffmdnpaaVars
import Derived.Test.YtojgkodffmdnpaaLawAtom
namespace Go.Proofs.Ytojgkodffmdnpaa
open Go.RowKit
attribute [local go_sem ↓] Go.wp_at_zero Go.wp_at_succ
set_option linter.unusedVariables false
set_option maxHeartbeats 2000000 in
set_option maxRecDepth 100000 in
theorem walk_FnExactVarsOf (w : World) (v0 : Value) (x0 : FactV) (m0 : AF w 0 w.heap.size v0 x0) (o0 : okF x0) :
    Calls Try.prog 12 #[v0] w fun e w' => e = .returned (.bool true) ∧ Below w.heap.size w w' := by
  have M0 := Lib.hid (show Ob AF w 0 w.heap.size v0 x0 from ⟨m0, Nat.le_refl _⟩)
  obtain ⟨a0, c0, rfl⟩ := AF.form m0
  clear m0
  have hb0 : Up w (w.alloc (.cells #[.string x0.rel, .slice a0 x0.args.length c0] 24)) := (Up.rf w).al _
  have hk0 : Blk (w.alloc (.cells #[.string x0.rel, .slice a0 x0.args.length c0] 24)) (w.heap.size) 24 #[.string x0.rel, .slice a0 x0.args.length c0] := by
    have := (Blk.new w 24 #[.string x0.rel, .slice a0 x0.args.length c0])
    simpa using this
  have K0 := Lib.hid hk0
  have hzW : w.heap.size + 1 ≤ (w.alloc (.cells #[.string x0.rel, .slice a0 x0.args.length c0] 24)).heap.size := by simp
  replace M0 := Lib.hid (M0.out.up hb0)
  have B := Lib.hid hb0
  clear hb0 hk0
  go_enter Try.func12, Try.ntmps12
  go_wp2_with fail
  generalize (w.alloc (.cells #[.string x0.rel, .slice a0 x0.args.length c0] 24)) = W0 at *
  have q1 : W0.cell? ⟨w.heap.size, 0, none⟩ = some (.string x0.rel) := (K0.out.cell 0).trans rfl
  have q2 : W0.cell? ⟨w.heap.size, 1, none⟩ = some (.slice a0 x0.args.length c0) := (K0.out.cell 1).trans rfl
  go_wp2_with fail
  clear q1 q2
  refine (csz_pat ((M0.out)) o0 (by omega) (by omega)).mono ?_
  rintro e W3 ⟨rfl, b4⟩
  have s5 : W0.heap.size ≤ W3.heap.size := b4.size
  replace M0 := Lib.hid (M0.out.up b4)
  replace K0 := Lib.hid (K0.out.up b4)
  replace B := Lib.hid (Up.tr B.out b4)
  clear b4
  by_cases hl0 : ((fsz x0 : Nat) : Int) ≤ 1048576
  · skip
    rw [szv_pos hl0]
    have hz0 : fsz x0 ≤ 1048576 := by omega
    have q6 : W3.cell? ⟨w.heap.size, 0, none⟩ = some (.string x0.rel) := (K0.out.cell 0).trans rfl
    have q7 : W3.cell? ⟨w.heap.size, 1, none⟩ = some (.slice a0 x0.args.length c0) := (K0.out.cell 1).trans rfl
    go_wp2_with fail
    clear q6 q7
    refine (cto_pat ((M0.out)) hz0).mono ?_
    rintro e W8 ⟨u12, rfl, hN11, b9⟩
    have s10 : W3.heap.size ≤ W8.heap.size := b9.size
    obtain ⟨a13, c14, rfl⟩ := hN11.1.form
    have N11 := Lib.hid hN11
    clear hN11
    replace M0 := Lib.hid (M0.out.up b9)
    replace K0 := Lib.hid (K0.out.up b9)
    replace B := Lib.hid (Up.tr B.out b9)
    clear b9
    have q15 : W8.cell? ⟨w.heap.size, 0, none⟩ = some (.string x0.rel) := (K0.out.cell 0).trans rfl
    have q16 : W8.cell? ⟨w.heap.size, 1, none⟩ = some (.slice a0 x0.args.length c0) := (K0.out.cell 1).trans rfl
    go_wp2_with fail
    clear q15 q16
    refine (cVarsOfS ((N11.out).af) hz0).mono ?_
    rintro e W17 ⟨u21, rfl, hN20, b18⟩
    have s19 : W8.heap.size ≤ W17.heap.size := b18.size
    have N20 := Lib.hid hN20
    clear hN20
    have z22 : tsz (varsP x0) ≤ 4194304 := zr_le (varsP_tsz x0) (by omega)
    clear N11
    replace M0 := Lib.hid (M0.out.up b18)
    replace K0 := Lib.hid (K0.out.up b18)
    replace B := Lib.hid (Up.tr B.out b18)
    clear b18
    have q23 : W17.cell? ⟨w.heap.size, 0, none⟩ = some (.string x0.rel) := (K0.out.cell 0).trans rfl
    have q24 : W17.cell? ⟨w.heap.size, 1, none⟩ = some (.slice a0 x0.args.length c0) := (K0.out.cell 1).trans rfl
    go_wp2_with fail
    clear q23 q24
    refine (cto_pat ((M0.out)) hz0).mono ?_
    rintro e W25 ⟨u29, rfl, hN28, b26⟩
    have s27 : W17.heap.size ≤ W25.heap.size := b26.size
    obtain ⟨a30, c31, rfl⟩ := hN28.1.form
    have N28 := Lib.hid hN28
    clear hN28
    replace M0 := Lib.hid (M0.out.up b26)
    replace N20 := Lib.hid (N20.out.up b26)
    replace K0 := Lib.hid (K0.out.up b26)
    replace B := Lib.hid (Up.tr B.out b26)
    clear b26
    go_wp2_with fail
    have b34 : Up W25 (W25.alloc (.cells #[.string x0.rel, .slice a30 x0.args.length c31] 30)) := Up.al1 _ _
    have hK32 : Blk (W25.alloc (.cells #[.string x0.rel, .slice a30 x0.args.length c31] 30)) W25.heap.size 30 #[.string x0.rel, .slice a30 x0.args.length c31] := Blk.new _ _ _
    have s35 : W25.heap.size + 1 ≤ (W25.alloc (.cells #[.string x0.rel, .slice a30 x0.args.length c31] 30)).heap.size := by simp
    have K32 := Lib.hid hK32
    clear hK32
    generalize (W25.alloc (.cells #[.string x0.rel, .slice a30 x0.args.length c31] 30)) = W33 at *
    replace M0 := Lib.hid (M0.out.up b34)
    replace N20 := Lib.hid (N20.out.up b34)
    replace N28 := Lib.hid (N28.out.up b34)
    replace K0 := Lib.hid (K0.out.up b34)
    replace B := Lib.hid (Up.tr B.out b34)
    clear b34
    refine (cVarsOf ((N28.out).af) hz0).mono ?_
    rintro e W36 ⟨u40, rfl, hN39, b37⟩
    have s38 : W33.heap.size ≤ W36.heap.size := b37.size
    have N39 := Lib.hid hN39
    clear hN39
    have z41 : tsz (varsP x0) ≤ 4194304 := zr_le (varsP_tsz x0) (by omega)
    replace M0 := Lib.hid (M0.out.up b37)
    replace N20 := Lib.hid (N20.out.up b37)
    replace N28 := Lib.hid (N28.out.up b37)
    replace K0 := Lib.hid (K0.out.up b37)
    replace K32 := Lib.hid (K32.out.up b37)
    replace B := Lib.hid (Up.tr B.out b37)
    clear b37
    go_wp2_with fail
    refine (ceq_texts ((N39.out).tx) ((N20.out).tx) ).mono ?_
    rintro e W42 ⟨rfl, b43⟩
    have s44 : W36.heap.size ≤ W42.heap.size := b43.size
    replace M0 := Lib.hid (M0.out.up b43)
    replace N20 := Lib.hid (N20.out.up b43)
    replace N28 := Lib.hid (N28.out.up b43)
    replace N39 := Lib.hid (N39.out.up b43)
    replace K0 := Lib.hid (K0.out.up b43)
    replace K32 := Lib.hid (K32.out.up b43)
    replace B := Lib.hid (Up.tr B.out b43)
    clear b43
    go_wp2_with fail
    have q45 : W42.cell? ⟨W25.heap.size, 0, none⟩ = some (.string x0.rel) := (K32.out.cell 0).trans rfl
    have q46 : W42.cell? ⟨W25.heap.size, 1, none⟩ = some (.slice a30 x0.args.length c31) := (K32.out.cell 1).trans rfl
    have q47 : W42.cell? ⟨w.heap.size, 0, none⟩ = some (.string x0.rel) := (K0.out.cell 0).trans rfl
    have q48 : W42.cell? ⟨w.heap.size, 1, none⟩ = some (.slice a0 x0.args.length c0) := (K0.out.cell 1).trans rfl
    go_region_held3 (fun w' => w'.cell? ⟨W25.heap.size, 0, none⟩ = some (.string x0.rel) ∧ w'.cell? ⟨W25.heap.size, 1, none⟩ = some (.slice a30 x0.args.length c31) ∧ w'.cell? ⟨w.heap.size, 0, none⟩ = some (.string x0.rel) ∧ w'.cell? ⟨w.heap.size, 1, none⟩ = some (.slice a0 x0.args.length c0) ∧ Up W42 w')
      (first | exact ⟨q45, q46, q47, q48, Up.dr (Up.rf _)⟩ | (have hh := ‹_ ∧ _ ∧ _ ∧ _ ∧ Up W42 _›; have hb := ‹Up _ _›; exact ⟨keepCell hb hh.1, keepCell hb hh.2.1, keepCell hb hh.2.2.1, keepCell hb hh.2.2.2.1, Up.tr hh.2.2.2.2 hb⟩))
      (first
        | (go_at_call 48; (with_reducible refine (cto_pat ((M0.out.up (‹_ ∧ _ ∧ _ ∧ _ ∧ Up W42 _›).2.2.2.2)) hz0).mono ?_); rintro e W49 ⟨u52, rfl, hN51, b50⟩)
        | (go_at_call 51; (with_reducible refine (ceq_pat ((N28.out.up (‹_ ∧ _ ∧ _ ∧ _ ∧ Up W42 _›).2.2.2.2).af) ((hN51).af) ).mono ?_); rintro e W53 ⟨rfl, b54⟩))
    have b55 := (‹_ ∧ _ ∧ _ ∧ _ ∧ Up W42 _›).2.2.2.2
    have s56 : W42.heap.size ≤ W49.heap.size := b50.size
    have s57 : W49.heap.size ≤ W53.heap.size := b54.size
    replace M0 := Lib.hid (M0.out.up b55)
    replace N20 := Lib.hid (N20.out.up b55)
    replace N28 := Lib.hid (N28.out.up b55)
    replace N39 := Lib.hid (N39.out.up b55)
    replace K0 := Lib.hid (K0.out.up b55)
    replace K32 := Lib.hid (K32.out.up b55)
    replace B := Lib.hid (Up.tr B.out b55)
    clear q45 q46 q47 q48 b55
    clear hN51
    clear b54 b50
    have q58 : W53.cell? ⟨W25.heap.size, 0, none⟩ = some (.string x0.rel) := (K32.out.cell 0).trans rfl
    have q59 : W53.cell? ⟨W25.heap.size, 1, none⟩ = some (.slice a30 x0.args.length c31) := (K32.out.cell 1).trans rfl
    go_wp2_with fail
    clear q58 q59
    have cb63 := ctF_le (x := x0) (by omega)
    refine (cmk_pat (N28.out) (k := 1) (by omega) (by omega)).mono ?_
    rintro e W60 ⟨rfl, h64, c65⟩
    have s62 : W53.heap.size ≤ W60.heap.size := c65.size
    have i66 : (0 : Int) ≤ ((1 + ctF (x0) : Nat) : Int) := by omega
    clear N28
    clear K32
    replace M0 := Lib.hid (M0.out.chg c65 (by omega))
    replace N20 := Lib.hid (N20.out.chg c65 (by omega))
    replace N39 := Lib.hid (N39.out.chg c65 (by omega))
    replace K0 := Lib.hid (K0.out.chg c65 (by omega))
    replace B := Lib.hid (c65.below B.out (by omega) (by have := B.out.size; omega))
    clear h64
    clear c65
    go_wp2_with fail
    refine (ceq_texts ((N39.out).tx) ((N20.out).tx) ).mono ?_
    rintro e W67 ⟨rfl, b68⟩
    have s69 : W60.heap.size ≤ W67.heap.size := b68.size
    replace M0 := Lib.hid (M0.out.up b68)
    replace N20 := Lib.hid (N20.out.up b68)
    replace N39 := Lib.hid (N39.out.up b68)
    replace K0 := Lib.hid (K0.out.up b68)
    replace B := Lib.hid (Up.tr B.out b68)
    clear b68
    go_wp2_with fail
    have cb73 := ctT_le (x := (varsP x0)) (by omega)
    refine (cmk_texts (N39.out) (k := 1) (by omega) (by omega)).mono ?_
    rintro e W70 ⟨rfl, h74, c75⟩
    have s72 : W67.heap.size ≤ W70.heap.size := c75.size
    have i76 : (0 : Int) ≤ ((1 + ctT ((varsP x0)) : Nat) : Int) := by omega
    replace M0 := Lib.hid (M0.out.chg c75 (by omega))
    replace N20 := Lib.hid (N20.out.chg c75 (by omega))
    replace K0 := Lib.hid (K0.out.chg c75 (by omega))
    replace B := Lib.hid (c75.below B.out (by omega) (by have := B.out.size; omega))
    replace N39 := Lib.hid h74
    clear h74
    clear c75
    go_wp2_with fail
    refine (chd_texts ((N39.out).tx) (by omega) (by have := ctT_le (x := (varsP x0)) (by omega); omega)).mono ?_
    rintro e W77 ⟨rfl, b78⟩
    have s79 : W70.heap.size ≤ W77.heap.size := b78.size
    have i80 : (0 : Int) ≤ ((1 + ctT ((varsP x0)) : Nat) : Int) := by omega
    replace M0 := Lib.hid (M0.out.up b78)
    replace N20 := Lib.hid (N20.out.up b78)
    replace N39 := Lib.hid (N39.out.up b78)
    replace K0 := Lib.hid (K0.out.up b78)
    replace B := Lib.hid (Up.tr B.out b78)
    clear b78
    have q81 : W77.cell? ⟨w.heap.size, 0, none⟩ = some (.string x0.rel) := (K0.out.cell 0).trans rfl
    have q82 : W77.cell? ⟨w.heap.size, 1, none⟩ = some (.slice a0 x0.args.length c0) := (K0.out.cell 1).trans rfl
    go_wp2_with fail
    clear q81 q82
    refine (cto_pat ((M0.out)) hz0).mono ?_
    rintro e W83 ⟨u87, rfl, hN86, b84⟩
    have s85 : W77.heap.size ≤ W83.heap.size := b84.size
    obtain ⟨a88, c89, rfl⟩ := hN86.1.form
    have N86 := Lib.hid hN86
    clear hN86
    clear M0
    clear K0
    replace N20 := Lib.hid (N20.out.up b84)
    replace N39 := Lib.hid (N39.out.up b84)
    replace B := Lib.hid (Up.tr B.out b84)
    clear b84
    go_wp2_with fail
    refine (cVarsOf ((N86.out).af) hz0).mono ?_
    rintro e W90 ⟨u94, rfl, hN93, b91⟩
    have s92 : W83.heap.size ≤ W90.heap.size := b91.size
    have N93 := Lib.hid hN93
    clear hN93
    have z95 : tsz (varsP x0) ≤ 4194304 := zr_le (varsP_tsz x0) (by omega)
    clear N86
    replace N20 := Lib.hid (N20.out.up b91)
    replace N39 := Lib.hid (N39.out.up b91)
    replace B := Lib.hid (Up.tr B.out b91)
    clear b91
    go_wp2_with fail
    refine (ceq_texts ((N93.out).tx) ((N20.out).tx) ).mono ?_
    rintro e W96 ⟨rfl, b97⟩
    have s98 : W90.heap.size ≤ W96.heap.size := b97.size
    clear N20
    clear N93
    replace N39 := Lib.hid (N39.out.up b97)
    replace B := Lib.hid (Up.tr B.out b97)
    clear b97
    go_wp2_with fail
    refine (chd_texts ((N39.out).tx) (by omega) (by have := ctT_le (x := (varsP x0)) (by omega); omega)).mono ?_
    rintro e W99 ⟨rfl, b100⟩
    have s101 : W96.heap.size ≤ W99.heap.size := b100.size
    have i102 : (0 : Int) ≤ ((1 + ctT ((varsP x0)) : Nat) : Int) := by omega
    clear N39
    replace B := Lib.hid (Up.tr B.out b100)
    clear b100
    go_wp2_with fail
    go_ret
    exact ⟨rfl, B.out⟩
  · have hn : szv (1048576) (fsz x0) < 0 := by rw [szv_neg (by omega)]; omega
    go_wp2_with fail
    go_ret
    exact ⟨rfl, B.out⟩
end Go.Proofs.Ytojgkodffmdnpaa
