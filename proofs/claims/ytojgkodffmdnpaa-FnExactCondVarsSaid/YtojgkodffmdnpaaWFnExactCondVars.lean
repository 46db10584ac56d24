/- The walk of the law FnExactCondVars: for every input the call returns true and nothing that was there has turned. -/
import Derived.Test.YtojgkodffmdnpaaMarkFs
import Derived.Test.YtojgkodffmdnpaaCond2
import Derived.Test.YtojgkodffmdnpaaCVars
import Derived.Test.YtojgkodffmdnpaaLawAtom
namespace Go.Proofs.Ytojgkodffmdnpaa
open Go.RowKit
attribute [local go_sem ↓] Go.wp_at_zero Go.wp_at_succ
set_option linter.unusedVariables false
set_option maxHeartbeats 2000000 in
set_option maxRecDepth 100000 in
theorem walk_FnExactCondVars (w : World) (v0 : Value) (x0 : CondV) (m0 : AC w 0 w.heap.size v0 x0) (o0 : okC x0) :
    Calls Try.prog 13 #[v0] w fun e w' => e = .returned (.bool true) ∧ Below w.heap.size w w' := by
  have M0 := Lib.hid (show Ob AC w 0 w.heap.size v0 x0 from ⟨m0, Nat.le_refl _⟩)
  obtain ⟨a0, c0, rfl⟩ := AC.form m0
  clear m0
  have hb0 : Up w (w.alloc (.cells #[.int .i64 x0.kind, .string x0.pat.rel, .slice a0 x0.pat.args.length c0, .string x0.left, .string x0.right] 26)) := (Up.rf w).al _
  have hk0 : Blk (w.alloc (.cells #[.int .i64 x0.kind, .string x0.pat.rel, .slice a0 x0.pat.args.length c0, .string x0.left, .string x0.right] 26)) (w.heap.size) 26 #[.int .i64 x0.kind, .string x0.pat.rel, .slice a0 x0.pat.args.length c0, .string x0.left, .string x0.right] := by
    have := (Blk.new w 26 #[.int .i64 x0.kind, .string x0.pat.rel, .slice a0 x0.pat.args.length c0, .string x0.left, .string x0.right])
    simpa using this
  have K0 := Lib.hid hk0
  have hzW : w.heap.size + 1 ≤ (w.alloc (.cells #[.int .i64 x0.kind, .string x0.pat.rel, .slice a0 x0.pat.args.length c0, .string x0.left, .string x0.right] 26)).heap.size := by simp
  replace M0 := Lib.hid (M0.out.up hb0)
  have B := Lib.hid hb0
  clear hb0 hk0
  go_enter Try.func13, Try.ntmps13
  go_wp2_with fail
  generalize (w.alloc (.cells #[.int .i64 x0.kind, .string x0.pat.rel, .slice a0 x0.pat.args.length c0, .string x0.left, .string x0.right] 26)) = W0 at *
  have q1 : W0.cell? ⟨w.heap.size, 0, none⟩ = some (.int .i64 x0.kind) := (K0.out.cell 0).trans rfl
  have q2 : W0.cell? ⟨w.heap.size, 1, none⟩ = some (.string x0.pat.rel) := (K0.out.cell 1).trans rfl
  have q3 : W0.cell? ⟨w.heap.size, 2, none⟩ = some (.slice a0 x0.pat.args.length c0) := (K0.out.cell 2).trans rfl
  have q4 : W0.cell? ⟨w.heap.size, 3, none⟩ = some (.string x0.left) := (K0.out.cell 3).trans rfl
  have q5 : W0.cell? ⟨w.heap.size, 4, none⟩ = some (.string x0.right) := (K0.out.cell 4).trans rfl
  go_wp2_with fail
  clear q1 q2 q3 q4 q5
  refine (csz_cond ((M0.out)) o0 (by omega) (by omega)).mono ?_
  rintro e W6 ⟨rfl, b7⟩
  have s8 : W0.heap.size ≤ W6.heap.size := b7.size
  replace M0 := Lib.hid (M0.out.up b7)
  replace K0 := Lib.hid (K0.out.up b7)
  replace B := Lib.hid (Up.tr B.out b7)
  clear b7
  by_cases hl0 : ((csz x0 : Nat) : Int) ≤ 1048576
  · skip
    rw [szv_pos hl0]
    have hz0 : csz x0 ≤ 1048576 := by omega
    have q9 : W6.cell? ⟨w.heap.size, 0, none⟩ = some (.int .i64 x0.kind) := (K0.out.cell 0).trans rfl
    have q10 : W6.cell? ⟨w.heap.size, 1, none⟩ = some (.string x0.pat.rel) := (K0.out.cell 1).trans rfl
    have q11 : W6.cell? ⟨w.heap.size, 2, none⟩ = some (.slice a0 x0.pat.args.length c0) := (K0.out.cell 2).trans rfl
    have q12 : W6.cell? ⟨w.heap.size, 3, none⟩ = some (.string x0.left) := (K0.out.cell 3).trans rfl
    have q13 : W6.cell? ⟨w.heap.size, 4, none⟩ = some (.string x0.right) := (K0.out.cell 4).trans rfl
    go_wp2_with fail
    clear q9 q10 q11 q12 q13
    refine (cto_cond ((M0.out)) hz0).mono ?_
    rintro e W14 ⟨u18, rfl, hN17, b15⟩
    have s16 : W6.heap.size ≤ W14.heap.size := b15.size
    obtain ⟨a19, c20, rfl⟩ := hN17.1.form
    have N17 := Lib.hid hN17
    clear hN17
    replace M0 := Lib.hid (M0.out.up b15)
    replace K0 := Lib.hid (K0.out.up b15)
    replace B := Lib.hid (Up.tr B.out b15)
    clear b15
    have q21 : W14.cell? ⟨w.heap.size, 0, none⟩ = some (.int .i64 x0.kind) := (K0.out.cell 0).trans rfl
    have q22 : W14.cell? ⟨w.heap.size, 1, none⟩ = some (.string x0.pat.rel) := (K0.out.cell 1).trans rfl
    have q23 : W14.cell? ⟨w.heap.size, 2, none⟩ = some (.slice a0 x0.pat.args.length c0) := (K0.out.cell 2).trans rfl
    have q24 : W14.cell? ⟨w.heap.size, 3, none⟩ = some (.string x0.left) := (K0.out.cell 3).trans rfl
    have q25 : W14.cell? ⟨w.heap.size, 4, none⟩ = some (.string x0.right) := (K0.out.cell 4).trans rfl
    go_wp2_with fail
    clear q21 q22 q23 q24 q25
    refine (cCondVarsS ((N17.out).ac) hz0).mono ?_
    rintro e W26 ⟨u30, rfl, hN29, b27⟩
    have s28 : W14.heap.size ≤ W26.heap.size := b27.size
    have N29 := Lib.hid hN29
    clear hN29
    have z31 : tsz (varsC x0) ≤ 4194304 := zr_le (varsC_tsz x0) (by omega)
    clear N17
    replace M0 := Lib.hid (M0.out.up b27)
    replace K0 := Lib.hid (K0.out.up b27)
    replace B := Lib.hid (Up.tr B.out b27)
    clear b27
    have q32 : W26.cell? ⟨w.heap.size, 0, none⟩ = some (.int .i64 x0.kind) := (K0.out.cell 0).trans rfl
    have q33 : W26.cell? ⟨w.heap.size, 1, none⟩ = some (.string x0.pat.rel) := (K0.out.cell 1).trans rfl
    have q34 : W26.cell? ⟨w.heap.size, 2, none⟩ = some (.slice a0 x0.pat.args.length c0) := (K0.out.cell 2).trans rfl
    have q35 : W26.cell? ⟨w.heap.size, 3, none⟩ = some (.string x0.left) := (K0.out.cell 3).trans rfl
    have q36 : W26.cell? ⟨w.heap.size, 4, none⟩ = some (.string x0.right) := (K0.out.cell 4).trans rfl
    go_wp2_with fail
    clear q32 q33 q34 q35 q36
    refine (cto_cond ((M0.out)) hz0).mono ?_
    rintro e W37 ⟨u41, rfl, hN40, b38⟩
    have s39 : W26.heap.size ≤ W37.heap.size := b38.size
    obtain ⟨a42, c43, rfl⟩ := hN40.1.form
    have N40 := Lib.hid hN40
    clear hN40
    replace M0 := Lib.hid (M0.out.up b38)
    replace N29 := Lib.hid (N29.out.up b38)
    replace K0 := Lib.hid (K0.out.up b38)
    replace B := Lib.hid (Up.tr B.out b38)
    clear b38
    go_wp2_with fail
    have b46 : Up W37 (W37.alloc (.cells #[.int .i64 x0.kind, .string x0.pat.rel, .slice a42 x0.pat.args.length c43, .string x0.left, .string x0.right] 32)) := Up.al1 _ _
    have hK44 : Blk (W37.alloc (.cells #[.int .i64 x0.kind, .string x0.pat.rel, .slice a42 x0.pat.args.length c43, .string x0.left, .string x0.right] 32)) W37.heap.size 32 #[.int .i64 x0.kind, .string x0.pat.rel, .slice a42 x0.pat.args.length c43, .string x0.left, .string x0.right] := Blk.new _ _ _
    have s47 : W37.heap.size + 1 ≤ (W37.alloc (.cells #[.int .i64 x0.kind, .string x0.pat.rel, .slice a42 x0.pat.args.length c43, .string x0.left, .string x0.right] 32)).heap.size := by simp
    have K44 := Lib.hid hK44
    clear hK44
    generalize (W37.alloc (.cells #[.int .i64 x0.kind, .string x0.pat.rel, .slice a42 x0.pat.args.length c43, .string x0.left, .string x0.right] 32)) = W45 at *
    replace M0 := Lib.hid (M0.out.up b46)
    replace N29 := Lib.hid (N29.out.up b46)
    replace N40 := Lib.hid (N40.out.up b46)
    replace K0 := Lib.hid (K0.out.up b46)
    replace B := Lib.hid (Up.tr B.out b46)
    clear b46
    refine (cCondVars ((N40.out).ac) hz0).mono ?_
    rintro e W48 ⟨u52, rfl, hN51, b49⟩
    have s50 : W45.heap.size ≤ W48.heap.size := b49.size
    have N51 := Lib.hid hN51
    clear hN51
    have z53 : tsz (varsC x0) ≤ 4194304 := zr_le (varsC_tsz x0) (by omega)
    replace M0 := Lib.hid (M0.out.up b49)
    replace N29 := Lib.hid (N29.out.up b49)
    replace N40 := Lib.hid (N40.out.up b49)
    replace K0 := Lib.hid (K0.out.up b49)
    replace K44 := Lib.hid (K44.out.up b49)
    replace B := Lib.hid (Up.tr B.out b49)
    clear b49
    go_wp2_with fail
    refine (ceq_texts ((N51.out).tx) ((N29.out).tx) ).mono ?_
    rintro e W54 ⟨rfl, b55⟩
    have s56 : W48.heap.size ≤ W54.heap.size := b55.size
    replace M0 := Lib.hid (M0.out.up b55)
    replace N29 := Lib.hid (N29.out.up b55)
    replace N40 := Lib.hid (N40.out.up b55)
    replace N51 := Lib.hid (N51.out.up b55)
    replace K0 := Lib.hid (K0.out.up b55)
    replace K44 := Lib.hid (K44.out.up b55)
    replace B := Lib.hid (Up.tr B.out b55)
    clear b55
    go_wp2_with fail
    have q57 : W54.cell? ⟨W37.heap.size, 0, none⟩ = some (.int .i64 x0.kind) := (K44.out.cell 0).trans rfl
    have q58 : W54.cell? ⟨W37.heap.size, 1, none⟩ = some (.string x0.pat.rel) := (K44.out.cell 1).trans rfl
    have q59 : W54.cell? ⟨W37.heap.size, 2, none⟩ = some (.slice a42 x0.pat.args.length c43) := (K44.out.cell 2).trans rfl
    have q60 : W54.cell? ⟨W37.heap.size, 3, none⟩ = some (.string x0.left) := (K44.out.cell 3).trans rfl
    have q61 : W54.cell? ⟨W37.heap.size, 4, none⟩ = some (.string x0.right) := (K44.out.cell 4).trans rfl
    have q62 : W54.cell? ⟨w.heap.size, 0, none⟩ = some (.int .i64 x0.kind) := (K0.out.cell 0).trans rfl
    have q63 : W54.cell? ⟨w.heap.size, 1, none⟩ = some (.string x0.pat.rel) := (K0.out.cell 1).trans rfl
    have q64 : W54.cell? ⟨w.heap.size, 2, none⟩ = some (.slice a0 x0.pat.args.length c0) := (K0.out.cell 2).trans rfl
    have q65 : W54.cell? ⟨w.heap.size, 3, none⟩ = some (.string x0.left) := (K0.out.cell 3).trans rfl
    have q66 : W54.cell? ⟨w.heap.size, 4, none⟩ = some (.string x0.right) := (K0.out.cell 4).trans rfl
    go_region_held3 (fun w' => w'.cell? ⟨W37.heap.size, 0, none⟩ = some (.int .i64 x0.kind) ∧ w'.cell? ⟨W37.heap.size, 1, none⟩ = some (.string x0.pat.rel) ∧ w'.cell? ⟨W37.heap.size, 2, none⟩ = some (.slice a42 x0.pat.args.length c43) ∧ w'.cell? ⟨W37.heap.size, 3, none⟩ = some (.string x0.left) ∧ w'.cell? ⟨W37.heap.size, 4, none⟩ = some (.string x0.right) ∧ w'.cell? ⟨w.heap.size, 0, none⟩ = some (.int .i64 x0.kind) ∧ w'.cell? ⟨w.heap.size, 1, none⟩ = some (.string x0.pat.rel) ∧ w'.cell? ⟨w.heap.size, 2, none⟩ = some (.slice a0 x0.pat.args.length c0) ∧ w'.cell? ⟨w.heap.size, 3, none⟩ = some (.string x0.left) ∧ w'.cell? ⟨w.heap.size, 4, none⟩ = some (.string x0.right) ∧ Up W54 w')
      (first | exact ⟨q57, q58, q59, q60, q61, q62, q63, q64, q65, q66, Up.dr (Up.rf _)⟩ | (have hh := ‹_ ∧ _ ∧ _ ∧ _ ∧ _ ∧ _ ∧ _ ∧ _ ∧ _ ∧ _ ∧ Up W54 _›; have hb := ‹Up _ _›; exact ⟨keepCell hb hh.1, keepCell hb hh.2.1, keepCell hb hh.2.2.1, keepCell hb hh.2.2.2.1, keepCell hb hh.2.2.2.2.1, keepCell hb hh.2.2.2.2.2.1, keepCell hb hh.2.2.2.2.2.2.1, keepCell hb hh.2.2.2.2.2.2.2.1, keepCell hb hh.2.2.2.2.2.2.2.2.1, keepCell hb hh.2.2.2.2.2.2.2.2.2.1, Up.tr hh.2.2.2.2.2.2.2.2.2.2 hb⟩))
      (first
        | (go_at_call 18; (with_reducible refine (cto_cond ((M0.out.up (‹_ ∧ _ ∧ _ ∧ _ ∧ _ ∧ _ ∧ _ ∧ _ ∧ _ ∧ _ ∧ Up W54 _›).2.2.2.2.2.2.2.2.2.2)) hz0).mono ?_); rintro e W67 ⟨u70, rfl, hN69, b68⟩)
        | (go_at_call 21; (with_reducible refine (ceq_cond ((N40.out.up (‹_ ∧ _ ∧ _ ∧ _ ∧ _ ∧ _ ∧ _ ∧ _ ∧ _ ∧ _ ∧ Up W54 _›).2.2.2.2.2.2.2.2.2.2).ac) ((hN69).ac) ).mono ?_); rintro e W71 ⟨rfl, b72⟩))
    have b73 := (‹_ ∧ _ ∧ _ ∧ _ ∧ _ ∧ _ ∧ _ ∧ _ ∧ _ ∧ _ ∧ Up W54 _›).2.2.2.2.2.2.2.2.2.2
    have s74 : W54.heap.size ≤ W67.heap.size := b68.size
    have s75 : W67.heap.size ≤ W71.heap.size := b72.size
    replace M0 := Lib.hid (M0.out.up b73)
    replace N29 := Lib.hid (N29.out.up b73)
    replace N40 := Lib.hid (N40.out.up b73)
    replace N51 := Lib.hid (N51.out.up b73)
    replace K0 := Lib.hid (K0.out.up b73)
    replace K44 := Lib.hid (K44.out.up b73)
    replace B := Lib.hid (Up.tr B.out b73)
    clear q57 q58 q59 q60 q61 q62 q63 q64 q65 q66 b73
    clear hN69
    clear b72 b68
    have q76 : W71.cell? ⟨W37.heap.size, 0, none⟩ = some (.int .i64 x0.kind) := (K44.out.cell 0).trans rfl
    have q77 : W71.cell? ⟨W37.heap.size, 1, none⟩ = some (.string x0.pat.rel) := (K44.out.cell 1).trans rfl
    have q78 : W71.cell? ⟨W37.heap.size, 2, none⟩ = some (.slice a42 x0.pat.args.length c43) := (K44.out.cell 2).trans rfl
    have q79 : W71.cell? ⟨W37.heap.size, 3, none⟩ = some (.string x0.left) := (K44.out.cell 3).trans rfl
    have q80 : W71.cell? ⟨W37.heap.size, 4, none⟩ = some (.string x0.right) := (K44.out.cell 4).trans rfl
    go_wp2_with fail
    clear q76 q77 q78 q79 q80
    have cb84 := ctC_le (x := x0) (by omega)
    refine (cmk_cond (N40.out) (k := 1) (by omega) (by omega)).mono ?_
    rintro e W81 ⟨rfl, h85, c86⟩
    have s83 : W71.heap.size ≤ W81.heap.size := c86.size
    have i87 : (0 : Int) ≤ ((1 + ctC (x0) : Nat) : Int) := by omega
    clear N40
    clear K44
    replace M0 := Lib.hid (M0.out.chg c86 (by omega))
    replace N29 := Lib.hid (N29.out.chg c86 (by omega))
    replace N51 := Lib.hid (N51.out.chg c86 (by omega))
    replace K0 := Lib.hid (K0.out.chg c86 (by omega))
    replace B := Lib.hid (c86.below B.out (by omega) (by have := B.out.size; omega))
    clear h85
    clear c86
    go_wp2_with fail
    refine (ceq_texts ((N51.out).tx) ((N29.out).tx) ).mono ?_
    rintro e W88 ⟨rfl, b89⟩
    have s90 : W81.heap.size ≤ W88.heap.size := b89.size
    replace M0 := Lib.hid (M0.out.up b89)
    replace N29 := Lib.hid (N29.out.up b89)
    replace N51 := Lib.hid (N51.out.up b89)
    replace K0 := Lib.hid (K0.out.up b89)
    replace B := Lib.hid (Up.tr B.out b89)
    clear b89
    go_wp2_with fail
    have cb94 := ctT_le (x := (varsC x0)) (by omega)
    refine (cmk_texts (N51.out) (k := 1) (by omega) (by omega)).mono ?_
    rintro e W91 ⟨rfl, h95, c96⟩
    have s93 : W88.heap.size ≤ W91.heap.size := c96.size
    have i97 : (0 : Int) ≤ ((1 + ctT ((varsC x0)) : Nat) : Int) := by omega
    replace M0 := Lib.hid (M0.out.chg c96 (by omega))
    replace N29 := Lib.hid (N29.out.chg c96 (by omega))
    replace K0 := Lib.hid (K0.out.chg c96 (by omega))
    replace B := Lib.hid (c96.below B.out (by omega) (by have := B.out.size; omega))
    replace N51 := Lib.hid h95
    clear h95
    clear c96
    go_wp2_with fail
    refine (chd_texts ((N51.out).tx) (by omega) (by have := ctT_le (x := (varsC x0)) (by omega); omega)).mono ?_
    rintro e W98 ⟨rfl, b99⟩
    have s100 : W91.heap.size ≤ W98.heap.size := b99.size
    have i101 : (0 : Int) ≤ ((1 + ctT ((varsC x0)) : Nat) : Int) := by omega
    replace M0 := Lib.hid (M0.out.up b99)
    replace N29 := Lib.hid (N29.out.up b99)
    replace N51 := Lib.hid (N51.out.up b99)
    replace K0 := Lib.hid (K0.out.up b99)
    replace B := Lib.hid (Up.tr B.out b99)
    clear b99
    have q102 : W98.cell? ⟨w.heap.size, 0, none⟩ = some (.int .i64 x0.kind) := (K0.out.cell 0).trans rfl
    have q103 : W98.cell? ⟨w.heap.size, 1, none⟩ = some (.string x0.pat.rel) := (K0.out.cell 1).trans rfl
    have q104 : W98.cell? ⟨w.heap.size, 2, none⟩ = some (.slice a0 x0.pat.args.length c0) := (K0.out.cell 2).trans rfl
    have q105 : W98.cell? ⟨w.heap.size, 3, none⟩ = some (.string x0.left) := (K0.out.cell 3).trans rfl
    have q106 : W98.cell? ⟨w.heap.size, 4, none⟩ = some (.string x0.right) := (K0.out.cell 4).trans rfl
    go_wp2_with fail
    clear q102 q103 q104 q105 q106
    refine (cto_cond ((M0.out)) hz0).mono ?_
    rintro e W107 ⟨u111, rfl, hN110, b108⟩
    have s109 : W98.heap.size ≤ W107.heap.size := b108.size
    obtain ⟨a112, c113, rfl⟩ := hN110.1.form
    have N110 := Lib.hid hN110
    clear hN110
    clear M0
    clear K0
    replace N29 := Lib.hid (N29.out.up b108)
    replace N51 := Lib.hid (N51.out.up b108)
    replace B := Lib.hid (Up.tr B.out b108)
    clear b108
    go_wp2_with fail
    refine (cCondVars ((N110.out).ac) hz0).mono ?_
    rintro e W114 ⟨u118, rfl, hN117, b115⟩
    have s116 : W107.heap.size ≤ W114.heap.size := b115.size
    have N117 := Lib.hid hN117
    clear hN117
    have z119 : tsz (varsC x0) ≤ 4194304 := zr_le (varsC_tsz x0) (by omega)
    clear N110
    replace N29 := Lib.hid (N29.out.up b115)
    replace N51 := Lib.hid (N51.out.up b115)
    replace B := Lib.hid (Up.tr B.out b115)
    clear b115
    go_wp2_with fail
    refine (ceq_texts ((N117.out).tx) ((N29.out).tx) ).mono ?_
    rintro e W120 ⟨rfl, b121⟩
    have s122 : W114.heap.size ≤ W120.heap.size := b121.size
    clear N29
    clear N117
    replace N51 := Lib.hid (N51.out.up b121)
    replace B := Lib.hid (Up.tr B.out b121)
    clear b121
    go_wp2_with fail
    refine (chd_texts ((N51.out).tx) (by omega) (by have := ctT_le (x := (varsC x0)) (by omega); omega)).mono ?_
    rintro e W123 ⟨rfl, b124⟩
    have s125 : W120.heap.size ≤ W123.heap.size := b124.size
    have i126 : (0 : Int) ≤ ((1 + ctT ((varsC x0)) : Nat) : Int) := by omega
    clear N51
    replace B := Lib.hid (Up.tr B.out b124)
    clear b124
    go_wp2_with fail
    go_ret
    exact ⟨rfl, B.out⟩
  · have hn : szv (1048576) (csz x0) < 0 := by rw [szv_neg (by omega)]; omega
    go_wp2_with fail
    go_ret
    exact ⟨rfl, B.out⟩
end Go.Proofs.Ytojgkodffmdnpaa
