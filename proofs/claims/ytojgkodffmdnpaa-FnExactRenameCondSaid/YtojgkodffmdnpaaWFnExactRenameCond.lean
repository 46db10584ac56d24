/- The walk of the law FnExactRenameCond: for every input the call returns true and nothing that was there has turned. -/
import Derived.Test.YtojgkodffmdnpaaMarkFs
import Derived.Test.YtojgkodffmdnpaaCond2
import Derived.Test.YtojgkodffmdnpaaRen2
import Derived.Test.YtojgkodffmdnpaaLawAtom
namespace Go.Proofs.Ytojgkodffmdnpaa
open Go.RowKit
attribute [local go_sem ↓] Go.wp_at_zero Go.wp_at_succ
set_option linter.unusedVariables false
set_option maxHeartbeats 2000000 in
set_option maxRecDepth 100000 in
theorem walk_FnExactRenameCond (w : World) (v0 : Value) (x0 : CondV) (m0 : AC w 0 w.heap.size v0 x0) (o0 : okC x0) (v1 : Value) (x1 : List (ByteArray × ByteArray)) (m1 : SP w 0 w.heap.size v1 x1) (o1 : okPs x1) :
    Calls Try.prog 3 #[v0, v1] w fun e w' => e = .returned (.bool true) ∧ Below w.heap.size w w' := by
  have M0 := Lib.hid (show Ob AC w 0 w.heap.size v0 x0 from ⟨m0, Nat.le_refl _⟩)
  have M1 := Lib.hid (show Ob SP w 0 w.heap.size v1 x1 from ⟨m1, Nat.le_refl _⟩)
  obtain ⟨a0, c0, rfl⟩ := AC.form m0
  clear m0
  clear m1
  have hb0 : Up w (w.alloc (.cells #[.int .i64 x0.kind, .string x0.pat.rel, .slice a0 x0.pat.args.length c0, .string x0.left, .string x0.right] 26)) := (Up.rf w).al _
  have hk0 : Blk (w.alloc (.cells #[.int .i64 x0.kind, .string x0.pat.rel, .slice a0 x0.pat.args.length c0, .string x0.left, .string x0.right] 26)) (w.heap.size) 26 #[.int .i64 x0.kind, .string x0.pat.rel, .slice a0 x0.pat.args.length c0, .string x0.left, .string x0.right] := by
    have := (Blk.new w 26 #[.int .i64 x0.kind, .string x0.pat.rel, .slice a0 x0.pat.args.length c0, .string x0.left, .string x0.right])
    simpa using this
  have K0 := Lib.hid hk0
  have hzW : w.heap.size + 1 ≤ (w.alloc (.cells #[.int .i64 x0.kind, .string x0.pat.rel, .slice a0 x0.pat.args.length c0, .string x0.left, .string x0.right] 26)).heap.size := by simp
  replace M0 := Lib.hid (M0.out.up hb0)
  replace M1 := Lib.hid (M1.out.up hb0)
  have B := Lib.hid hb0
  clear hb0 hk0
  go_enter Try.func3, Try.ntmps3
  go_wp2_with fail
  generalize (w.alloc (.cells #[.int .i64 x0.kind, .string x0.pat.rel, .slice a0 x0.pat.args.length c0, .string x0.left, .string x0.right] 26)) = W0 at *
  have q1 : W0.cell? ⟨w.heap.size, 0, none⟩ = some (.int .i64 x0.kind) := (K0.out.cell 0).trans rfl
  have q2 : W0.cell? ⟨w.heap.size, 1, none⟩ = some (.string x0.pat.rel) := (K0.out.cell 1).trans rfl
  have q3 : W0.cell? ⟨w.heap.size, 2, none⟩ = some (.slice a0 x0.pat.args.length c0) := (K0.out.cell 2).trans rfl
  have q4 : W0.cell? ⟨w.heap.size, 3, none⟩ = some (.string x0.left) := (K0.out.cell 3).trans rfl
  have q5 : W0.cell? ⟨w.heap.size, 4, none⟩ = some (.string x0.right) := (K0.out.cell 4).trans rfl
  go_wp2_with fail
  clear q1 q2 q3 q4 q5
  refine (csz_cond ((M0.out)) o0 (by omega) (by omega)).mono ?_
  rintro e W6 ⟨rfl, b7⟩
  have s8 : W0.heap.size ≤ W6.heap.size := b7.size
  replace M0 := Lib.hid (M0.out.up b7)
  replace M1 := Lib.hid (M1.out.up b7)
  replace K0 := Lib.hid (K0.out.up b7)
  replace B := Lib.hid (Up.tr B.out b7)
  clear b7
  by_cases hl0 : ((csz x0 : Nat) : Int) ≤ 1048576
  · skip
    rw [szv_pos hl0]
    have hz0 : csz x0 ≤ 1048576 := by omega
    go_wp2_with fail
    refine (csz_pairs ((M1.out)) o1 (by omega) (by omega)).mono ?_
    rintro e W9 ⟨rfl, b10⟩
    have s11 : W6.heap.size ≤ W9.heap.size := b10.size
    replace M0 := Lib.hid (M0.out.up b10)
    replace M1 := Lib.hid (M1.out.up b10)
    replace K0 := Lib.hid (K0.out.up b10)
    replace B := Lib.hid (Up.tr B.out b10)
    clear b10
    by_cases hl1 : ((psz x1 : Nat) : Int) ≤ 1048576 - (csz x0 : Nat)
    · skip
      rw [szv_pos hl1]
      have hz1 : psz x1 ≤ 1048576 := by omega
      have q12 : W9.cell? ⟨w.heap.size, 0, none⟩ = some (.int .i64 x0.kind) := (K0.out.cell 0).trans rfl
      have q13 : W9.cell? ⟨w.heap.size, 1, none⟩ = some (.string x0.pat.rel) := (K0.out.cell 1).trans rfl
      have q14 : W9.cell? ⟨w.heap.size, 2, none⟩ = some (.slice a0 x0.pat.args.length c0) := (K0.out.cell 2).trans rfl
      have q15 : W9.cell? ⟨w.heap.size, 3, none⟩ = some (.string x0.left) := (K0.out.cell 3).trans rfl
      have q16 : W9.cell? ⟨w.heap.size, 4, none⟩ = some (.string x0.right) := (K0.out.cell 4).trans rfl
      go_wp2_with fail
      clear q12 q13 q14 q15 q16
      refine (cto_cond ((M0.out)) hz0).mono ?_
      rintro e W17 ⟨u21, rfl, hN20, b18⟩
      have s19 : W9.heap.size ≤ W17.heap.size := b18.size
      obtain ⟨a22, c23, rfl⟩ := hN20.1.form
      have N20 := Lib.hid hN20
      clear hN20
      replace M0 := Lib.hid (M0.out.up b18)
      replace M1 := Lib.hid (M1.out.up b18)
      replace K0 := Lib.hid (K0.out.up b18)
      replace B := Lib.hid (Up.tr B.out b18)
      clear b18
      have q24 : W17.cell? ⟨w.heap.size, 0, none⟩ = some (.int .i64 x0.kind) := (K0.out.cell 0).trans rfl
      have q25 : W17.cell? ⟨w.heap.size, 1, none⟩ = some (.string x0.pat.rel) := (K0.out.cell 1).trans rfl
      have q26 : W17.cell? ⟨w.heap.size, 2, none⟩ = some (.slice a0 x0.pat.args.length c0) := (K0.out.cell 2).trans rfl
      have q27 : W17.cell? ⟨w.heap.size, 3, none⟩ = some (.string x0.left) := (K0.out.cell 3).trans rfl
      have q28 : W17.cell? ⟨w.heap.size, 4, none⟩ = some (.string x0.right) := (K0.out.cell 4).trans rfl
      go_wp2_with fail
      clear q24 q25 q26 q27 q28
      refine (cto_pairs ((M1.out)) hz1).mono ?_
      rintro e W29 ⟨u33, rfl, hN32, b30⟩
      have s31 : W17.heap.size ≤ W29.heap.size := b30.size
      have N32 := Lib.hid hN32
      clear hN32
      replace M0 := Lib.hid (M0.out.up b30)
      replace M1 := Lib.hid (M1.out.up b30)
      replace N20 := Lib.hid (N20.out.up b30)
      replace K0 := Lib.hid (K0.out.up b30)
      replace B := Lib.hid (Up.tr B.out b30)
      clear b30
      have q34 : W29.cell? ⟨w.heap.size, 0, none⟩ = some (.int .i64 x0.kind) := (K0.out.cell 0).trans rfl
      have q35 : W29.cell? ⟨w.heap.size, 1, none⟩ = some (.string x0.pat.rel) := (K0.out.cell 1).trans rfl
      have q36 : W29.cell? ⟨w.heap.size, 2, none⟩ = some (.slice a0 x0.pat.args.length c0) := (K0.out.cell 2).trans rfl
      have q37 : W29.cell? ⟨w.heap.size, 3, none⟩ = some (.string x0.left) := (K0.out.cell 3).trans rfl
      have q38 : W29.cell? ⟨w.heap.size, 4, none⟩ = some (.string x0.right) := (K0.out.cell 4).trans rfl
      go_wp2_with fail
      clear q34 q35 q36 q37 q38
      refine (cRenameS ((N20.out).ac) ((N32.out).sp) hz0).mono ?_
      rintro e W39 ⟨u43, rfl, hN42, b40⟩
      have s41 : W29.heap.size ≤ W39.heap.size := b40.size
      obtain ⟨a44, c45, rfl⟩ := hN42.1.form
      have N42 := Lib.hid hN42
      clear hN42
      have z46 : ctC (renC x0 x1) ≤ 4194304 := ctC_ren x0 x1 (by omega)
      clear N20
      clear N32
      replace M0 := Lib.hid (M0.out.up b40)
      replace M1 := Lib.hid (M1.out.up b40)
      replace K0 := Lib.hid (K0.out.up b40)
      replace B := Lib.hid (Up.tr B.out b40)
      clear b40
      have q48 : (W39.alloc (.cells #[.int .i64 (renC x0 x1).kind, .string (renC x0 x1).pat.rel, .slice a44 (renC x0 x1).pat.args.length c45, .string (renC x0 x1).left, .string (renC x0 x1).right] 32)).cell? ⟨w.heap.size, 0, none⟩ = some (.int .i64 x0.kind) := ((K0.out.up (Up.al1 _ _)).cell 0).trans rfl
      have q49 : (W39.alloc (.cells #[.int .i64 (renC x0 x1).kind, .string (renC x0 x1).pat.rel, .slice a44 (renC x0 x1).pat.args.length c45, .string (renC x0 x1).left, .string (renC x0 x1).right] 32)).cell? ⟨w.heap.size, 1, none⟩ = some (.string x0.pat.rel) := ((K0.out.up (Up.al1 _ _)).cell 1).trans rfl
      have q50 : (W39.alloc (.cells #[.int .i64 (renC x0 x1).kind, .string (renC x0 x1).pat.rel, .slice a44 (renC x0 x1).pat.args.length c45, .string (renC x0 x1).left, .string (renC x0 x1).right] 32)).cell? ⟨w.heap.size, 2, none⟩ = some (.slice a0 x0.pat.args.length c0) := ((K0.out.up (Up.al1 _ _)).cell 2).trans rfl
      have q51 : (W39.alloc (.cells #[.int .i64 (renC x0 x1).kind, .string (renC x0 x1).pat.rel, .slice a44 (renC x0 x1).pat.args.length c45, .string (renC x0 x1).left, .string (renC x0 x1).right] 32)).cell? ⟨w.heap.size, 3, none⟩ = some (.string x0.left) := ((K0.out.up (Up.al1 _ _)).cell 3).trans rfl
      have q52 : (W39.alloc (.cells #[.int .i64 (renC x0 x1).kind, .string (renC x0 x1).pat.rel, .slice a44 (renC x0 x1).pat.args.length c45, .string (renC x0 x1).left, .string (renC x0 x1).right] 32)).cell? ⟨w.heap.size, 4, none⟩ = some (.string x0.right) := ((K0.out.up (Up.al1 _ _)).cell 4).trans rfl
      go_wp2_with fail
      clear q48 q49 q50 q51 q52
      have b54 : Up W39 (W39.alloc (.cells #[.int .i64 (renC x0 x1).kind, .string (renC x0 x1).pat.rel, .slice a44 (renC x0 x1).pat.args.length c45, .string (renC x0 x1).left, .string (renC x0 x1).right] 32)) := Up.al1 _ _
      have hK47 : Blk (W39.alloc (.cells #[.int .i64 (renC x0 x1).kind, .string (renC x0 x1).pat.rel, .slice a44 (renC x0 x1).pat.args.length c45, .string (renC x0 x1).left, .string (renC x0 x1).right] 32)) W39.heap.size 32 #[.int .i64 (renC x0 x1).kind, .string (renC x0 x1).pat.rel, .slice a44 (renC x0 x1).pat.args.length c45, .string (renC x0 x1).left, .string (renC x0 x1).right] := Blk.new _ _ _
      have s55 : W39.heap.size + 1 ≤ (W39.alloc (.cells #[.int .i64 (renC x0 x1).kind, .string (renC x0 x1).pat.rel, .slice a44 (renC x0 x1).pat.args.length c45, .string (renC x0 x1).left, .string (renC x0 x1).right] 32)).heap.size := by simp
      have K47 := Lib.hid hK47
      clear hK47
      generalize (W39.alloc (.cells #[.int .i64 (renC x0 x1).kind, .string (renC x0 x1).pat.rel, .slice a44 (renC x0 x1).pat.args.length c45, .string (renC x0 x1).left, .string (renC x0 x1).right] 32)) = W53 at *
      replace M0 := Lib.hid (M0.out.up b54)
      replace M1 := Lib.hid (M1.out.up b54)
      replace N42 := Lib.hid (N42.out.up b54)
      replace K0 := Lib.hid (K0.out.up b54)
      replace B := Lib.hid (Up.tr B.out b54)
      clear b54
      refine (cto_cond ((M0.out)) hz0).mono ?_
      rintro e W56 ⟨u60, rfl, hN59, b57⟩
      have s58 : W53.heap.size ≤ W56.heap.size := b57.size
      obtain ⟨a61, c62, rfl⟩ := hN59.1.form
      have N59 := Lib.hid hN59
      clear hN59
      replace M0 := Lib.hid (M0.out.up b57)
      replace M1 := Lib.hid (M1.out.up b57)
      replace N42 := Lib.hid (N42.out.up b57)
      replace K0 := Lib.hid (K0.out.up b57)
      replace K47 := Lib.hid (K47.out.up b57)
      replace B := Lib.hid (Up.tr B.out b57)
      clear b57
      go_wp2_with fail
      have b65 : Up W56 (W56.alloc (.cells #[.int .i64 x0.kind, .string x0.pat.rel, .slice a61 x0.pat.args.length c62, .string x0.left, .string x0.right] 32)) := Up.al1 _ _
      have hK63 : Blk (W56.alloc (.cells #[.int .i64 x0.kind, .string x0.pat.rel, .slice a61 x0.pat.args.length c62, .string x0.left, .string x0.right] 32)) W56.heap.size 32 #[.int .i64 x0.kind, .string x0.pat.rel, .slice a61 x0.pat.args.length c62, .string x0.left, .string x0.right] := Blk.new _ _ _
      have s66 : W56.heap.size + 1 ≤ (W56.alloc (.cells #[.int .i64 x0.kind, .string x0.pat.rel, .slice a61 x0.pat.args.length c62, .string x0.left, .string x0.right] 32)).heap.size := by simp
      have K63 := Lib.hid hK63
      clear hK63
      generalize (W56.alloc (.cells #[.int .i64 x0.kind, .string x0.pat.rel, .slice a61 x0.pat.args.length c62, .string x0.left, .string x0.right] 32)) = W64 at *
      replace M0 := Lib.hid (M0.out.up b65)
      replace M1 := Lib.hid (M1.out.up b65)
      replace N42 := Lib.hid (N42.out.up b65)
      replace N59 := Lib.hid (N59.out.up b65)
      replace K0 := Lib.hid (K0.out.up b65)
      replace K47 := Lib.hid (K47.out.up b65)
      replace B := Lib.hid (Up.tr B.out b65)
      clear b65
      refine (cto_pairs ((M1.out)) hz1).mono ?_
      rintro e W67 ⟨u71, rfl, hN70, b68⟩
      have s69 : W64.heap.size ≤ W67.heap.size := b68.size
      have N70 := Lib.hid hN70
      clear hN70
      replace M0 := Lib.hid (M0.out.up b68)
      replace M1 := Lib.hid (M1.out.up b68)
      replace N42 := Lib.hid (N42.out.up b68)
      replace N59 := Lib.hid (N59.out.up b68)
      replace K0 := Lib.hid (K0.out.up b68)
      replace K47 := Lib.hid (K47.out.up b68)
      replace K63 := Lib.hid (K63.out.up b68)
      replace B := Lib.hid (Up.tr B.out b68)
      clear b68
      have q72 : W67.cell? ⟨W56.heap.size, 0, none⟩ = some (.int .i64 x0.kind) := (K63.out.cell 0).trans rfl
      have q73 : W67.cell? ⟨W56.heap.size, 1, none⟩ = some (.string x0.pat.rel) := (K63.out.cell 1).trans rfl
      have q74 : W67.cell? ⟨W56.heap.size, 2, none⟩ = some (.slice a61 x0.pat.args.length c62) := (K63.out.cell 2).trans rfl
      have q75 : W67.cell? ⟨W56.heap.size, 3, none⟩ = some (.string x0.left) := (K63.out.cell 3).trans rfl
      have q76 : W67.cell? ⟨W56.heap.size, 4, none⟩ = some (.string x0.right) := (K63.out.cell 4).trans rfl
      go_wp2_with fail
      clear q72 q73 q74 q75 q76
      refine (cRename ((N59.out).ac) ((N70.out).sp) hz0).mono ?_
      rintro e W77 ⟨u81, rfl, hN80, b78⟩
      have s79 : W67.heap.size ≤ W77.heap.size := b78.size
      obtain ⟨a82, c83, rfl⟩ := hN80.1.form
      have N80 := Lib.hid hN80
      clear hN80
      have z84 : ctC (renC x0 x1) ≤ 4194304 := ctC_ren x0 x1 (by omega)
      replace M0 := Lib.hid (M0.out.up b78)
      replace M1 := Lib.hid (M1.out.up b78)
      replace N42 := Lib.hid (N42.out.up b78)
      replace N59 := Lib.hid (N59.out.up b78)
      replace N70 := Lib.hid (N70.out.up b78)
      replace K0 := Lib.hid (K0.out.up b78)
      replace K47 := Lib.hid (K47.out.up b78)
      replace K63 := Lib.hid (K63.out.up b78)
      replace B := Lib.hid (Up.tr B.out b78)
      clear b78
      have q86 : (W77.alloc (.cells #[.int .i64 (renC x0 x1).kind, .string (renC x0 x1).pat.rel, .slice a82 (renC x0 x1).pat.args.length c83, .string (renC x0 x1).left, .string (renC x0 x1).right] 32)).cell? ⟨W39.heap.size, 0, none⟩ = some (.int .i64 (renC x0 x1).kind) := ((K47.out.up (Up.al1 _ _)).cell 0).trans rfl
      have q87 : (W77.alloc (.cells #[.int .i64 (renC x0 x1).kind, .string (renC x0 x1).pat.rel, .slice a82 (renC x0 x1).pat.args.length c83, .string (renC x0 x1).left, .string (renC x0 x1).right] 32)).cell? ⟨W39.heap.size, 1, none⟩ = some (.string (renC x0 x1).pat.rel) := ((K47.out.up (Up.al1 _ _)).cell 1).trans rfl
      have q88 : (W77.alloc (.cells #[.int .i64 (renC x0 x1).kind, .string (renC x0 x1).pat.rel, .slice a82 (renC x0 x1).pat.args.length c83, .string (renC x0 x1).left, .string (renC x0 x1).right] 32)).cell? ⟨W39.heap.size, 2, none⟩ = some (.slice a44 (renC x0 x1).pat.args.length c45) := ((K47.out.up (Up.al1 _ _)).cell 2).trans rfl
      have q89 : (W77.alloc (.cells #[.int .i64 (renC x0 x1).kind, .string (renC x0 x1).pat.rel, .slice a82 (renC x0 x1).pat.args.length c83, .string (renC x0 x1).left, .string (renC x0 x1).right] 32)).cell? ⟨W39.heap.size, 3, none⟩ = some (.string (renC x0 x1).left) := ((K47.out.up (Up.al1 _ _)).cell 3).trans rfl
      have q90 : (W77.alloc (.cells #[.int .i64 (renC x0 x1).kind, .string (renC x0 x1).pat.rel, .slice a82 (renC x0 x1).pat.args.length c83, .string (renC x0 x1).left, .string (renC x0 x1).right] 32)).cell? ⟨W39.heap.size, 4, none⟩ = some (.string (renC x0 x1).right) := ((K47.out.up (Up.al1 _ _)).cell 4).trans rfl
      go_wp2_with fail
      clear q86 q87 q88 q89 q90
      have b92 : Up W77 (W77.alloc (.cells #[.int .i64 (renC x0 x1).kind, .string (renC x0 x1).pat.rel, .slice a82 (renC x0 x1).pat.args.length c83, .string (renC x0 x1).left, .string (renC x0 x1).right] 32)) := Up.al1 _ _
      have hK85 : Blk (W77.alloc (.cells #[.int .i64 (renC x0 x1).kind, .string (renC x0 x1).pat.rel, .slice a82 (renC x0 x1).pat.args.length c83, .string (renC x0 x1).left, .string (renC x0 x1).right] 32)) W77.heap.size 32 #[.int .i64 (renC x0 x1).kind, .string (renC x0 x1).pat.rel, .slice a82 (renC x0 x1).pat.args.length c83, .string (renC x0 x1).left, .string (renC x0 x1).right] := Blk.new _ _ _
      have s93 : W77.heap.size + 1 ≤ (W77.alloc (.cells #[.int .i64 (renC x0 x1).kind, .string (renC x0 x1).pat.rel, .slice a82 (renC x0 x1).pat.args.length c83, .string (renC x0 x1).left, .string (renC x0 x1).right] 32)).heap.size := by simp
      have K85 := Lib.hid hK85
      clear hK85
      generalize (W77.alloc (.cells #[.int .i64 (renC x0 x1).kind, .string (renC x0 x1).pat.rel, .slice a82 (renC x0 x1).pat.args.length c83, .string (renC x0 x1).left, .string (renC x0 x1).right] 32)) = W91 at *
      replace M0 := Lib.hid (M0.out.up b92)
      replace M1 := Lib.hid (M1.out.up b92)
      replace N42 := Lib.hid (N42.out.up b92)
      replace N59 := Lib.hid (N59.out.up b92)
      replace N70 := Lib.hid (N70.out.up b92)
      replace N80 := Lib.hid (N80.out.up b92)
      replace K0 := Lib.hid (K0.out.up b92)
      replace K47 := Lib.hid (K47.out.up b92)
      replace K63 := Lib.hid (K63.out.up b92)
      replace B := Lib.hid (Up.tr B.out b92)
      clear b92
      refine (ceq_cond ((N80.out).ac) ((N42.out).ac) ).mono ?_
      rintro e W94 ⟨rfl, b95⟩
      have s96 : W91.heap.size ≤ W94.heap.size := b95.size
      replace M0 := Lib.hid (M0.out.up b95)
      replace M1 := Lib.hid (M1.out.up b95)
      replace N42 := Lib.hid (N42.out.up b95)
      replace N59 := Lib.hid (N59.out.up b95)
      replace N70 := Lib.hid (N70.out.up b95)
      replace N80 := Lib.hid (N80.out.up b95)
      replace K0 := Lib.hid (K0.out.up b95)
      replace K47 := Lib.hid (K47.out.up b95)
      replace K63 := Lib.hid (K63.out.up b95)
      replace K85 := Lib.hid (K85.out.up b95)
      replace B := Lib.hid (Up.tr B.out b95)
      clear b95
      go_wp2_with fail
      have q97 : W94.cell? ⟨W56.heap.size, 0, none⟩ = some (.int .i64 x0.kind) := (K63.out.cell 0).trans rfl
      have q98 : W94.cell? ⟨W56.heap.size, 1, none⟩ = some (.string x0.pat.rel) := (K63.out.cell 1).trans rfl
      have q99 : W94.cell? ⟨W56.heap.size, 2, none⟩ = some (.slice a61 x0.pat.args.length c62) := (K63.out.cell 2).trans rfl
      have q100 : W94.cell? ⟨W56.heap.size, 3, none⟩ = some (.string x0.left) := (K63.out.cell 3).trans rfl
      have q101 : W94.cell? ⟨W56.heap.size, 4, none⟩ = some (.string x0.right) := (K63.out.cell 4).trans rfl
      have q102 : W94.cell? ⟨w.heap.size, 0, none⟩ = some (.int .i64 x0.kind) := (K0.out.cell 0).trans rfl
      have q103 : W94.cell? ⟨w.heap.size, 1, none⟩ = some (.string x0.pat.rel) := (K0.out.cell 1).trans rfl
      have q104 : W94.cell? ⟨w.heap.size, 2, none⟩ = some (.slice a0 x0.pat.args.length c0) := (K0.out.cell 2).trans rfl
      have q105 : W94.cell? ⟨w.heap.size, 3, none⟩ = some (.string x0.left) := (K0.out.cell 3).trans rfl
      have q106 : W94.cell? ⟨w.heap.size, 4, none⟩ = some (.string x0.right) := (K0.out.cell 4).trans rfl
      go_region_held3 (fun w' => w'.cell? ⟨W56.heap.size, 0, none⟩ = some (.int .i64 x0.kind) ∧ w'.cell? ⟨W56.heap.size, 1, none⟩ = some (.string x0.pat.rel) ∧ w'.cell? ⟨W56.heap.size, 2, none⟩ = some (.slice a61 x0.pat.args.length c62) ∧ w'.cell? ⟨W56.heap.size, 3, none⟩ = some (.string x0.left) ∧ w'.cell? ⟨W56.heap.size, 4, none⟩ = some (.string x0.right) ∧ w'.cell? ⟨w.heap.size, 0, none⟩ = some (.int .i64 x0.kind) ∧ w'.cell? ⟨w.heap.size, 1, none⟩ = some (.string x0.pat.rel) ∧ w'.cell? ⟨w.heap.size, 2, none⟩ = some (.slice a0 x0.pat.args.length c0) ∧ w'.cell? ⟨w.heap.size, 3, none⟩ = some (.string x0.left) ∧ w'.cell? ⟨w.heap.size, 4, none⟩ = some (.string x0.right) ∧ Up W94 w')
        (first | exact ⟨q97, q98, q99, q100, q101, q102, q103, q104, q105, q106, Up.dr (Up.rf _)⟩ | (have hh := ‹_ ∧ _ ∧ _ ∧ _ ∧ _ ∧ _ ∧ _ ∧ _ ∧ _ ∧ _ ∧ Up W94 _›; have hb := ‹Up _ _›; exact ⟨keepCell hb hh.1, keepCell hb hh.2.1, keepCell hb hh.2.2.1, keepCell hb hh.2.2.2.1, keepCell hb hh.2.2.2.2.1, keepCell hb hh.2.2.2.2.2.1, keepCell hb hh.2.2.2.2.2.2.1, keepCell hb hh.2.2.2.2.2.2.2.1, keepCell hb hh.2.2.2.2.2.2.2.2.1, keepCell hb hh.2.2.2.2.2.2.2.2.2.1, Up.tr hh.2.2.2.2.2.2.2.2.2.2 hb⟩))
        (first
          | (go_at_call 18; (with_reducible refine (cto_cond ((M0.out.up (‹_ ∧ _ ∧ _ ∧ _ ∧ _ ∧ _ ∧ _ ∧ _ ∧ _ ∧ _ ∧ Up W94 _›).2.2.2.2.2.2.2.2.2.2)) hz0).mono ?_); rintro e W107 ⟨u110, rfl, hN109, b108⟩)
          | (go_at_call 21; (with_reducible refine (ceq_cond ((N59.out.up (‹_ ∧ _ ∧ _ ∧ _ ∧ _ ∧ _ ∧ _ ∧ _ ∧ _ ∧ _ ∧ Up W94 _›).2.2.2.2.2.2.2.2.2.2).ac) ((hN109).ac) ).mono ?_); rintro e W111 ⟨rfl, b112⟩))
      have b113 := (‹_ ∧ _ ∧ _ ∧ _ ∧ _ ∧ _ ∧ _ ∧ _ ∧ _ ∧ _ ∧ Up W94 _›).2.2.2.2.2.2.2.2.2.2
      have s114 : W94.heap.size ≤ W107.heap.size := b108.size
      have s115 : W107.heap.size ≤ W111.heap.size := b112.size
      replace M0 := Lib.hid (M0.out.up b113)
      replace M1 := Lib.hid (M1.out.up b113)
      replace N42 := Lib.hid (N42.out.up b113)
      replace N59 := Lib.hid (N59.out.up b113)
      replace N70 := Lib.hid (N70.out.up b113)
      replace N80 := Lib.hid (N80.out.up b113)
      replace K0 := Lib.hid (K0.out.up b113)
      replace K47 := Lib.hid (K47.out.up b113)
      replace K63 := Lib.hid (K63.out.up b113)
      replace K85 := Lib.hid (K85.out.up b113)
      replace B := Lib.hid (Up.tr B.out b113)
      clear q97 q98 q99 q100 q101 q102 q103 q104 q105 q106 b113
      clear hN109
      clear b112 b108
      go_wp2_with fail
      refine (cto_pairs ((M1.out)) hz1).mono ?_
      rintro e W116 ⟨u120, rfl, hN119, b117⟩
      have s118 : W111.heap.size ≤ W116.heap.size := b117.size
      have N119 := Lib.hid hN119
      clear hN119
      replace M0 := Lib.hid (M0.out.up b117)
      replace M1 := Lib.hid (M1.out.up b117)
      replace N42 := Lib.hid (N42.out.up b117)
      replace N59 := Lib.hid (N59.out.up b117)
      replace N70 := Lib.hid (N70.out.up b117)
      replace N80 := Lib.hid (N80.out.up b117)
      replace K0 := Lib.hid (K0.out.up b117)
      replace K47 := Lib.hid (K47.out.up b117)
      replace K63 := Lib.hid (K63.out.up b117)
      replace K85 := Lib.hid (K85.out.up b117)
      replace B := Lib.hid (Up.tr B.out b117)
      clear b117
      go_wp2_with fail
      refine (ceq_pairs ((N70.out).sp) ((N119.out).sp) ).mono ?_
      rintro e W121 ⟨rfl, b122⟩
      have s123 : W116.heap.size ≤ W121.heap.size := b122.size
      clear N119
      replace M0 := Lib.hid (M0.out.up b122)
      replace M1 := Lib.hid (M1.out.up b122)
      replace N42 := Lib.hid (N42.out.up b122)
      replace N59 := Lib.hid (N59.out.up b122)
      replace N70 := Lib.hid (N70.out.up b122)
      replace N80 := Lib.hid (N80.out.up b122)
      replace K0 := Lib.hid (K0.out.up b122)
      replace K47 := Lib.hid (K47.out.up b122)
      replace K63 := Lib.hid (K63.out.up b122)
      replace K85 := Lib.hid (K85.out.up b122)
      replace B := Lib.hid (Up.tr B.out b122)
      clear b122
      have q124 : W121.cell? ⟨W56.heap.size, 0, none⟩ = some (.int .i64 x0.kind) := (K63.out.cell 0).trans rfl
      have q125 : W121.cell? ⟨W56.heap.size, 1, none⟩ = some (.string x0.pat.rel) := (K63.out.cell 1).trans rfl
      have q126 : W121.cell? ⟨W56.heap.size, 2, none⟩ = some (.slice a61 x0.pat.args.length c62) := (K63.out.cell 2).trans rfl
      have q127 : W121.cell? ⟨W56.heap.size, 3, none⟩ = some (.string x0.left) := (K63.out.cell 3).trans rfl
      have q128 : W121.cell? ⟨W56.heap.size, 4, none⟩ = some (.string x0.right) := (K63.out.cell 4).trans rfl
      go_wp2_with fail
      clear q124 q125 q126 q127 q128
      have cb132 := (show ctC x0 ≤ 8388608 by first | omega | exact Nat.le_trans (ctC_le (by omega)) (by omega))
      refine (cmk_cond (N59.out) (k := 1) (by omega) (by omega)).mono ?_
      rintro e W129 ⟨rfl, h133, c134⟩
      have s131 : W121.heap.size ≤ W129.heap.size := c134.size
      have i135 : (0 : Int) ≤ ((1 + ctC (x0) : Nat) : Int) := by omega
      clear N59
      clear K63
      replace M0 := Lib.hid (M0.out.chg c134 (by omega))
      replace M1 := Lib.hid (M1.out.chg c134 (by omega))
      replace N42 := Lib.hid (N42.out.chg c134 (by omega))
      replace N70 := Lib.hid (N70.out.chg c134 (by omega))
      replace N80 := Lib.hid (N80.out.chg c134 (by omega))
      replace K0 := Lib.hid (K0.out.chg c134 (by omega))
      replace K47 := Lib.hid (K47.out.chg c134 (by omega))
      replace K85 := Lib.hid (K85.out.chg c134 (by omega))
      replace B := Lib.hid (c134.below B.out (by omega) (by have := B.out.size; omega))
      clear h133
      clear c134
      go_wp2_with fail
      have cb139 := (show ctP x1 ≤ 8388608 by first | omega | exact Nat.le_trans (ctP_le (by omega)) (by omega))
      refine (cmk_pairs (N70.out) (k0 := (1 + ctC (x0))) (by omega) (by omega)).mono ?_
      rintro e W136 ⟨rfl, h140, c141⟩
      have s138 : W129.heap.size ≤ W136.heap.size := c141.size
      have i142 : (0 : Int) ≤ (((1 + ctC (x0)) + ctP (x1) : Nat) : Int) := by omega
      clear N70
      replace M0 := Lib.hid (M0.out.chg c141 (by omega))
      replace M1 := Lib.hid (M1.out.chg c141 (by omega))
      replace N42 := Lib.hid (N42.out.chg c141 (by omega))
      replace N80 := Lib.hid (N80.out.chg c141 (by omega))
      replace K0 := Lib.hid (K0.out.chg c141 (by omega))
      replace K47 := Lib.hid (K47.out.chg c141 (by omega))
      replace K85 := Lib.hid (K85.out.chg c141 (by omega))
      replace B := Lib.hid (c141.below B.out (by omega) (by have := B.out.size; omega))
      clear h140
      clear c141
      have q143 : W136.cell? ⟨W77.heap.size, 0, none⟩ = some (.int .i64 (renC x0 x1).kind) := (K85.out.cell 0).trans rfl
      have q144 : W136.cell? ⟨W77.heap.size, 1, none⟩ = some (.string (renC x0 x1).pat.rel) := (K85.out.cell 1).trans rfl
      have q145 : W136.cell? ⟨W77.heap.size, 2, none⟩ = some (.slice a82 (renC x0 x1).pat.args.length c83) := (K85.out.cell 2).trans rfl
      have q146 : W136.cell? ⟨W77.heap.size, 3, none⟩ = some (.string (renC x0 x1).left) := (K85.out.cell 3).trans rfl
      have q147 : W136.cell? ⟨W77.heap.size, 4, none⟩ = some (.string (renC x0 x1).right) := (K85.out.cell 4).trans rfl
      have q148 : W136.cell? ⟨W39.heap.size, 0, none⟩ = some (.int .i64 (renC x0 x1).kind) := (K47.out.cell 0).trans rfl
      have q149 : W136.cell? ⟨W39.heap.size, 1, none⟩ = some (.string (renC x0 x1).pat.rel) := (K47.out.cell 1).trans rfl
      have q150 : W136.cell? ⟨W39.heap.size, 2, none⟩ = some (.slice a44 (renC x0 x1).pat.args.length c45) := (K47.out.cell 2).trans rfl
      have q151 : W136.cell? ⟨W39.heap.size, 3, none⟩ = some (.string (renC x0 x1).left) := (K47.out.cell 3).trans rfl
      have q152 : W136.cell? ⟨W39.heap.size, 4, none⟩ = some (.string (renC x0 x1).right) := (K47.out.cell 4).trans rfl
      go_wp2_with fail
      clear q143 q144 q145 q146 q147 q148 q149 q150 q151 q152
      refine (ceq_cond ((N80.out).ac) ((N42.out).ac) ).mono ?_
      rintro e W153 ⟨rfl, b154⟩
      have s155 : W136.heap.size ≤ W153.heap.size := b154.size
      replace M0 := Lib.hid (M0.out.up b154)
      replace M1 := Lib.hid (M1.out.up b154)
      replace N42 := Lib.hid (N42.out.up b154)
      replace N80 := Lib.hid (N80.out.up b154)
      replace K0 := Lib.hid (K0.out.up b154)
      replace K47 := Lib.hid (K47.out.up b154)
      replace K85 := Lib.hid (K85.out.up b154)
      replace B := Lib.hid (Up.tr B.out b154)
      clear b154
      have q156 : W153.cell? ⟨W77.heap.size, 0, none⟩ = some (.int .i64 (renC x0 x1).kind) := (K85.out.cell 0).trans rfl
      have q157 : W153.cell? ⟨W77.heap.size, 1, none⟩ = some (.string (renC x0 x1).pat.rel) := (K85.out.cell 1).trans rfl
      have q158 : W153.cell? ⟨W77.heap.size, 2, none⟩ = some (.slice a82 (renC x0 x1).pat.args.length c83) := (K85.out.cell 2).trans rfl
      have q159 : W153.cell? ⟨W77.heap.size, 3, none⟩ = some (.string (renC x0 x1).left) := (K85.out.cell 3).trans rfl
      have q160 : W153.cell? ⟨W77.heap.size, 4, none⟩ = some (.string (renC x0 x1).right) := (K85.out.cell 4).trans rfl
      go_wp2_with fail
      clear q156 q157 q158 q159 q160
      have cb164 := (show ctC (renC x0 x1) ≤ 8388608 by first | omega | exact Nat.le_trans (ctC_le (by omega)) (by omega))
      refine (cmk_cond (N80.out) (k := 1) (by omega) (by omega)).mono ?_
      rintro e W161 ⟨rfl, h165, c166⟩
      have s163 : W153.heap.size ≤ W161.heap.size := c166.size
      have i167 : (0 : Int) ≤ ((1 + ctC ((renC x0 x1)) : Nat) : Int) := by omega
      replace M0 := Lib.hid (M0.out.chg c166 (by omega))
      replace M1 := Lib.hid (M1.out.chg c166 (by omega))
      replace N42 := Lib.hid (N42.out.chg c166 (by omega))
      replace K0 := Lib.hid (K0.out.chg c166 (by omega))
      replace K47 := Lib.hid (K47.out.chg c166 (by omega))
      replace K85 := Lib.hid (K85.out.chg c166 (by omega))
      replace B := Lib.hid (c166.below B.out (by omega) (by have := B.out.size; omega))
      replace N80 := Lib.hid h165
      clear h165
      clear c166
      have q168 : W161.cell? ⟨W77.heap.size, 0, none⟩ = some (.int .i64 (renC x0 x1).kind) := (K85.out.cell 0).trans rfl
      have q169 : W161.cell? ⟨W77.heap.size, 1, none⟩ = some (.string (renC x0 x1).pat.rel) := (K85.out.cell 1).trans rfl
      have q170 : W161.cell? ⟨W77.heap.size, 2, none⟩ = some (.slice a82 (renC x0 x1).pat.args.length c83) := (K85.out.cell 2).trans rfl
      have q171 : W161.cell? ⟨W77.heap.size, 3, none⟩ = some (.string (renC x0 x1).left) := (K85.out.cell 3).trans rfl
      have q172 : W161.cell? ⟨W77.heap.size, 4, none⟩ = some (.string (renC x0 x1).right) := (K85.out.cell 4).trans rfl
      go_wp2_with fail
      clear q168 q169 q170 q171 q172
      refine (chd_cond ((N80.out).ac) (by omega) (by have := (show ctC (renC x0 x1) ≤ 8388608 by first | omega | exact Nat.le_trans (ctC_le (by omega)) (by omega)); omega)).mono ?_
      rintro e W173 ⟨rfl, b174⟩
      have s175 : W161.heap.size ≤ W173.heap.size := b174.size
      have i176 : (0 : Int) ≤ ((1 + ctC ((renC x0 x1)) : Nat) : Int) := by omega
      replace M0 := Lib.hid (M0.out.up b174)
      replace M1 := Lib.hid (M1.out.up b174)
      replace N42 := Lib.hid (N42.out.up b174)
      replace N80 := Lib.hid (N80.out.up b174)
      replace K0 := Lib.hid (K0.out.up b174)
      replace K47 := Lib.hid (K47.out.up b174)
      replace K85 := Lib.hid (K85.out.up b174)
      replace B := Lib.hid (Up.tr B.out b174)
      clear b174
      have q177 : W173.cell? ⟨w.heap.size, 0, none⟩ = some (.int .i64 x0.kind) := (K0.out.cell 0).trans rfl
      have q178 : W173.cell? ⟨w.heap.size, 1, none⟩ = some (.string x0.pat.rel) := (K0.out.cell 1).trans rfl
      have q179 : W173.cell? ⟨w.heap.size, 2, none⟩ = some (.slice a0 x0.pat.args.length c0) := (K0.out.cell 2).trans rfl
      have q180 : W173.cell? ⟨w.heap.size, 3, none⟩ = some (.string x0.left) := (K0.out.cell 3).trans rfl
      have q181 : W173.cell? ⟨w.heap.size, 4, none⟩ = some (.string x0.right) := (K0.out.cell 4).trans rfl
      go_wp2_with fail
      clear q177 q178 q179 q180 q181
      refine (cto_cond ((M0.out)) hz0).mono ?_
      rintro e W182 ⟨u186, rfl, hN185, b183⟩
      have s184 : W173.heap.size ≤ W182.heap.size := b183.size
      obtain ⟨a187, c188, rfl⟩ := hN185.1.form
      have N185 := Lib.hid hN185
      clear hN185
      clear M0
      clear K0
      replace M1 := Lib.hid (M1.out.up b183)
      replace N42 := Lib.hid (N42.out.up b183)
      replace N80 := Lib.hid (N80.out.up b183)
      replace K47 := Lib.hid (K47.out.up b183)
      replace K85 := Lib.hid (K85.out.up b183)
      replace B := Lib.hid (Up.tr B.out b183)
      clear b183
      go_wp2_with fail
      refine (cto_pairs ((M1.out)) hz1).mono ?_
      rintro e W189 ⟨u193, rfl, hN192, b190⟩
      have s191 : W182.heap.size ≤ W189.heap.size := b190.size
      have N192 := Lib.hid hN192
      clear hN192
      clear M1
      replace N42 := Lib.hid (N42.out.up b190)
      replace N80 := Lib.hid (N80.out.up b190)
      replace N185 := Lib.hid (N185.out.up b190)
      replace K47 := Lib.hid (K47.out.up b190)
      replace K85 := Lib.hid (K85.out.up b190)
      replace B := Lib.hid (Up.tr B.out b190)
      clear b190
      go_wp2_with fail
      refine (cRename ((N185.out).ac) ((N192.out).sp) hz0).mono ?_
      rintro e W194 ⟨u198, rfl, hN197, b195⟩
      have s196 : W189.heap.size ≤ W194.heap.size := b195.size
      obtain ⟨a199, c200, rfl⟩ := hN197.1.form
      have N197 := Lib.hid hN197
      clear hN197
      have z201 : ctC (renC x0 x1) ≤ 4194304 := ctC_ren x0 x1 (by omega)
      clear N185
      clear N192
      replace N42 := Lib.hid (N42.out.up b195)
      replace N80 := Lib.hid (N80.out.up b195)
      replace K47 := Lib.hid (K47.out.up b195)
      replace K85 := Lib.hid (K85.out.up b195)
      replace B := Lib.hid (Up.tr B.out b195)
      clear b195
      have q203 : (W194.alloc (.cells #[.int .i64 (renC x0 x1).kind, .string (renC x0 x1).pat.rel, .slice a199 (renC x0 x1).pat.args.length c200, .string (renC x0 x1).left, .string (renC x0 x1).right] 32)).cell? ⟨W39.heap.size, 0, none⟩ = some (.int .i64 (renC x0 x1).kind) := ((K47.out.up (Up.al1 _ _)).cell 0).trans rfl
      have q204 : (W194.alloc (.cells #[.int .i64 (renC x0 x1).kind, .string (renC x0 x1).pat.rel, .slice a199 (renC x0 x1).pat.args.length c200, .string (renC x0 x1).left, .string (renC x0 x1).right] 32)).cell? ⟨W39.heap.size, 1, none⟩ = some (.string (renC x0 x1).pat.rel) := ((K47.out.up (Up.al1 _ _)).cell 1).trans rfl
      have q205 : (W194.alloc (.cells #[.int .i64 (renC x0 x1).kind, .string (renC x0 x1).pat.rel, .slice a199 (renC x0 x1).pat.args.length c200, .string (renC x0 x1).left, .string (renC x0 x1).right] 32)).cell? ⟨W39.heap.size, 2, none⟩ = some (.slice a44 (renC x0 x1).pat.args.length c45) := ((K47.out.up (Up.al1 _ _)).cell 2).trans rfl
      have q206 : (W194.alloc (.cells #[.int .i64 (renC x0 x1).kind, .string (renC x0 x1).pat.rel, .slice a199 (renC x0 x1).pat.args.length c200, .string (renC x0 x1).left, .string (renC x0 x1).right] 32)).cell? ⟨W39.heap.size, 3, none⟩ = some (.string (renC x0 x1).left) := ((K47.out.up (Up.al1 _ _)).cell 3).trans rfl
      have q207 : (W194.alloc (.cells #[.int .i64 (renC x0 x1).kind, .string (renC x0 x1).pat.rel, .slice a199 (renC x0 x1).pat.args.length c200, .string (renC x0 x1).left, .string (renC x0 x1).right] 32)).cell? ⟨W39.heap.size, 4, none⟩ = some (.string (renC x0 x1).right) := ((K47.out.up (Up.al1 _ _)).cell 4).trans rfl
      go_wp2_with fail
      clear q203 q204 q205 q206 q207
      have b209 : Up W194 (W194.alloc (.cells #[.int .i64 (renC x0 x1).kind, .string (renC x0 x1).pat.rel, .slice a199 (renC x0 x1).pat.args.length c200, .string (renC x0 x1).left, .string (renC x0 x1).right] 32)) := Up.al1 _ _
      have hK202 : Blk (W194.alloc (.cells #[.int .i64 (renC x0 x1).kind, .string (renC x0 x1).pat.rel, .slice a199 (renC x0 x1).pat.args.length c200, .string (renC x0 x1).left, .string (renC x0 x1).right] 32)) W194.heap.size 32 #[.int .i64 (renC x0 x1).kind, .string (renC x0 x1).pat.rel, .slice a199 (renC x0 x1).pat.args.length c200, .string (renC x0 x1).left, .string (renC x0 x1).right] := Blk.new _ _ _
      have s210 : W194.heap.size + 1 ≤ (W194.alloc (.cells #[.int .i64 (renC x0 x1).kind, .string (renC x0 x1).pat.rel, .slice a199 (renC x0 x1).pat.args.length c200, .string (renC x0 x1).left, .string (renC x0 x1).right] 32)).heap.size := by simp
      have K202 := Lib.hid hK202
      clear hK202
      generalize (W194.alloc (.cells #[.int .i64 (renC x0 x1).kind, .string (renC x0 x1).pat.rel, .slice a199 (renC x0 x1).pat.args.length c200, .string (renC x0 x1).left, .string (renC x0 x1).right] 32)) = W208 at *
      clear K47
      replace N42 := Lib.hid (N42.out.up b209)
      replace N80 := Lib.hid (N80.out.up b209)
      replace N197 := Lib.hid (N197.out.up b209)
      replace K85 := Lib.hid (K85.out.up b209)
      replace B := Lib.hid (Up.tr B.out b209)
      clear b209
      refine (ceq_cond ((N197.out).ac) ((N42.out).ac) ).mono ?_
      rintro e W211 ⟨rfl, b212⟩
      have s213 : W208.heap.size ≤ W211.heap.size := b212.size
      clear N42
      clear N197
      clear K202
      replace N80 := Lib.hid (N80.out.up b212)
      replace K85 := Lib.hid (K85.out.up b212)
      replace B := Lib.hid (Up.tr B.out b212)
      clear b212
      have q214 : W211.cell? ⟨W77.heap.size, 0, none⟩ = some (.int .i64 (renC x0 x1).kind) := (K85.out.cell 0).trans rfl
      have q215 : W211.cell? ⟨W77.heap.size, 1, none⟩ = some (.string (renC x0 x1).pat.rel) := (K85.out.cell 1).trans rfl
      have q216 : W211.cell? ⟨W77.heap.size, 2, none⟩ = some (.slice a82 (renC x0 x1).pat.args.length c83) := (K85.out.cell 2).trans rfl
      have q217 : W211.cell? ⟨W77.heap.size, 3, none⟩ = some (.string (renC x0 x1).left) := (K85.out.cell 3).trans rfl
      have q218 : W211.cell? ⟨W77.heap.size, 4, none⟩ = some (.string (renC x0 x1).right) := (K85.out.cell 4).trans rfl
      go_wp2_with fail
      clear q214 q215 q216 q217 q218
      refine (chd_cond ((N80.out).ac) (by omega) (by have := (show ctC (renC x0 x1) ≤ 8388608 by first | omega | exact Nat.le_trans (ctC_le (by omega)) (by omega)); omega)).mono ?_
      rintro e W219 ⟨rfl, b220⟩
      have s221 : W211.heap.size ≤ W219.heap.size := b220.size
      have i222 : (0 : Int) ≤ ((1 + ctC ((renC x0 x1)) : Nat) : Int) := by omega
      clear N80
      clear K85
      replace B := Lib.hid (Up.tr B.out b220)
      clear b220
      go_wp2_with fail
      go_ret
      exact ⟨rfl, B.out⟩
    · have hn : szv (1048576 - (csz x0 : Nat)) (psz x1) < 0 := by rw [szv_neg (by omega)]; omega
      go_wp2_with fail
      go_ret
      exact ⟨rfl, B.out⟩
  · have hn : szv (1048576) (csz x0) < 0 := by rw [szv_neg (by omega)]; omega
    go_wp2_with fail
    go_ret
    exact ⟨rfl, B.out⟩
end Go.Proofs.Ytojgkodffmdnpaa
