/- The walk of the law FnExactHoldsTest: for every input the call returns true and nothing that was there has turned. -/
import Derived.Test.YtpjklnngigkkiaaDoorMarkFs
import Derived.Test.YtpjklnngigkkiaaDoorHold
import Derived.Test.YtpjklnngigkkiaaDoorLawAtom
namespace Go.Proofs.YtpjklnngigkkiaaDoor
open Go.RowKit
attribute [local go_sem ↓] Go.wp_at_zero Go.wp_at_succ
set_option linter.unusedVariables false
set_option maxHeartbeats 2000000 in
set_option maxRecDepth 100000 in
theorem walk_FnExactHoldsTest (w : World) (v0 : Value) (x0 : CondV) (m0 : AC w 0 w.heap.size v0 x0) (o0 : okC x0) (v1 : Value) (x1 : List (ByteArray × ByteArray)) (m1 : SP w 0 w.heap.size v1 x1) (o1 : okPs x1) (H_Tabs : Tabs w) :
    Calls Tryd.prog 10 #[v0, v1] w fun e w' => e = .returned (.bool true) ∧ Below w.heap.size w w' := by
  have M0 := Lib.hid (show Ob AC w 0 w.heap.size v0 x0 from ⟨m0, Nat.le_refl _⟩)
  have M1 := Lib.hid (show Ob SP w 0 w.heap.size v1 x1 from ⟨m1, Nat.le_refl _⟩)
  obtain ⟨a0, c0, rfl⟩ := AC.form m0
  clear m0
  clear m1
  have hb0 : Up w (w.alloc (.cells #[.int .i64 x0.kind, .string x0.pat.rel, .slice a0 x0.pat.args.length c0, .string x0.left, .string x0.right] 53)) := (Up.rf w).al _
  have hk0 : Blk (w.alloc (.cells #[.int .i64 x0.kind, .string x0.pat.rel, .slice a0 x0.pat.args.length c0, .string x0.left, .string x0.right] 53)) (w.heap.size) 53 #[.int .i64 x0.kind, .string x0.pat.rel, .slice a0 x0.pat.args.length c0, .string x0.left, .string x0.right] := by
    have := (Blk.new w 53 #[.int .i64 x0.kind, .string x0.pat.rel, .slice a0 x0.pat.args.length c0, .string x0.left, .string x0.right])
    simpa using this
  have K0 := Lib.hid hk0
  have hzW : w.heap.size + 1 ≤ (w.alloc (.cells #[.int .i64 x0.kind, .string x0.pat.rel, .slice a0 x0.pat.args.length c0, .string x0.left, .string x0.right] 53)).heap.size := by simp
  replace M0 := Lib.hid (M0.out.up hb0)
  replace M1 := Lib.hid (M1.out.up hb0)
  have B := Lib.hid hb0
  clear hb0 hk0
  go_enter Tryd.func10, Tryd.ntmps10
  go_wp2_with fail
  generalize (w.alloc (.cells #[.int .i64 x0.kind, .string x0.pat.rel, .slice a0 x0.pat.args.length c0, .string x0.left, .string x0.right] 53)) = W0 at *
  have q1 : W0.cell? ⟨w.heap.size, 0, none⟩ = some (.int .i64 x0.kind) := (K0.out.cell 0).trans rfl
  have q2 : W0.cell? ⟨w.heap.size, 1, none⟩ = some (.string x0.pat.rel) := (K0.out.cell 1).trans rfl
  have q3 : W0.cell? ⟨w.heap.size, 2, none⟩ = some (.slice a0 x0.pat.args.length c0) := (K0.out.cell 2).trans rfl
  have q4 : W0.cell? ⟨w.heap.size, 3, none⟩ = some (.string x0.left) := (K0.out.cell 3).trans rfl
  have q5 : W0.cell? ⟨w.heap.size, 4, none⟩ = some (.string x0.right) := (K0.out.cell 4).trans rfl
  go_wp2_with fail
  clear q1 q2 q3 q4 q5
  refine (csz_cond ((M0.out)) o0 (by omega) (by omega)).mono ?_
  rintro e W6 ⟨rfl, b7⟩
  have s8 : W0.heap.size ≤ W6.heap.size := b7.size
  replace M0 := Lib.hid (M0.out.up b7)
  replace M1 := Lib.hid (M1.out.up b7)
  replace K0 := Lib.hid (K0.out.up b7)
  replace B := Lib.hid (Up.tr B.out b7)
  clear b7
  by_cases hl0 : ((csz x0 : Nat) : Int) ≤ 1048576
  · skip
    rw [szv_pos hl0]
    have hz0 : csz x0 ≤ 1048576 := by omega
    go_wp2_with fail
    refine (csz_pairs ((M1.out)) o1 (by omega) (by omega)).mono ?_
    rintro e W9 ⟨rfl, b10⟩
    have s11 : W6.heap.size ≤ W9.heap.size := b10.size
    replace M0 := Lib.hid (M0.out.up b10)
    replace M1 := Lib.hid (M1.out.up b10)
    replace K0 := Lib.hid (K0.out.up b10)
    replace B := Lib.hid (Up.tr B.out b10)
    clear b10
    by_cases hl1 : ((psz x1 : Nat) : Int) ≤ 1048576 - (csz x0 : Nat)
    · skip
      rw [szv_pos hl1]
      have hz1 : psz x1 ≤ 1048576 := by omega
      have q12 : W9.cell? ⟨w.heap.size, 0, none⟩ = some (.int .i64 x0.kind) := (K0.out.cell 0).trans rfl
      have q13 : W9.cell? ⟨w.heap.size, 1, none⟩ = some (.string x0.pat.rel) := (K0.out.cell 1).trans rfl
      have q14 : W9.cell? ⟨w.heap.size, 2, none⟩ = some (.slice a0 x0.pat.args.length c0) := (K0.out.cell 2).trans rfl
      have q15 : W9.cell? ⟨w.heap.size, 3, none⟩ = some (.string x0.left) := (K0.out.cell 3).trans rfl
      have q16 : W9.cell? ⟨w.heap.size, 4, none⟩ = some (.string x0.right) := (K0.out.cell 4).trans rfl
      go_wp2_with fail
      clear q12 q13 q14 q15 q16
      refine (cto_cond ((M0.out)) hz0).mono ?_
      rintro e W17 ⟨u21, rfl, hN20, b18⟩
      have s19 : W9.heap.size ≤ W17.heap.size := b18.size
      obtain ⟨a22, c23, rfl⟩ := hN20.1.form
      have N20 := Lib.hid hN20
      clear hN20
      replace M0 := Lib.hid (M0.out.up b18)
      replace M1 := Lib.hid (M1.out.up b18)
      replace K0 := Lib.hid (K0.out.up b18)
      replace B := Lib.hid (Up.tr B.out b18)
      clear b18
      have q24 : W17.cell? ⟨w.heap.size, 0, none⟩ = some (.int .i64 x0.kind) := (K0.out.cell 0).trans rfl
      have q25 : W17.cell? ⟨w.heap.size, 1, none⟩ = some (.string x0.pat.rel) := (K0.out.cell 1).trans rfl
      have q26 : W17.cell? ⟨w.heap.size, 2, none⟩ = some (.slice a0 x0.pat.args.length c0) := (K0.out.cell 2).trans rfl
      have q27 : W17.cell? ⟨w.heap.size, 3, none⟩ = some (.string x0.left) := (K0.out.cell 3).trans rfl
      have q28 : W17.cell? ⟨w.heap.size, 4, none⟩ = some (.string x0.right) := (K0.out.cell 4).trans rfl
      go_wp2_with fail
      clear q24 q25 q26 q27 q28
      refine (cto_pairs ((M1.out)) hz1).mono ?_
      rintro e W29 ⟨u33, rfl, hN32, b30⟩
      have s31 : W17.heap.size ≤ W29.heap.size := b30.size
      have N32 := Lib.hid hN32
      clear hN32
      replace M0 := Lib.hid (M0.out.up b30)
      replace M1 := Lib.hid (M1.out.up b30)
      replace N20 := Lib.hid (N20.out.up b30)
      replace K0 := Lib.hid (K0.out.up b30)
      replace B := Lib.hid (Up.tr B.out b30)
      clear b30
      have q34 : W29.cell? ⟨w.heap.size, 0, none⟩ = some (.int .i64 x0.kind) := (K0.out.cell 0).trans rfl
      have q35 : W29.cell? ⟨w.heap.size, 1, none⟩ = some (.string x0.pat.rel) := (K0.out.cell 1).trans rfl
      have q36 : W29.cell? ⟨w.heap.size, 2, none⟩ = some (.slice a0 x0.pat.args.length c0) := (K0.out.cell 2).trans rfl
      have q37 : W29.cell? ⟨w.heap.size, 3, none⟩ = some (.string x0.left) := (K0.out.cell 3).trans rfl
      have q38 : W29.cell? ⟨w.heap.size, 4, none⟩ = some (.string x0.right) := (K0.out.cell 4).trans rfl
      go_wp2_with fail
      clear q34 q35 q36 q37 q38
      refine (cHoldsTestS ((N20.out).ac) ((N32.out).sp) hz0 hz1).mono ?_
      rintro e W39 ⟨rfl, b40⟩
      have s41 : W29.heap.size ≤ W39.heap.size := b40.size
      clear N20
      clear N32
      replace M0 := Lib.hid (M0.out.up b40)
      replace M1 := Lib.hid (M1.out.up b40)
      replace K0 := Lib.hid (K0.out.up b40)
      replace B := Lib.hid (Up.tr B.out b40)
      clear b40
      have q42 : W39.cell? ⟨w.heap.size, 0, none⟩ = some (.int .i64 x0.kind) := (K0.out.cell 0).trans rfl
      have q43 : W39.cell? ⟨w.heap.size, 1, none⟩ = some (.string x0.pat.rel) := (K0.out.cell 1).trans rfl
      have q44 : W39.cell? ⟨w.heap.size, 2, none⟩ = some (.slice a0 x0.pat.args.length c0) := (K0.out.cell 2).trans rfl
      have q45 : W39.cell? ⟨w.heap.size, 3, none⟩ = some (.string x0.left) := (K0.out.cell 3).trans rfl
      have q46 : W39.cell? ⟨w.heap.size, 4, none⟩ = some (.string x0.right) := (K0.out.cell 4).trans rfl
      go_wp2_with fail
      clear q42 q43 q44 q45 q46
      refine (cto_cond ((M0.out)) hz0).mono ?_
      rintro e W47 ⟨u51, rfl, hN50, b48⟩
      have s49 : W39.heap.size ≤ W47.heap.size := b48.size
      obtain ⟨a52, c53, rfl⟩ := hN50.1.form
      have N50 := Lib.hid hN50
      clear hN50
      replace M0 := Lib.hid (M0.out.up b48)
      replace M1 := Lib.hid (M1.out.up b48)
      replace K0 := Lib.hid (K0.out.up b48)
      replace B := Lib.hid (Up.tr B.out b48)
      clear b48
      go_wp2_with fail
      have b56 : Up W47 (W47.alloc (.cells #[.int .i64 x0.kind, .string x0.pat.rel, .slice a52 x0.pat.args.length c53, .string x0.left, .string x0.right] 47)) := Up.al1 _ _
      have hK54 : Blk (W47.alloc (.cells #[.int .i64 x0.kind, .string x0.pat.rel, .slice a52 x0.pat.args.length c53, .string x0.left, .string x0.right] 47)) W47.heap.size 47 #[.int .i64 x0.kind, .string x0.pat.rel, .slice a52 x0.pat.args.length c53, .string x0.left, .string x0.right] := Blk.new _ _ _
      have s57 : W47.heap.size + 1 ≤ (W47.alloc (.cells #[.int .i64 x0.kind, .string x0.pat.rel, .slice a52 x0.pat.args.length c53, .string x0.left, .string x0.right] 47)).heap.size := by simp
      have K54 := Lib.hid hK54
      clear hK54
      generalize (W47.alloc (.cells #[.int .i64 x0.kind, .string x0.pat.rel, .slice a52 x0.pat.args.length c53, .string x0.left, .string x0.right] 47)) = W55 at *
      replace M0 := Lib.hid (M0.out.up b56)
      replace M1 := Lib.hid (M1.out.up b56)
      replace N50 := Lib.hid (N50.out.up b56)
      replace K0 := Lib.hid (K0.out.up b56)
      replace B := Lib.hid (Up.tr B.out b56)
      clear b56
      refine (cto_pairs ((M1.out)) hz1).mono ?_
      rintro e W58 ⟨u62, rfl, hN61, b59⟩
      have s60 : W55.heap.size ≤ W58.heap.size := b59.size
      have N61 := Lib.hid hN61
      clear hN61
      replace M0 := Lib.hid (M0.out.up b59)
      replace M1 := Lib.hid (M1.out.up b59)
      replace N50 := Lib.hid (N50.out.up b59)
      replace K0 := Lib.hid (K0.out.up b59)
      replace K54 := Lib.hid (K54.out.up b59)
      replace B := Lib.hid (Up.tr B.out b59)
      clear b59
      have q63 : W58.cell? ⟨W47.heap.size, 0, none⟩ = some (.int .i64 x0.kind) := (K54.out.cell 0).trans rfl
      have q64 : W58.cell? ⟨W47.heap.size, 1, none⟩ = some (.string x0.pat.rel) := (K54.out.cell 1).trans rfl
      have q65 : W58.cell? ⟨W47.heap.size, 2, none⟩ = some (.slice a52 x0.pat.args.length c53) := (K54.out.cell 2).trans rfl
      have q66 : W58.cell? ⟨W47.heap.size, 3, none⟩ = some (.string x0.left) := (K54.out.cell 3).trans rfl
      have q67 : W58.cell? ⟨W47.heap.size, 4, none⟩ = some (.string x0.right) := (K54.out.cell 4).trans rfl
      go_wp2_with fail
      clear q63 q64 q65 q66 q67
      refine (cHoldsTest (H_Tabs.up (B.out)) ((N50.out).ac) ((N61.out).sp) hz0 hz1).mono ?_
      rintro e W68 ⟨rfl, b69⟩
      have s70 : W58.heap.size ≤ W68.heap.size := b69.size
      replace M0 := Lib.hid (M0.out.up b69)
      replace M1 := Lib.hid (M1.out.up b69)
      replace N50 := Lib.hid (N50.out.up b69)
      replace N61 := Lib.hid (N61.out.up b69)
      replace K0 := Lib.hid (K0.out.up b69)
      replace K54 := Lib.hid (K54.out.up b69)
      replace B := Lib.hid (Up.tr B.out b69)
      clear b69
      go_wp2_with fail
      have q71 : W68.cell? ⟨W47.heap.size, 0, none⟩ = some (.int .i64 x0.kind) := (K54.out.cell 0).trans rfl
      have q72 : W68.cell? ⟨W47.heap.size, 1, none⟩ = some (.string x0.pat.rel) := (K54.out.cell 1).trans rfl
      have q73 : W68.cell? ⟨W47.heap.size, 2, none⟩ = some (.slice a52 x0.pat.args.length c53) := (K54.out.cell 2).trans rfl
      have q74 : W68.cell? ⟨W47.heap.size, 3, none⟩ = some (.string x0.left) := (K54.out.cell 3).trans rfl
      have q75 : W68.cell? ⟨W47.heap.size, 4, none⟩ = some (.string x0.right) := (K54.out.cell 4).trans rfl
      have q76 : W68.cell? ⟨w.heap.size, 0, none⟩ = some (.int .i64 x0.kind) := (K0.out.cell 0).trans rfl
      have q77 : W68.cell? ⟨w.heap.size, 1, none⟩ = some (.string x0.pat.rel) := (K0.out.cell 1).trans rfl
      have q78 : W68.cell? ⟨w.heap.size, 2, none⟩ = some (.slice a0 x0.pat.args.length c0) := (K0.out.cell 2).trans rfl
      have q79 : W68.cell? ⟨w.heap.size, 3, none⟩ = some (.string x0.left) := (K0.out.cell 3).trans rfl
      have q80 : W68.cell? ⟨w.heap.size, 4, none⟩ = some (.string x0.right) := (K0.out.cell 4).trans rfl
      go_region_held3 (fun w' => w'.cell? ⟨W47.heap.size, 0, none⟩ = some (.int .i64 x0.kind) ∧ w'.cell? ⟨W47.heap.size, 1, none⟩ = some (.string x0.pat.rel) ∧ w'.cell? ⟨W47.heap.size, 2, none⟩ = some (.slice a52 x0.pat.args.length c53) ∧ w'.cell? ⟨W47.heap.size, 3, none⟩ = some (.string x0.left) ∧ w'.cell? ⟨W47.heap.size, 4, none⟩ = some (.string x0.right) ∧ w'.cell? ⟨w.heap.size, 0, none⟩ = some (.int .i64 x0.kind) ∧ w'.cell? ⟨w.heap.size, 1, none⟩ = some (.string x0.pat.rel) ∧ w'.cell? ⟨w.heap.size, 2, none⟩ = some (.slice a0 x0.pat.args.length c0) ∧ w'.cell? ⟨w.heap.size, 3, none⟩ = some (.string x0.left) ∧ w'.cell? ⟨w.heap.size, 4, none⟩ = some (.string x0.right) ∧ Up W68 w')
        (first | exact ⟨q71, q72, q73, q74, q75, q76, q77, q78, q79, q80, Up.dr (Up.rf _)⟩ | (have hh := ‹_ ∧ _ ∧ _ ∧ _ ∧ _ ∧ _ ∧ _ ∧ _ ∧ _ ∧ _ ∧ Up W68 _›; have hb := ‹Up _ _›; exact ⟨keepCell hb hh.1, keepCell hb hh.2.1, keepCell hb hh.2.2.1, keepCell hb hh.2.2.2.1, keepCell hb hh.2.2.2.2.1, keepCell hb hh.2.2.2.2.2.1, keepCell hb hh.2.2.2.2.2.2.1, keepCell hb hh.2.2.2.2.2.2.2.1, keepCell hb hh.2.2.2.2.2.2.2.2.1, keepCell hb hh.2.2.2.2.2.2.2.2.2.1, Up.tr hh.2.2.2.2.2.2.2.2.2.2 hb⟩))
        (first
          | (go_at_call 32; (with_reducible refine (cto_cond ((M0.out.up (‹_ ∧ _ ∧ _ ∧ _ ∧ _ ∧ _ ∧ _ ∧ _ ∧ _ ∧ _ ∧ Up W68 _›).2.2.2.2.2.2.2.2.2.2)) hz0).mono ?_); rintro e W81 ⟨u84, rfl, hN83, b82⟩)
          | (go_at_call 34; (with_reducible refine (ceq_cond ((N50.out.up (‹_ ∧ _ ∧ _ ∧ _ ∧ _ ∧ _ ∧ _ ∧ _ ∧ _ ∧ _ ∧ Up W68 _›).2.2.2.2.2.2.2.2.2.2).ac) ((hN83).ac) ).mono ?_); rintro e W85 ⟨rfl, b86⟩))
      have b87 := (‹_ ∧ _ ∧ _ ∧ _ ∧ _ ∧ _ ∧ _ ∧ _ ∧ _ ∧ _ ∧ Up W68 _›).2.2.2.2.2.2.2.2.2.2
      have s88 : W68.heap.size ≤ W81.heap.size := b82.size
      have s89 : W81.heap.size ≤ W85.heap.size := b86.size
      clear M0
      clear N50
      clear K0
      clear K54
      replace M1 := Lib.hid (M1.out.up b87)
      replace N61 := Lib.hid (N61.out.up b87)
      replace B := Lib.hid (Up.tr B.out b87)
      clear q71 q72 q73 q74 q75 q76 q77 q78 q79 q80 b87
      clear hN83
      clear b86 b82
      go_wp2_with fail
      refine (cto_pairs ((M1.out)) hz1).mono ?_
      rintro e W90 ⟨u94, rfl, hN93, b91⟩
      have s92 : W85.heap.size ≤ W90.heap.size := b91.size
      have N93 := Lib.hid hN93
      clear hN93
      clear M1
      replace N61 := Lib.hid (N61.out.up b91)
      replace B := Lib.hid (Up.tr B.out b91)
      clear b91
      go_wp2_with fail
      refine (ceq_pairs ((N61.out).sp) ((N93.out).sp) ).mono ?_
      rintro e W95 ⟨rfl, b96⟩
      have s97 : W90.heap.size ≤ W95.heap.size := b96.size
      clear N61
      clear N93
      replace B := Lib.hid (Up.tr B.out b96)
      clear b96
      go_wp2_with fail
      go_ret
      exact ⟨rfl, B.out⟩
    · have hn : szv (1048576 - (csz x0 : Nat)) (psz x1) < 0 := by rw [szv_neg (by omega)]; omega
      go_wp2_with fail
      go_ret
      exact ⟨rfl, B.out⟩
  · have hn : szv (1048576) (csz x0) < 0 := by rw [szv_neg (by omega)]; omega
    go_wp2_with fail
    go_ret
    exact ⟨rfl, B.out⟩
end Go.Proofs.YtpjklnngigkkiaaDoor
