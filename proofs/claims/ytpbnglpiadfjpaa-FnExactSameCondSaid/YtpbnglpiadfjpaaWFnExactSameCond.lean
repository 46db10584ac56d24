/- The walk of the law FnExactSameCond: for every input the call returns true and nothing that was there has turned. -/
import Derived.Test.YtpbnglpiadfjpaaCond2
namespace Go.Proofs.Ytpbnglpiadfjpaa
open Go.RowKit
attribute [local go_sem ↓] Go.wp_at_zero Go.wp_at_succ
set_option linter.unusedVariables false
set_option maxHeartbeats 2000000 in
set_option maxRecDepth 100000 in
theorem walk_FnExactSameCond (w : World) (v0 : Value) (x0 : CondV) (m0 : AC w 0 w.heap.size v0 x0) (o0 : okC x0) (v1 : Value) (x1 : CondV) (m1 : AC w 0 w.heap.size v1 x1) (o1 : okC x1) :
    Calls Try.prog 3 #[v0, v1] w fun e w' => e = .returned (.bool true) ∧ Below w.heap.size w w' := by
  have M0 := Lib.hid (show Ob AC w 0 w.heap.size v0 x0 from ⟨m0, Nat.le_refl _⟩)
  have M1 := Lib.hid (show Ob AC w 0 w.heap.size v1 x1 from ⟨m1, Nat.le_refl _⟩)
  obtain ⟨a0, c0, rfl⟩ := AC.form m0
  obtain ⟨a1, c1, rfl⟩ := AC.form m1
  clear m0
  clear m1
  have hb0 : Up w ((w.alloc (.cells #[.int .i64 x0.kind, .string x0.pat.rel, .slice a0 x0.pat.args.length c0, .string x0.left, .string x0.right] 26)).alloc (.cells #[.int .i64 x1.kind, .string x1.pat.rel, .slice a1 x1.pat.args.length c1, .string x1.left, .string x1.right] 26)) := ((Up.rf w).al _).al _
  have hk0 : Blk ((w.alloc (.cells #[.int .i64 x0.kind, .string x0.pat.rel, .slice a0 x0.pat.args.length c0, .string x0.left, .string x0.right] 26)).alloc (.cells #[.int .i64 x1.kind, .string x1.pat.rel, .slice a1 x1.pat.args.length c1, .string x1.left, .string x1.right] 26)) (w.heap.size) 26 #[.int .i64 x0.kind, .string x0.pat.rel, .slice a0 x0.pat.args.length c0, .string x0.left, .string x0.right] := by
    have := ((Blk.new w 26 #[.int .i64 x0.kind, .string x0.pat.rel, .slice a0 x0.pat.args.length c0, .string x0.left, .string x0.right]).alloc (.cells #[.int .i64 x1.kind, .string x1.pat.rel, .slice a1 x1.pat.args.length c1, .string x1.left, .string x1.right] 26))
    simpa using this
  have K0 := Lib.hid hk0
  have hk1 : Blk ((w.alloc (.cells #[.int .i64 x0.kind, .string x0.pat.rel, .slice a0 x0.pat.args.length c0, .string x0.left, .string x0.right] 26)).alloc (.cells #[.int .i64 x1.kind, .string x1.pat.rel, .slice a1 x1.pat.args.length c1, .string x1.left, .string x1.right] 26)) (w.heap.size + 1) 26 #[.int .i64 x1.kind, .string x1.pat.rel, .slice a1 x1.pat.args.length c1, .string x1.left, .string x1.right] := by
    have := (Blk.new (w.alloc (.cells #[.int .i64 x0.kind, .string x0.pat.rel, .slice a0 x0.pat.args.length c0, .string x0.left, .string x0.right] 26)) 26 #[.int .i64 x1.kind, .string x1.pat.rel, .slice a1 x1.pat.args.length c1, .string x1.left, .string x1.right])
    simpa using this
  have K1 := Lib.hid hk1
  have hzW : w.heap.size + 2 ≤ ((w.alloc (.cells #[.int .i64 x0.kind, .string x0.pat.rel, .slice a0 x0.pat.args.length c0, .string x0.left, .string x0.right] 26)).alloc (.cells #[.int .i64 x1.kind, .string x1.pat.rel, .slice a1 x1.pat.args.length c1, .string x1.left, .string x1.right] 26)).heap.size := by simp
  replace M0 := Lib.hid (M0.out.up hb0)
  replace M1 := Lib.hid (M1.out.up hb0)
  have B := Lib.hid hb0
  clear hb0 hk0 hk1
  go_enter Try.func3, Try.ntmps3
  go_wp2_with fail
  generalize ((w.alloc (.cells #[.int .i64 x0.kind, .string x0.pat.rel, .slice a0 x0.pat.args.length c0, .string x0.left, .string x0.right] 26)).alloc (.cells #[.int .i64 x1.kind, .string x1.pat.rel, .slice a1 x1.pat.args.length c1, .string x1.left, .string x1.right] 26)) = W0 at *
  have q1 : W0.cell? ⟨w.heap.size, 0, none⟩ = some (.int .i64 x0.kind) := (K0.out.cell 0).trans rfl
  have q2 : W0.cell? ⟨w.heap.size, 1, none⟩ = some (.string x0.pat.rel) := (K0.out.cell 1).trans rfl
  have q3 : W0.cell? ⟨w.heap.size, 2, none⟩ = some (.slice a0 x0.pat.args.length c0) := (K0.out.cell 2).trans rfl
  have q4 : W0.cell? ⟨w.heap.size, 3, none⟩ = some (.string x0.left) := (K0.out.cell 3).trans rfl
  have q5 : W0.cell? ⟨w.heap.size, 4, none⟩ = some (.string x0.right) := (K0.out.cell 4).trans rfl
  go_wp2_with fail
  clear q1 q2 q3 q4 q5
  refine (csz_cond ((M0.out)) o0 (by omega) (by omega)).mono ?_
  rintro e W6 ⟨rfl, b7⟩
  have s8 : W0.heap.size ≤ W6.heap.size := b7.size
  replace M0 := Lib.hid (M0.out.up b7)
  replace M1 := Lib.hid (M1.out.up b7)
  replace K0 := Lib.hid (K0.out.up b7)
  replace K1 := Lib.hid (K1.out.up b7)
  replace B := Lib.hid (Up.tr B.out b7)
  clear b7
  by_cases hl0 : ((csz x0 : Nat) : Int) ≤ 1048576
  · skip
    rw [szv_pos hl0]
    have hz0 : csz x0 ≤ 1048576 := by omega
    have q9 : W6.cell? ⟨w.heap.size + 1, 0, none⟩ = some (.int .i64 x1.kind) := (K1.out.cell 0).trans rfl
    have q10 : W6.cell? ⟨w.heap.size + 1, 1, none⟩ = some (.string x1.pat.rel) := (K1.out.cell 1).trans rfl
    have q11 : W6.cell? ⟨w.heap.size + 1, 2, none⟩ = some (.slice a1 x1.pat.args.length c1) := (K1.out.cell 2).trans rfl
    have q12 : W6.cell? ⟨w.heap.size + 1, 3, none⟩ = some (.string x1.left) := (K1.out.cell 3).trans rfl
    have q13 : W6.cell? ⟨w.heap.size + 1, 4, none⟩ = some (.string x1.right) := (K1.out.cell 4).trans rfl
    go_wp2_with fail
    clear q9 q10 q11 q12 q13
    refine (csz_cond ((M1.out)) o1 (by omega) (by omega)).mono ?_
    rintro e W14 ⟨rfl, b15⟩
    have s16 : W6.heap.size ≤ W14.heap.size := b15.size
    replace M0 := Lib.hid (M0.out.up b15)
    replace M1 := Lib.hid (M1.out.up b15)
    replace K0 := Lib.hid (K0.out.up b15)
    replace K1 := Lib.hid (K1.out.up b15)
    replace B := Lib.hid (Up.tr B.out b15)
    clear b15
    by_cases hl1 : ((csz x1 : Nat) : Int) ≤ 1048576 - (csz x0 : Nat)
    · skip
      rw [szv_pos hl1]
      have hz1 : csz x1 ≤ 1048576 := by omega
      go_wp2_with fail
      have q17 : W14.cell? ⟨w.heap.size, 0, none⟩ = some (.int .i64 x0.kind) := (K0.out.cell 0).trans rfl
      have q18 : W14.cell? ⟨w.heap.size, 1, none⟩ = some (.string x0.pat.rel) := (K0.out.cell 1).trans rfl
      have q19 : W14.cell? ⟨w.heap.size, 2, none⟩ = some (.slice a0 x0.pat.args.length c0) := (K0.out.cell 2).trans rfl
      have q20 : W14.cell? ⟨w.heap.size, 3, none⟩ = some (.string x0.left) := (K0.out.cell 3).trans rfl
      have q21 : W14.cell? ⟨w.heap.size, 4, none⟩ = some (.string x0.right) := (K0.out.cell 4).trans rfl
      have q22 : W14.cell? ⟨w.heap.size + 1, 0, none⟩ = some (.int .i64 x1.kind) := (K1.out.cell 0).trans rfl
      have q23 : W14.cell? ⟨w.heap.size + 1, 1, none⟩ = some (.string x1.pat.rel) := (K1.out.cell 1).trans rfl
      have q24 : W14.cell? ⟨w.heap.size + 1, 2, none⟩ = some (.slice a1 x1.pat.args.length c1) := (K1.out.cell 2).trans rfl
      have q25 : W14.cell? ⟨w.heap.size + 1, 3, none⟩ = some (.string x1.left) := (K1.out.cell 3).trans rfl
      have q26 : W14.cell? ⟨w.heap.size + 1, 4, none⟩ = some (.string x1.right) := (K1.out.cell 4).trans rfl
      go_region_held3 (fun w' => w'.cell? ⟨w.heap.size, 0, none⟩ = some (.int .i64 x0.kind) ∧ w'.cell? ⟨w.heap.size, 1, none⟩ = some (.string x0.pat.rel) ∧ w'.cell? ⟨w.heap.size, 2, none⟩ = some (.slice a0 x0.pat.args.length c0) ∧ w'.cell? ⟨w.heap.size, 3, none⟩ = some (.string x0.left) ∧ w'.cell? ⟨w.heap.size, 4, none⟩ = some (.string x0.right) ∧ w'.cell? ⟨w.heap.size + 1, 0, none⟩ = some (.int .i64 x1.kind) ∧ w'.cell? ⟨w.heap.size + 1, 1, none⟩ = some (.string x1.pat.rel) ∧ w'.cell? ⟨w.heap.size + 1, 2, none⟩ = some (.slice a1 x1.pat.args.length c1) ∧ w'.cell? ⟨w.heap.size + 1, 3, none⟩ = some (.string x1.left) ∧ w'.cell? ⟨w.heap.size + 1, 4, none⟩ = some (.string x1.right) ∧ Up W14 w')
        (first | exact ⟨q17, q18, q19, q20, q21, q22, q23, q24, q25, q26, Up.dr (Up.rf _)⟩ | (have hh := ‹_ ∧ _ ∧ _ ∧ _ ∧ _ ∧ _ ∧ _ ∧ _ ∧ _ ∧ _ ∧ Up W14 _›; have hb := ‹Up _ _›; exact ⟨keepCell hb hh.1, keepCell hb hh.2.1, keepCell hb hh.2.2.1, keepCell hb hh.2.2.2.1, keepCell hb hh.2.2.2.2.1, keepCell hb hh.2.2.2.2.2.1, keepCell hb hh.2.2.2.2.2.2.1, keepCell hb hh.2.2.2.2.2.2.2.1, keepCell hb hh.2.2.2.2.2.2.2.2.1, keepCell hb hh.2.2.2.2.2.2.2.2.2.1, Up.tr hh.2.2.2.2.2.2.2.2.2.2 hb⟩))
        (first
          | (go_at_call 17; (with_reducible refine (cto_cond ((M0.out.up (‹_ ∧ _ ∧ _ ∧ _ ∧ _ ∧ _ ∧ _ ∧ _ ∧ _ ∧ _ ∧ Up W14 _›).2.2.2.2.2.2.2.2.2.2)) hz0).mono ?_); rintro e W27 ⟨u30, rfl, hN29, b28⟩)
          | (go_at_call 17; (with_reducible refine (cto_cond ((M1.out.up (‹_ ∧ _ ∧ _ ∧ _ ∧ _ ∧ _ ∧ _ ∧ _ ∧ _ ∧ _ ∧ Up W14 _›).2.2.2.2.2.2.2.2.2.2)) hz1).mono ?_); rintro e W31 ⟨u34, rfl, hN33, b32⟩)
          | (go_at_call 16; (with_reducible refine (cSameCondS (((hN29).up b32).ac) ((hN33).ac) ).mono ?_); rintro e W35 ⟨rfl, b36⟩))
      have b37 := (‹_ ∧ _ ∧ _ ∧ _ ∧ _ ∧ _ ∧ _ ∧ _ ∧ _ ∧ _ ∧ Up W14 _›).2.2.2.2.2.2.2.2.2.2
      have s38 : W14.heap.size ≤ W27.heap.size := b28.size
      have s39 : W27.heap.size ≤ W31.heap.size := b32.size
      have s40 : W31.heap.size ≤ W35.heap.size := b36.size
      replace M0 := Lib.hid (M0.out.up b37)
      replace M1 := Lib.hid (M1.out.up b37)
      replace K0 := Lib.hid (K0.out.up b37)
      replace K1 := Lib.hid (K1.out.up b37)
      replace B := Lib.hid (Up.tr B.out b37)
      clear q17 q18 q19 q20 q21 q22 q23 q24 q25 q26 b37
      clear hN33 hN29
      clear b36 b32 b28
      have q41 : W35.cell? ⟨w.heap.size, 0, none⟩ = some (.int .i64 x0.kind) := (K0.out.cell 0).trans rfl
      have q42 : W35.cell? ⟨w.heap.size, 1, none⟩ = some (.string x0.pat.rel) := (K0.out.cell 1).trans rfl
      have q43 : W35.cell? ⟨w.heap.size, 2, none⟩ = some (.slice a0 x0.pat.args.length c0) := (K0.out.cell 2).trans rfl
      have q44 : W35.cell? ⟨w.heap.size, 3, none⟩ = some (.string x0.left) := (K0.out.cell 3).trans rfl
      have q45 : W35.cell? ⟨w.heap.size, 4, none⟩ = some (.string x0.right) := (K0.out.cell 4).trans rfl
      go_wp2_with fail
      clear q41 q42 q43 q44 q45
      refine (cto_cond ((M0.out)) hz0).mono ?_
      rintro e W46 ⟨u50, rfl, hN49, b47⟩
      have s48 : W35.heap.size ≤ W46.heap.size := b47.size
      obtain ⟨a51, c52, rfl⟩ := hN49.1.form
      have N49 := Lib.hid hN49
      clear hN49
      replace M0 := Lib.hid (M0.out.up b47)
      replace M1 := Lib.hid (M1.out.up b47)
      replace K0 := Lib.hid (K0.out.up b47)
      replace K1 := Lib.hid (K1.out.up b47)
      replace B := Lib.hid (Up.tr B.out b47)
      clear b47
      have q54 : (W46.alloc (.cells #[.int .i64 x0.kind, .string x0.pat.rel, .slice a51 x0.pat.args.length c52, .string x0.left, .string x0.right] 31)).cell? ⟨w.heap.size + 1, 0, none⟩ = some (.int .i64 x1.kind) := ((K1.out.up (Up.al1 _ _)).cell 0).trans rfl
      have q55 : (W46.alloc (.cells #[.int .i64 x0.kind, .string x0.pat.rel, .slice a51 x0.pat.args.length c52, .string x0.left, .string x0.right] 31)).cell? ⟨w.heap.size + 1, 1, none⟩ = some (.string x1.pat.rel) := ((K1.out.up (Up.al1 _ _)).cell 1).trans rfl
      have q56 : (W46.alloc (.cells #[.int .i64 x0.kind, .string x0.pat.rel, .slice a51 x0.pat.args.length c52, .string x0.left, .string x0.right] 31)).cell? ⟨w.heap.size + 1, 2, none⟩ = some (.slice a1 x1.pat.args.length c1) := ((K1.out.up (Up.al1 _ _)).cell 2).trans rfl
      have q57 : (W46.alloc (.cells #[.int .i64 x0.kind, .string x0.pat.rel, .slice a51 x0.pat.args.length c52, .string x0.left, .string x0.right] 31)).cell? ⟨w.heap.size + 1, 3, none⟩ = some (.string x1.left) := ((K1.out.up (Up.al1 _ _)).cell 3).trans rfl
      have q58 : (W46.alloc (.cells #[.int .i64 x0.kind, .string x0.pat.rel, .slice a51 x0.pat.args.length c52, .string x0.left, .string x0.right] 31)).cell? ⟨w.heap.size + 1, 4, none⟩ = some (.string x1.right) := ((K1.out.up (Up.al1 _ _)).cell 4).trans rfl
      go_wp2_with fail
      clear q54 q55 q56 q57 q58
      have b60 : Up W46 (W46.alloc (.cells #[.int .i64 x0.kind, .string x0.pat.rel, .slice a51 x0.pat.args.length c52, .string x0.left, .string x0.right] 31)) := Up.al1 _ _
      have hK53 : Blk (W46.alloc (.cells #[.int .i64 x0.kind, .string x0.pat.rel, .slice a51 x0.pat.args.length c52, .string x0.left, .string x0.right] 31)) W46.heap.size 31 #[.int .i64 x0.kind, .string x0.pat.rel, .slice a51 x0.pat.args.length c52, .string x0.left, .string x0.right] := Blk.new _ _ _
      have s61 : W46.heap.size + 1 ≤ (W46.alloc (.cells #[.int .i64 x0.kind, .string x0.pat.rel, .slice a51 x0.pat.args.length c52, .string x0.left, .string x0.right] 31)).heap.size := by simp
      have K53 := Lib.hid hK53
      clear hK53
      generalize (W46.alloc (.cells #[.int .i64 x0.kind, .string x0.pat.rel, .slice a51 x0.pat.args.length c52, .string x0.left, .string x0.right] 31)) = W59 at *
      replace M0 := Lib.hid (M0.out.up b60)
      replace M1 := Lib.hid (M1.out.up b60)
      replace N49 := Lib.hid (N49.out.up b60)
      replace K0 := Lib.hid (K0.out.up b60)
      replace K1 := Lib.hid (K1.out.up b60)
      replace B := Lib.hid (Up.tr B.out b60)
      clear b60
      refine (cto_cond ((M1.out)) hz1).mono ?_
      rintro e W62 ⟨u66, rfl, hN65, b63⟩
      have s64 : W59.heap.size ≤ W62.heap.size := b63.size
      obtain ⟨a67, c68, rfl⟩ := hN65.1.form
      have N65 := Lib.hid hN65
      clear hN65
      replace M0 := Lib.hid (M0.out.up b63)
      replace M1 := Lib.hid (M1.out.up b63)
      replace N49 := Lib.hid (N49.out.up b63)
      replace K0 := Lib.hid (K0.out.up b63)
      replace K1 := Lib.hid (K1.out.up b63)
      replace K53 := Lib.hid (K53.out.up b63)
      replace B := Lib.hid (Up.tr B.out b63)
      clear b63
      have q70 : (W62.alloc (.cells #[.int .i64 x1.kind, .string x1.pat.rel, .slice a67 x1.pat.args.length c68, .string x1.left, .string x1.right] 31)).cell? ⟨W46.heap.size, 0, none⟩ = some (.int .i64 x0.kind) := ((K53.out.up (Up.al1 _ _)).cell 0).trans rfl
      have q71 : (W62.alloc (.cells #[.int .i64 x1.kind, .string x1.pat.rel, .slice a67 x1.pat.args.length c68, .string x1.left, .string x1.right] 31)).cell? ⟨W46.heap.size, 1, none⟩ = some (.string x0.pat.rel) := ((K53.out.up (Up.al1 _ _)).cell 1).trans rfl
      have q72 : (W62.alloc (.cells #[.int .i64 x1.kind, .string x1.pat.rel, .slice a67 x1.pat.args.length c68, .string x1.left, .string x1.right] 31)).cell? ⟨W46.heap.size, 2, none⟩ = some (.slice a51 x0.pat.args.length c52) := ((K53.out.up (Up.al1 _ _)).cell 2).trans rfl
      have q73 : (W62.alloc (.cells #[.int .i64 x1.kind, .string x1.pat.rel, .slice a67 x1.pat.args.length c68, .string x1.left, .string x1.right] 31)).cell? ⟨W46.heap.size, 3, none⟩ = some (.string x0.left) := ((K53.out.up (Up.al1 _ _)).cell 3).trans rfl
      have q74 : (W62.alloc (.cells #[.int .i64 x1.kind, .string x1.pat.rel, .slice a67 x1.pat.args.length c68, .string x1.left, .string x1.right] 31)).cell? ⟨W46.heap.size, 4, none⟩ = some (.string x0.right) := ((K53.out.up (Up.al1 _ _)).cell 4).trans rfl
      go_wp2_with fail
      clear q70 q71 q72 q73 q74
      have b76 : Up W62 (W62.alloc (.cells #[.int .i64 x1.kind, .string x1.pat.rel, .slice a67 x1.pat.args.length c68, .string x1.left, .string x1.right] 31)) := Up.al1 _ _
      have hK69 : Blk (W62.alloc (.cells #[.int .i64 x1.kind, .string x1.pat.rel, .slice a67 x1.pat.args.length c68, .string x1.left, .string x1.right] 31)) W62.heap.size 31 #[.int .i64 x1.kind, .string x1.pat.rel, .slice a67 x1.pat.args.length c68, .string x1.left, .string x1.right] := Blk.new _ _ _
      have s77 : W62.heap.size + 1 ≤ (W62.alloc (.cells #[.int .i64 x1.kind, .string x1.pat.rel, .slice a67 x1.pat.args.length c68, .string x1.left, .string x1.right] 31)).heap.size := by simp
      have K69 := Lib.hid hK69
      clear hK69
      generalize (W62.alloc (.cells #[.int .i64 x1.kind, .string x1.pat.rel, .slice a67 x1.pat.args.length c68, .string x1.left, .string x1.right] 31)) = W75 at *
      replace M0 := Lib.hid (M0.out.up b76)
      replace M1 := Lib.hid (M1.out.up b76)
      replace N49 := Lib.hid (N49.out.up b76)
      replace N65 := Lib.hid (N65.out.up b76)
      replace K0 := Lib.hid (K0.out.up b76)
      replace K1 := Lib.hid (K1.out.up b76)
      replace K53 := Lib.hid (K53.out.up b76)
      replace B := Lib.hid (Up.tr B.out b76)
      clear b76
      refine (cSameCond ((N49.out).ac) ((N65.out).ac) ).mono ?_
      rintro e W78 ⟨rfl, b79⟩
      have s80 : W75.heap.size ≤ W78.heap.size := b79.size
      replace M0 := Lib.hid (M0.out.up b79)
      replace M1 := Lib.hid (M1.out.up b79)
      replace N49 := Lib.hid (N49.out.up b79)
      replace N65 := Lib.hid (N65.out.up b79)
      replace K0 := Lib.hid (K0.out.up b79)
      replace K1 := Lib.hid (K1.out.up b79)
      replace K53 := Lib.hid (K53.out.up b79)
      replace K69 := Lib.hid (K69.out.up b79)
      replace B := Lib.hid (Up.tr B.out b79)
      clear b79
      go_wp2_with fail
      have q81 : W78.cell? ⟨W46.heap.size, 0, none⟩ = some (.int .i64 x0.kind) := (K53.out.cell 0).trans rfl
      have q82 : W78.cell? ⟨W46.heap.size, 1, none⟩ = some (.string x0.pat.rel) := (K53.out.cell 1).trans rfl
      have q83 : W78.cell? ⟨W46.heap.size, 2, none⟩ = some (.slice a51 x0.pat.args.length c52) := (K53.out.cell 2).trans rfl
      have q84 : W78.cell? ⟨W46.heap.size, 3, none⟩ = some (.string x0.left) := (K53.out.cell 3).trans rfl
      have q85 : W78.cell? ⟨W46.heap.size, 4, none⟩ = some (.string x0.right) := (K53.out.cell 4).trans rfl
      have q86 : W78.cell? ⟨w.heap.size, 0, none⟩ = some (.int .i64 x0.kind) := (K0.out.cell 0).trans rfl
      have q87 : W78.cell? ⟨w.heap.size, 1, none⟩ = some (.string x0.pat.rel) := (K0.out.cell 1).trans rfl
      have q88 : W78.cell? ⟨w.heap.size, 2, none⟩ = some (.slice a0 x0.pat.args.length c0) := (K0.out.cell 2).trans rfl
      have q89 : W78.cell? ⟨w.heap.size, 3, none⟩ = some (.string x0.left) := (K0.out.cell 3).trans rfl
      have q90 : W78.cell? ⟨w.heap.size, 4, none⟩ = some (.string x0.right) := (K0.out.cell 4).trans rfl
      go_region_held3 (fun w' => w'.cell? ⟨W46.heap.size, 0, none⟩ = some (.int .i64 x0.kind) ∧ w'.cell? ⟨W46.heap.size, 1, none⟩ = some (.string x0.pat.rel) ∧ w'.cell? ⟨W46.heap.size, 2, none⟩ = some (.slice a51 x0.pat.args.length c52) ∧ w'.cell? ⟨W46.heap.size, 3, none⟩ = some (.string x0.left) ∧ w'.cell? ⟨W46.heap.size, 4, none⟩ = some (.string x0.right) ∧ w'.cell? ⟨w.heap.size, 0, none⟩ = some (.int .i64 x0.kind) ∧ w'.cell? ⟨w.heap.size, 1, none⟩ = some (.string x0.pat.rel) ∧ w'.cell? ⟨w.heap.size, 2, none⟩ = some (.slice a0 x0.pat.args.length c0) ∧ w'.cell? ⟨w.heap.size, 3, none⟩ = some (.string x0.left) ∧ w'.cell? ⟨w.heap.size, 4, none⟩ = some (.string x0.right) ∧ Up W78 w')
        (first | exact ⟨q81, q82, q83, q84, q85, q86, q87, q88, q89, q90, Up.dr (Up.rf _)⟩ | (have hh := ‹_ ∧ _ ∧ _ ∧ _ ∧ _ ∧ _ ∧ _ ∧ _ ∧ _ ∧ _ ∧ Up W78 _›; have hb := ‹Up _ _›; exact ⟨keepCell hb hh.1, keepCell hb hh.2.1, keepCell hb hh.2.2.1, keepCell hb hh.2.2.2.1, keepCell hb hh.2.2.2.2.1, keepCell hb hh.2.2.2.2.2.1, keepCell hb hh.2.2.2.2.2.2.1, keepCell hb hh.2.2.2.2.2.2.2.1, keepCell hb hh.2.2.2.2.2.2.2.2.1, keepCell hb hh.2.2.2.2.2.2.2.2.2.1, Up.tr hh.2.2.2.2.2.2.2.2.2.2 hb⟩))
        (first
          | (go_at_call 17; (with_reducible refine (cto_cond ((M0.out.up (‹_ ∧ _ ∧ _ ∧ _ ∧ _ ∧ _ ∧ _ ∧ _ ∧ _ ∧ _ ∧ Up W78 _›).2.2.2.2.2.2.2.2.2.2)) hz0).mono ?_); rintro e W91 ⟨u94, rfl, hN93, b92⟩)
          | (go_at_call 19; (with_reducible refine (ceq_cond ((N49.out.up (‹_ ∧ _ ∧ _ ∧ _ ∧ _ ∧ _ ∧ _ ∧ _ ∧ _ ∧ _ ∧ Up W78 _›).2.2.2.2.2.2.2.2.2.2).ac) ((hN93).ac) ).mono ?_); rintro e W95 ⟨rfl, b96⟩))
      have b97 := (‹_ ∧ _ ∧ _ ∧ _ ∧ _ ∧ _ ∧ _ ∧ _ ∧ _ ∧ _ ∧ Up W78 _›).2.2.2.2.2.2.2.2.2.2
      have s98 : W78.heap.size ≤ W91.heap.size := b92.size
      have s99 : W91.heap.size ≤ W95.heap.size := b96.size
      clear M0
      clear N49
      clear K0
      clear K53
      replace M1 := Lib.hid (M1.out.up b97)
      replace N65 := Lib.hid (N65.out.up b97)
      replace K1 := Lib.hid (K1.out.up b97)
      replace K69 := Lib.hid (K69.out.up b97)
      replace B := Lib.hid (Up.tr B.out b97)
      clear q81 q82 q83 q84 q85 q86 q87 q88 q89 q90 b97
      clear hN93
      clear b96 b92
      go_wp2_with fail
      have q100 : W95.cell? ⟨W62.heap.size, 0, none⟩ = some (.int .i64 x1.kind) := (K69.out.cell 0).trans rfl
      have q101 : W95.cell? ⟨W62.heap.size, 1, none⟩ = some (.string x1.pat.rel) := (K69.out.cell 1).trans rfl
      have q102 : W95.cell? ⟨W62.heap.size, 2, none⟩ = some (.slice a67 x1.pat.args.length c68) := (K69.out.cell 2).trans rfl
      have q103 : W95.cell? ⟨W62.heap.size, 3, none⟩ = some (.string x1.left) := (K69.out.cell 3).trans rfl
      have q104 : W95.cell? ⟨W62.heap.size, 4, none⟩ = some (.string x1.right) := (K69.out.cell 4).trans rfl
      have q105 : W95.cell? ⟨w.heap.size + 1, 0, none⟩ = some (.int .i64 x1.kind) := (K1.out.cell 0).trans rfl
      have q106 : W95.cell? ⟨w.heap.size + 1, 1, none⟩ = some (.string x1.pat.rel) := (K1.out.cell 1).trans rfl
      have q107 : W95.cell? ⟨w.heap.size + 1, 2, none⟩ = some (.slice a1 x1.pat.args.length c1) := (K1.out.cell 2).trans rfl
      have q108 : W95.cell? ⟨w.heap.size + 1, 3, none⟩ = some (.string x1.left) := (K1.out.cell 3).trans rfl
      have q109 : W95.cell? ⟨w.heap.size + 1, 4, none⟩ = some (.string x1.right) := (K1.out.cell 4).trans rfl
      go_region_held3 (fun w' => w'.cell? ⟨W62.heap.size, 0, none⟩ = some (.int .i64 x1.kind) ∧ w'.cell? ⟨W62.heap.size, 1, none⟩ = some (.string x1.pat.rel) ∧ w'.cell? ⟨W62.heap.size, 2, none⟩ = some (.slice a67 x1.pat.args.length c68) ∧ w'.cell? ⟨W62.heap.size, 3, none⟩ = some (.string x1.left) ∧ w'.cell? ⟨W62.heap.size, 4, none⟩ = some (.string x1.right) ∧ w'.cell? ⟨w.heap.size + 1, 0, none⟩ = some (.int .i64 x1.kind) ∧ w'.cell? ⟨w.heap.size + 1, 1, none⟩ = some (.string x1.pat.rel) ∧ w'.cell? ⟨w.heap.size + 1, 2, none⟩ = some (.slice a1 x1.pat.args.length c1) ∧ w'.cell? ⟨w.heap.size + 1, 3, none⟩ = some (.string x1.left) ∧ w'.cell? ⟨w.heap.size + 1, 4, none⟩ = some (.string x1.right) ∧ Up W95 w')
        (first | exact ⟨q100, q101, q102, q103, q104, q105, q106, q107, q108, q109, Up.dr (Up.rf _)⟩ | (have hh := ‹_ ∧ _ ∧ _ ∧ _ ∧ _ ∧ _ ∧ _ ∧ _ ∧ _ ∧ _ ∧ Up W95 _›; have hb := ‹Up _ _›; exact ⟨keepCell hb hh.1, keepCell hb hh.2.1, keepCell hb hh.2.2.1, keepCell hb hh.2.2.2.1, keepCell hb hh.2.2.2.2.1, keepCell hb hh.2.2.2.2.2.1, keepCell hb hh.2.2.2.2.2.2.1, keepCell hb hh.2.2.2.2.2.2.2.1, keepCell hb hh.2.2.2.2.2.2.2.2.1, keepCell hb hh.2.2.2.2.2.2.2.2.2.1, Up.tr hh.2.2.2.2.2.2.2.2.2.2 hb⟩))
        (first
          | (go_at_call 17; (with_reducible refine (cto_cond ((M1.out.up (‹_ ∧ _ ∧ _ ∧ _ ∧ _ ∧ _ ∧ _ ∧ _ ∧ _ ∧ _ ∧ Up W95 _›).2.2.2.2.2.2.2.2.2.2)) hz1).mono ?_); rintro e W110 ⟨u113, rfl, hN112, b111⟩)
          | (go_at_call 19; (with_reducible refine (ceq_cond ((N65.out.up (‹_ ∧ _ ∧ _ ∧ _ ∧ _ ∧ _ ∧ _ ∧ _ ∧ _ ∧ _ ∧ Up W95 _›).2.2.2.2.2.2.2.2.2.2).ac) ((hN112).ac) ).mono ?_); rintro e W114 ⟨rfl, b115⟩))
      have b116 := (‹_ ∧ _ ∧ _ ∧ _ ∧ _ ∧ _ ∧ _ ∧ _ ∧ _ ∧ _ ∧ Up W95 _›).2.2.2.2.2.2.2.2.2.2
      have s117 : W95.heap.size ≤ W110.heap.size := b111.size
      have s118 : W110.heap.size ≤ W114.heap.size := b115.size
      clear M1
      clear N65
      clear K1
      clear K69
      replace B := Lib.hid (Up.tr B.out b116)
      clear q100 q101 q102 q103 q104 q105 q106 q107 q108 q109 b116
      clear hN112
      clear b115 b111
      go_wp2_with fail
      go_ret
      exact ⟨rfl, B.out⟩
    · have hn : szv (1048576 - (csz x0 : Nat)) (csz x1) < 0 := by rw [szv_neg (by omega)]; omega
      go_wp2_with fail
      go_ret
      exact ⟨rfl, B.out⟩
  · have hn : szv (1048576) (csz x0) < 0 := by rw [szv_neg (by omega)]; omega
    go_wp2_with fail
    go_ret
    exact ⟨rfl, B.out⟩
end Go.Proofs.Ytpbnglpiadfjpaa
