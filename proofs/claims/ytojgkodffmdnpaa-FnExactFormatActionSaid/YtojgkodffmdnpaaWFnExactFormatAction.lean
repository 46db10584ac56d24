/- The walk of the law FnExactFormatAction: for every input the call returns true and nothing that was there has turned. -/
import Derived.Test.YtojgkodffmdnpaaFormA
import Derived.Test.YtojgkodffmdnpaaCond2
import Derived.Test.YtojgkodffmdnpaaLawAtom
namespace Go.Proofs.Ytojgkodffmdnpaa
open Go.RowKit
attribute [local go_sem ↓] Go.wp_at_zero Go.wp_at_succ
set_option linter.unusedVariables false
set_option maxHeartbeats 2000000 in
set_option maxRecDepth 100000 in
theorem walk_FnExactFormatAction (w : World) (v0 : Value) (x0 : ActV) (m0 : AA w 0 w.heap.size v0 x0) (o0 : okA x0) :
    Calls Try.prog 6 #[v0] w fun e w' => e = .returned (.bool true) ∧ Below w.heap.size w w' := by
  have M0 := Lib.hid (show Ob AA w 0 w.heap.size v0 x0 from ⟨m0, Nat.le_refl _⟩)
  obtain ⟨a0, c0, rfl⟩ := AA.form m0
  clear m0
  have hb0 : Up w (w.alloc (.cells #[.int .i64 x0.kind, .string x0.pat.rel, .slice a0 x0.pat.args.length c0] 63)) := (Up.rf w).al _
  have hk0 : Blk (w.alloc (.cells #[.int .i64 x0.kind, .string x0.pat.rel, .slice a0 x0.pat.args.length c0] 63)) (w.heap.size) 63 #[.int .i64 x0.kind, .string x0.pat.rel, .slice a0 x0.pat.args.length c0] := by
    have := (Blk.new w 63 #[.int .i64 x0.kind, .string x0.pat.rel, .slice a0 x0.pat.args.length c0])
    simpa using this
  have K0 := Lib.hid hk0
  have hzW : w.heap.size + 1 ≤ (w.alloc (.cells #[.int .i64 x0.kind, .string x0.pat.rel, .slice a0 x0.pat.args.length c0] 63)).heap.size := by simp
  replace M0 := Lib.hid (M0.out.up hb0)
  have B := Lib.hid hb0
  clear hb0 hk0
  go_enter Try.func6, Try.ntmps6
  go_wp2_with fail
  generalize (w.alloc (.cells #[.int .i64 x0.kind, .string x0.pat.rel, .slice a0 x0.pat.args.length c0] 63)) = W0 at *
  have q1 : W0.cell? ⟨w.heap.size, 0, none⟩ = some (.int .i64 x0.kind) := (K0.out.cell 0).trans rfl
  have q2 : W0.cell? ⟨w.heap.size, 1, none⟩ = some (.string x0.pat.rel) := (K0.out.cell 1).trans rfl
  have q3 : W0.cell? ⟨w.heap.size, 2, none⟩ = some (.slice a0 x0.pat.args.length c0) := (K0.out.cell 2).trans rfl
  go_wp2_with fail
  clear q1 q2 q3
  refine (csz_act ((M0.out)) o0 (by omega) (by omega)).mono ?_
  rintro e W4 ⟨rfl, b5⟩
  have s6 : W0.heap.size ≤ W4.heap.size := b5.size
  replace M0 := Lib.hid (M0.out.up b5)
  replace K0 := Lib.hid (K0.out.up b5)
  replace B := Lib.hid (Up.tr B.out b5)
  clear b5
  by_cases hl0 : ((asz x0 : Nat) : Int) ≤ 1048576
  · skip
    rw [szv_pos hl0]
    have hz0 : asz x0 ≤ 1048576 := by omega
    have q7 : W4.cell? ⟨w.heap.size, 0, none⟩ = some (.int .i64 x0.kind) := (K0.out.cell 0).trans rfl
    have q8 : W4.cell? ⟨w.heap.size, 1, none⟩ = some (.string x0.pat.rel) := (K0.out.cell 1).trans rfl
    have q9 : W4.cell? ⟨w.heap.size, 2, none⟩ = some (.slice a0 x0.pat.args.length c0) := (K0.out.cell 2).trans rfl
    go_wp2_with fail
    clear q7 q8 q9
    refine (cto_act ((M0.out)) hz0).mono ?_
    rintro e W10 ⟨u14, rfl, hN13, b11⟩
    have s12 : W4.heap.size ≤ W10.heap.size := b11.size
    obtain ⟨a15, c16, rfl⟩ := hN13.1.form
    have N13 := Lib.hid hN13
    clear hN13
    replace M0 := Lib.hid (M0.out.up b11)
    replace K0 := Lib.hid (K0.out.up b11)
    replace B := Lib.hid (Up.tr B.out b11)
    clear b11
    have q17 : W10.cell? ⟨w.heap.size, 0, none⟩ = some (.int .i64 x0.kind) := (K0.out.cell 0).trans rfl
    have q18 : W10.cell? ⟨w.heap.size, 1, none⟩ = some (.string x0.pat.rel) := (K0.out.cell 1).trans rfl
    have q19 : W10.cell? ⟨w.heap.size, 2, none⟩ = some (.slice a0 x0.pat.args.length c0) := (K0.out.cell 2).trans rfl
    go_wp2_with fail
    clear q17 q18 q19
    refine (cFormAS ((N13.out).aa) hz0).mono ?_
    rintro e W20 ⟨rfl, b21⟩
    have s22 : W10.heap.size ≤ W20.heap.size := b21.size
    clear N13
    replace M0 := Lib.hid (M0.out.up b21)
    replace K0 := Lib.hid (K0.out.up b21)
    replace B := Lib.hid (Up.tr B.out b21)
    clear b21
    have q23 : W20.cell? ⟨w.heap.size, 0, none⟩ = some (.int .i64 x0.kind) := (K0.out.cell 0).trans rfl
    have q24 : W20.cell? ⟨w.heap.size, 1, none⟩ = some (.string x0.pat.rel) := (K0.out.cell 1).trans rfl
    have q25 : W20.cell? ⟨w.heap.size, 2, none⟩ = some (.slice a0 x0.pat.args.length c0) := (K0.out.cell 2).trans rfl
    go_wp2_with fail
    clear q23 q24 q25
    refine (cto_act ((M0.out)) hz0).mono ?_
    rintro e W26 ⟨u30, rfl, hN29, b27⟩
    have s28 : W20.heap.size ≤ W26.heap.size := b27.size
    obtain ⟨a31, c32, rfl⟩ := hN29.1.form
    have N29 := Lib.hid hN29
    clear hN29
    replace M0 := Lib.hid (M0.out.up b27)
    replace K0 := Lib.hid (K0.out.up b27)
    replace B := Lib.hid (Up.tr B.out b27)
    clear b27
    go_wp2_with fail
    have b35 : Up W26 (W26.alloc (.cells #[.int .i64 x0.kind, .string x0.pat.rel, .slice a31 x0.pat.args.length c32] 67)) := Up.al1 _ _
    have hK33 : Blk (W26.alloc (.cells #[.int .i64 x0.kind, .string x0.pat.rel, .slice a31 x0.pat.args.length c32] 67)) W26.heap.size 67 #[.int .i64 x0.kind, .string x0.pat.rel, .slice a31 x0.pat.args.length c32] := Blk.new _ _ _
    have s36 : W26.heap.size + 1 ≤ (W26.alloc (.cells #[.int .i64 x0.kind, .string x0.pat.rel, .slice a31 x0.pat.args.length c32] 67)).heap.size := by simp
    have K33 := Lib.hid hK33
    clear hK33
    generalize (W26.alloc (.cells #[.int .i64 x0.kind, .string x0.pat.rel, .slice a31 x0.pat.args.length c32] 67)) = W34 at *
    replace M0 := Lib.hid (M0.out.up b35)
    replace N29 := Lib.hid (N29.out.up b35)
    replace K0 := Lib.hid (K0.out.up b35)
    replace B := Lib.hid (Up.tr B.out b35)
    clear b35
    refine (cFormA ((N29.out).aa) hz0).mono ?_
    rintro e W37 ⟨rfl, b38⟩
    have s39 : W34.heap.size ≤ W37.heap.size := b38.size
    replace M0 := Lib.hid (M0.out.up b38)
    replace N29 := Lib.hid (N29.out.up b38)
    replace K0 := Lib.hid (K0.out.up b38)
    replace K33 := Lib.hid (K33.out.up b38)
    replace B := Lib.hid (Up.tr B.out b38)
    clear b38
    go_wp2_with fail
    have q40 : W37.cell? ⟨W26.heap.size, 0, none⟩ = some (.int .i64 x0.kind) := (K33.out.cell 0).trans rfl
    have q41 : W37.cell? ⟨W26.heap.size, 1, none⟩ = some (.string x0.pat.rel) := (K33.out.cell 1).trans rfl
    have q42 : W37.cell? ⟨W26.heap.size, 2, none⟩ = some (.slice a31 x0.pat.args.length c32) := (K33.out.cell 2).trans rfl
    have q43 : W37.cell? ⟨w.heap.size, 0, none⟩ = some (.int .i64 x0.kind) := (K0.out.cell 0).trans rfl
    have q44 : W37.cell? ⟨w.heap.size, 1, none⟩ = some (.string x0.pat.rel) := (K0.out.cell 1).trans rfl
    have q45 : W37.cell? ⟨w.heap.size, 2, none⟩ = some (.slice a0 x0.pat.args.length c0) := (K0.out.cell 2).trans rfl
    go_region_held3 (fun w' => w'.cell? ⟨W26.heap.size, 0, none⟩ = some (.int .i64 x0.kind) ∧ w'.cell? ⟨W26.heap.size, 1, none⟩ = some (.string x0.pat.rel) ∧ w'.cell? ⟨W26.heap.size, 2, none⟩ = some (.slice a31 x0.pat.args.length c32) ∧ w'.cell? ⟨w.heap.size, 0, none⟩ = some (.int .i64 x0.kind) ∧ w'.cell? ⟨w.heap.size, 1, none⟩ = some (.string x0.pat.rel) ∧ w'.cell? ⟨w.heap.size, 2, none⟩ = some (.slice a0 x0.pat.args.length c0) ∧ Up W37 w')
      (first | exact ⟨q40, q41, q42, q43, q44, q45, Up.dr (Up.rf _)⟩ | (have hh := ‹_ ∧ _ ∧ _ ∧ _ ∧ _ ∧ _ ∧ Up W37 _›; have hb := ‹Up _ _›; exact ⟨keepCell hb hh.1, keepCell hb hh.2.1, keepCell hb hh.2.2.1, keepCell hb hh.2.2.2.1, keepCell hb hh.2.2.2.2.1, keepCell hb hh.2.2.2.2.2.1, Up.tr hh.2.2.2.2.2.2 hb⟩))
      (first
        | (go_at_call 38; (with_reducible refine (cto_act ((M0.out.up (‹_ ∧ _ ∧ _ ∧ _ ∧ _ ∧ _ ∧ Up W37 _›).2.2.2.2.2.2)) hz0).mono ?_); rintro e W46 ⟨u49, rfl, hN48, b47⟩)
        | (go_at_call 40; (with_reducible refine (ceq_act ((N29.out.up (‹_ ∧ _ ∧ _ ∧ _ ∧ _ ∧ _ ∧ Up W37 _›).2.2.2.2.2.2).aa) ((hN48).aa) ).mono ?_); rintro e W50 ⟨rfl, b51⟩))
    have b52 := (‹_ ∧ _ ∧ _ ∧ _ ∧ _ ∧ _ ∧ Up W37 _›).2.2.2.2.2.2
    have s53 : W37.heap.size ≤ W46.heap.size := b47.size
    have s54 : W46.heap.size ≤ W50.heap.size := b51.size
    clear M0
    clear N29
    clear K0
    clear K33
    replace B := Lib.hid (Up.tr B.out b52)
    clear q40 q41 q42 q43 q44 q45 b52
    clear hN48
    clear b51 b47
    go_wp2_with fail
    go_ret
    exact ⟨rfl, B.out⟩
  · have hn : szv (1048576) (asz x0) < 0 := by rw [szv_neg (by omega)]; omega
    go_wp2_with fail
    go_ret
    exact ⟨rfl, B.out⟩
end Go.Proofs.Ytojgkodffmdnpaa
