/- The walk of the law FnExactFormatPattern: for every input the call returns true and nothing that was there has turned. -/
import Derived.Test.YtpbnglpiadfjpaaForm
import Derived.Test.YtpbnglpiadfjpaaLawAtom
namespace Go.Proofs.Ytpbnglpiadfjpaa
open Go.RowKit
attribute [local go_sem ↓] Go.wp_at_zero Go.wp_at_succ
set_option linter.unusedVariables false
set_option maxHeartbeats 2000000 in
set_option maxRecDepth 100000 in
theorem walk_FnExactFormatPattern (w : World) (v0 : Value) (x0 : FactV) (m0 : AF w 0 w.heap.size v0 x0) (o0 : okF x0) :
    Calls Try.prog 12 #[v0] w fun e w' => e = .returned (.bool true) ∧ Below w.heap.size w w' := by
  have M0 := Lib.hid (show Ob AF w 0 w.heap.size v0 x0 from ⟨m0, Nat.le_refl _⟩)
  obtain ⟨a0, c0, rfl⟩ := AF.form m0
  clear m0
  have hb0 : Up w (w.alloc (.cells #[.string x0.rel, .slice a0 x0.args.length c0] 24)) := (Up.rf w).al _
  have hk0 : Blk (w.alloc (.cells #[.string x0.rel, .slice a0 x0.args.length c0] 24)) (w.heap.size) 24 #[.string x0.rel, .slice a0 x0.args.length c0] := by
    have := (Blk.new w 24 #[.string x0.rel, .slice a0 x0.args.length c0])
    simpa using this
  have K0 := Lib.hid hk0
  have hzW : w.heap.size + 1 ≤ (w.alloc (.cells #[.string x0.rel, .slice a0 x0.args.length c0] 24)).heap.size := by simp
  replace M0 := Lib.hid (M0.out.up hb0)
  have B := Lib.hid hb0
  clear hb0 hk0
  go_enter Try.func12, Try.ntmps12
  go_wp2_with fail
  generalize (w.alloc (.cells #[.string x0.rel, .slice a0 x0.args.length c0] 24)) = W0 at *
  have q1 : W0.cell? ⟨w.heap.size, 0, none⟩ = some (.string x0.rel) := (K0.out.cell 0).trans rfl
  have q2 : W0.cell? ⟨w.heap.size, 1, none⟩ = some (.slice a0 x0.args.length c0) := (K0.out.cell 1).trans rfl
  go_wp2_with fail
  clear q1 q2
  refine (csz_pat ((M0.out)) o0 (by omega) (by omega)).mono ?_
  rintro e W3 ⟨rfl, b4⟩
  have s5 : W0.heap.size ≤ W3.heap.size := b4.size
  replace M0 := Lib.hid (M0.out.up b4)
  replace K0 := Lib.hid (K0.out.up b4)
  replace B := Lib.hid (Up.tr B.out b4)
  clear b4
  by_cases hl0 : ((fsz x0 : Nat) : Int) ≤ 1048576
  · skip
    rw [szv_pos hl0]
    have hz0 : fsz x0 ≤ 1048576 := by omega
    have q6 : W3.cell? ⟨w.heap.size, 0, none⟩ = some (.string x0.rel) := (K0.out.cell 0).trans rfl
    have q7 : W3.cell? ⟨w.heap.size, 1, none⟩ = some (.slice a0 x0.args.length c0) := (K0.out.cell 1).trans rfl
    go_wp2_with fail
    clear q6 q7
    refine (cto_pat ((M0.out)) hz0).mono ?_
    rintro e W8 ⟨u12, rfl, hN11, b9⟩
    have s10 : W3.heap.size ≤ W8.heap.size := b9.size
    obtain ⟨a13, c14, rfl⟩ := hN11.1.form
    have N11 := Lib.hid hN11
    clear hN11
    replace M0 := Lib.hid (M0.out.up b9)
    replace K0 := Lib.hid (K0.out.up b9)
    replace B := Lib.hid (Up.tr B.out b9)
    clear b9
    have q15 : W8.cell? ⟨w.heap.size, 0, none⟩ = some (.string x0.rel) := (K0.out.cell 0).trans rfl
    have q16 : W8.cell? ⟨w.heap.size, 1, none⟩ = some (.slice a0 x0.args.length c0) := (K0.out.cell 1).trans rfl
    go_wp2_with fail
    clear q15 q16
    refine (cFormPS ((N11.out).af) hz0).mono ?_
    rintro e W17 ⟨rfl, b18⟩
    have s19 : W8.heap.size ≤ W17.heap.size := b18.size
    clear N11
    replace M0 := Lib.hid (M0.out.up b18)
    replace K0 := Lib.hid (K0.out.up b18)
    replace B := Lib.hid (Up.tr B.out b18)
    clear b18
    have q20 : W17.cell? ⟨w.heap.size, 0, none⟩ = some (.string x0.rel) := (K0.out.cell 0).trans rfl
    have q21 : W17.cell? ⟨w.heap.size, 1, none⟩ = some (.slice a0 x0.args.length c0) := (K0.out.cell 1).trans rfl
    go_wp2_with fail
    clear q20 q21
    refine (cto_pat ((M0.out)) hz0).mono ?_
    rintro e W22 ⟨u26, rfl, hN25, b23⟩
    have s24 : W17.heap.size ≤ W22.heap.size := b23.size
    obtain ⟨a27, c28, rfl⟩ := hN25.1.form
    have N25 := Lib.hid hN25
    clear hN25
    replace M0 := Lib.hid (M0.out.up b23)
    replace K0 := Lib.hid (K0.out.up b23)
    replace B := Lib.hid (Up.tr B.out b23)
    clear b23
    go_wp2_with fail
    have b31 : Up W22 (W22.alloc (.cells #[.string x0.rel, .slice a27 x0.args.length c28] 29)) := Up.al1 _ _
    have hK29 : Blk (W22.alloc (.cells #[.string x0.rel, .slice a27 x0.args.length c28] 29)) W22.heap.size 29 #[.string x0.rel, .slice a27 x0.args.length c28] := Blk.new _ _ _
    have s32 : W22.heap.size + 1 ≤ (W22.alloc (.cells #[.string x0.rel, .slice a27 x0.args.length c28] 29)).heap.size := by simp
    have K29 := Lib.hid hK29
    clear hK29
    generalize (W22.alloc (.cells #[.string x0.rel, .slice a27 x0.args.length c28] 29)) = W30 at *
    replace M0 := Lib.hid (M0.out.up b31)
    replace N25 := Lib.hid (N25.out.up b31)
    replace K0 := Lib.hid (K0.out.up b31)
    replace B := Lib.hid (Up.tr B.out b31)
    clear b31
    refine (cFormP ((N25.out).af) hz0).mono ?_
    rintro e W33 ⟨rfl, b34⟩
    have s35 : W30.heap.size ≤ W33.heap.size := b34.size
    replace M0 := Lib.hid (M0.out.up b34)
    replace N25 := Lib.hid (N25.out.up b34)
    replace K0 := Lib.hid (K0.out.up b34)
    replace K29 := Lib.hid (K29.out.up b34)
    replace B := Lib.hid (Up.tr B.out b34)
    clear b34
    go_wp2_with fail
    have q36 : W33.cell? ⟨W22.heap.size, 0, none⟩ = some (.string x0.rel) := (K29.out.cell 0).trans rfl
    have q37 : W33.cell? ⟨W22.heap.size, 1, none⟩ = some (.slice a27 x0.args.length c28) := (K29.out.cell 1).trans rfl
    have q38 : W33.cell? ⟨w.heap.size, 0, none⟩ = some (.string x0.rel) := (K0.out.cell 0).trans rfl
    have q39 : W33.cell? ⟨w.heap.size, 1, none⟩ = some (.slice a0 x0.args.length c0) := (K0.out.cell 1).trans rfl
    go_region_held3 (fun w' => w'.cell? ⟨W22.heap.size, 0, none⟩ = some (.string x0.rel) ∧ w'.cell? ⟨W22.heap.size, 1, none⟩ = some (.slice a27 x0.args.length c28) ∧ w'.cell? ⟨w.heap.size, 0, none⟩ = some (.string x0.rel) ∧ w'.cell? ⟨w.heap.size, 1, none⟩ = some (.slice a0 x0.args.length c0) ∧ Up W33 w')
      (first | exact ⟨q36, q37, q38, q39, Up.dr (Up.rf _)⟩ | (have hh := ‹_ ∧ _ ∧ _ ∧ _ ∧ Up W33 _›; have hb := ‹Up _ _›; exact ⟨keepCell hb hh.1, keepCell hb hh.2.1, keepCell hb hh.2.2.1, keepCell hb hh.2.2.2.1, Up.tr hh.2.2.2.2 hb⟩))
      (first
        | (go_at_call 58; (with_reducible refine (cto_pat ((M0.out.up (‹_ ∧ _ ∧ _ ∧ _ ∧ Up W33 _›).2.2.2.2)) hz0).mono ?_); rintro e W40 ⟨u43, rfl, hN42, b41⟩)
        | (go_at_call 60; (with_reducible refine (ceq_pat ((N25.out.up (‹_ ∧ _ ∧ _ ∧ _ ∧ Up W33 _›).2.2.2.2).af) ((hN42).af) ).mono ?_); rintro e W44 ⟨rfl, b45⟩))
    have b46 := (‹_ ∧ _ ∧ _ ∧ _ ∧ Up W33 _›).2.2.2.2
    have s47 : W33.heap.size ≤ W40.heap.size := b41.size
    have s48 : W40.heap.size ≤ W44.heap.size := b45.size
    clear M0
    clear N25
    clear K0
    clear K29
    replace B := Lib.hid (Up.tr B.out b46)
    clear q36 q37 q38 q39 b46
    clear hN42
    clear b45 b41
    go_wp2_with fail
    go_ret
    exact ⟨rfl, B.out⟩
  · have hn : szv (1048576) (fsz x0) < 0 := by rw [szv_neg (by omega)]; omega
    go_wp2_with fail
    go_ret
    exact ⟨rfl, B.out⟩
end Go.Proofs.Ytpbnglpiadfjpaa
