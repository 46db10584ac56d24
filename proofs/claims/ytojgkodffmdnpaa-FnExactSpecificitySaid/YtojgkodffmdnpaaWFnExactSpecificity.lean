/- The walk of the law FnExactSpecificity: for every input the call returns true and nothing that was there has turned. -/
import Derived.Test.YtojgkodffmdnpaaMark
import Derived.Test.YtojgkodffmdnpaaSpec
import Derived.Test.YtojgkodffmdnpaaLawAtom
namespace Go.Proofs.Ytojgkodffmdnpaa
open Go.RowKit
attribute [local go_sem ↓] Go.wp_at_zero Go.wp_at_succ
set_option linter.unusedVariables false
set_option maxHeartbeats 2000000 in
set_option maxRecDepth 100000 in
theorem walk_FnExactSpecificity (w : World) (v0 : Value) (x0 : RuleV) (m0 : AR w 0 w.heap.size v0 x0) (o0 : okR x0) :
    Calls Try.prog 5 #[v0] w fun e w' => e = .returned (.bool true) ∧ Below w.heap.size w w' := by
  have M0 := Lib.hid (show Ob AR w 0 w.heap.size v0 x0 from ⟨m0, Nat.le_refl _⟩)
  obtain ⟨i0, ci0, t0, ct0, rfl⟩ := AR.form m0
  clear m0
  have hb0 : Up w (w.alloc (.cells #[.string x0.name, .int .i64 x0.prio, .slice i0 x0.ifs.length ci0, .slice t0 x0.thens.length ct0] 52)) := (Up.rf w).al _
  have hk0 : Blk (w.alloc (.cells #[.string x0.name, .int .i64 x0.prio, .slice i0 x0.ifs.length ci0, .slice t0 x0.thens.length ct0] 52)) (w.heap.size) 52 #[.string x0.name, .int .i64 x0.prio, .slice i0 x0.ifs.length ci0, .slice t0 x0.thens.length ct0] := by
    have := (Blk.new w 52 #[.string x0.name, .int .i64 x0.prio, .slice i0 x0.ifs.length ci0, .slice t0 x0.thens.length ct0])
    simpa using this
  have K0 := Lib.hid hk0
  have hzW : w.heap.size + 1 ≤ (w.alloc (.cells #[.string x0.name, .int .i64 x0.prio, .slice i0 x0.ifs.length ci0, .slice t0 x0.thens.length ct0] 52)).heap.size := by simp
  replace M0 := Lib.hid (M0.out.up hb0)
  have B := Lib.hid hb0
  clear hb0 hk0
  go_enter Try.func5, Try.ntmps5
  go_wp2_with fail
  generalize (w.alloc (.cells #[.string x0.name, .int .i64 x0.prio, .slice i0 x0.ifs.length ci0, .slice t0 x0.thens.length ct0] 52)) = W0 at *
  have q1 : W0.cell? ⟨w.heap.size, 0, none⟩ = some (.string x0.name) := (K0.out.cell 0).trans rfl
  have q2 : W0.cell? ⟨w.heap.size, 1, none⟩ = some (.int .i64 x0.prio) := (K0.out.cell 1).trans rfl
  have q3 : W0.cell? ⟨w.heap.size, 2, none⟩ = some (.slice i0 x0.ifs.length ci0) := (K0.out.cell 2).trans rfl
  have q4 : W0.cell? ⟨w.heap.size, 3, none⟩ = some (.slice t0 x0.thens.length ct0) := (K0.out.cell 3).trans rfl
  go_wp2_with fail
  clear q1 q2 q3 q4
  refine (csz_rule ((M0.out)) o0 (by omega) (by omega)).mono ?_
  rintro e W5 ⟨rfl, b6⟩
  have s7 : W0.heap.size ≤ W5.heap.size := b6.size
  replace M0 := Lib.hid (M0.out.up b6)
  replace K0 := Lib.hid (K0.out.up b6)
  replace B := Lib.hid (Up.tr B.out b6)
  clear b6
  by_cases hl0 : ((rsz x0 : Nat) : Int) ≤ 1048576
  · skip
    rw [szv_pos hl0]
    have hz0 : rsz x0 ≤ 1048576 := by omega
    have q8 : W5.cell? ⟨w.heap.size, 0, none⟩ = some (.string x0.name) := (K0.out.cell 0).trans rfl
    have q9 : W5.cell? ⟨w.heap.size, 1, none⟩ = some (.int .i64 x0.prio) := (K0.out.cell 1).trans rfl
    have q10 : W5.cell? ⟨w.heap.size, 2, none⟩ = some (.slice i0 x0.ifs.length ci0) := (K0.out.cell 2).trans rfl
    have q11 : W5.cell? ⟨w.heap.size, 3, none⟩ = some (.slice t0 x0.thens.length ct0) := (K0.out.cell 3).trans rfl
    go_wp2_with fail
    clear q8 q9 q10 q11
    refine (cto_rule ((M0.out)) hz0).mono ?_
    rintro e W12 ⟨u16, rfl, hN15, b13⟩
    have s14 : W5.heap.size ≤ W12.heap.size := b13.size
    obtain ⟨i17, c18, t19, c20, rfl⟩ := hN15.1.form
    have N15 := Lib.hid hN15
    clear hN15
    replace M0 := Lib.hid (M0.out.up b13)
    replace K0 := Lib.hid (K0.out.up b13)
    replace B := Lib.hid (Up.tr B.out b13)
    clear b13
    have q21 : W12.cell? ⟨w.heap.size, 0, none⟩ = some (.string x0.name) := (K0.out.cell 0).trans rfl
    have q22 : W12.cell? ⟨w.heap.size, 1, none⟩ = some (.int .i64 x0.prio) := (K0.out.cell 1).trans rfl
    have q23 : W12.cell? ⟨w.heap.size, 2, none⟩ = some (.slice i0 x0.ifs.length ci0) := (K0.out.cell 2).trans rfl
    have q24 : W12.cell? ⟨w.heap.size, 3, none⟩ = some (.slice t0 x0.thens.length ct0) := (K0.out.cell 3).trans rfl
    go_wp2_with fail
    clear q21 q22 q23 q24
    refine (cSpecifS ((N15.out)) hz0).mono ?_
    rintro e W25 ⟨rfl, b26⟩
    have s27 : W12.heap.size ≤ W25.heap.size := b26.size
    clear N15
    replace M0 := Lib.hid (M0.out.up b26)
    replace K0 := Lib.hid (K0.out.up b26)
    replace B := Lib.hid (Up.tr B.out b26)
    clear b26
    have q28 : W25.cell? ⟨w.heap.size, 0, none⟩ = some (.string x0.name) := (K0.out.cell 0).trans rfl
    have q29 : W25.cell? ⟨w.heap.size, 1, none⟩ = some (.int .i64 x0.prio) := (K0.out.cell 1).trans rfl
    have q30 : W25.cell? ⟨w.heap.size, 2, none⟩ = some (.slice i0 x0.ifs.length ci0) := (K0.out.cell 2).trans rfl
    have q31 : W25.cell? ⟨w.heap.size, 3, none⟩ = some (.slice t0 x0.thens.length ct0) := (K0.out.cell 3).trans rfl
    go_wp2_with fail
    clear q28 q29 q30 q31
    refine (cto_rule ((M0.out)) hz0).mono ?_
    rintro e W32 ⟨u36, rfl, hN35, b33⟩
    have s34 : W25.heap.size ≤ W32.heap.size := b33.size
    obtain ⟨i37, c38, t39, c40, rfl⟩ := hN35.1.form
    have N35 := Lib.hid hN35
    clear hN35
    replace M0 := Lib.hid (M0.out.up b33)
    replace K0 := Lib.hid (K0.out.up b33)
    replace B := Lib.hid (Up.tr B.out b33)
    clear b33
    go_wp2_with fail
    have b43 : Up W32 (W32.alloc (.cells #[.string x0.name, .int .i64 x0.prio, .slice i37 x0.ifs.length c38, .slice t39 x0.thens.length c40] 58)) := Up.al1 _ _
    have hK41 : Blk (W32.alloc (.cells #[.string x0.name, .int .i64 x0.prio, .slice i37 x0.ifs.length c38, .slice t39 x0.thens.length c40] 58)) W32.heap.size 58 #[.string x0.name, .int .i64 x0.prio, .slice i37 x0.ifs.length c38, .slice t39 x0.thens.length c40] := Blk.new _ _ _
    have s44 : W32.heap.size + 1 ≤ (W32.alloc (.cells #[.string x0.name, .int .i64 x0.prio, .slice i37 x0.ifs.length c38, .slice t39 x0.thens.length c40] 58)).heap.size := by simp
    have K41 := Lib.hid hK41
    clear hK41
    generalize (W32.alloc (.cells #[.string x0.name, .int .i64 x0.prio, .slice i37 x0.ifs.length c38, .slice t39 x0.thens.length c40] 58)) = W42 at *
    replace M0 := Lib.hid (M0.out.up b43)
    replace N35 := Lib.hid (N35.out.up b43)
    replace K0 := Lib.hid (K0.out.up b43)
    replace B := Lib.hid (Up.tr B.out b43)
    clear b43
    refine (cSpecif ((N35.out)) hz0).mono ?_
    rintro e W45 ⟨rfl, b46⟩
    have s47 : W42.heap.size ≤ W45.heap.size := b46.size
    replace M0 := Lib.hid (M0.out.up b46)
    replace N35 := Lib.hid (N35.out.up b46)
    replace K0 := Lib.hid (K0.out.up b46)
    replace K41 := Lib.hid (K41.out.up b46)
    replace B := Lib.hid (Up.tr B.out b46)
    clear b46
    go_wp2_with fail
    have q48 : W45.cell? ⟨W32.heap.size, 0, none⟩ = some (.string x0.name) := (K41.out.cell 0).trans rfl
    have q49 : W45.cell? ⟨W32.heap.size, 1, none⟩ = some (.int .i64 x0.prio) := (K41.out.cell 1).trans rfl
    have q50 : W45.cell? ⟨W32.heap.size, 2, none⟩ = some (.slice i37 x0.ifs.length c38) := (K41.out.cell 2).trans rfl
    have q51 : W45.cell? ⟨W32.heap.size, 3, none⟩ = some (.slice t39 x0.thens.length c40) := (K41.out.cell 3).trans rfl
    have q52 : W45.cell? ⟨w.heap.size, 0, none⟩ = some (.string x0.name) := (K0.out.cell 0).trans rfl
    have q53 : W45.cell? ⟨w.heap.size, 1, none⟩ = some (.int .i64 x0.prio) := (K0.out.cell 1).trans rfl
    have q54 : W45.cell? ⟨w.heap.size, 2, none⟩ = some (.slice i0 x0.ifs.length ci0) := (K0.out.cell 2).trans rfl
    have q55 : W45.cell? ⟨w.heap.size, 3, none⟩ = some (.slice t0 x0.thens.length ct0) := (K0.out.cell 3).trans rfl
    go_region_held3 (fun w' => w'.cell? ⟨W32.heap.size, 0, none⟩ = some (.string x0.name) ∧ w'.cell? ⟨W32.heap.size, 1, none⟩ = some (.int .i64 x0.prio) ∧ w'.cell? ⟨W32.heap.size, 2, none⟩ = some (.slice i37 x0.ifs.length c38) ∧ w'.cell? ⟨W32.heap.size, 3, none⟩ = some (.slice t39 x0.thens.length c40) ∧ w'.cell? ⟨w.heap.size, 0, none⟩ = some (.string x0.name) ∧ w'.cell? ⟨w.heap.size, 1, none⟩ = some (.int .i64 x0.prio) ∧ w'.cell? ⟨w.heap.size, 2, none⟩ = some (.slice i0 x0.ifs.length ci0) ∧ w'.cell? ⟨w.heap.size, 3, none⟩ = some (.slice t0 x0.thens.length ct0) ∧ Up W45 w')
      (first | exact ⟨q48, q49, q50, q51, q52, q53, q54, q55, Up.dr (Up.rf _)⟩ | (have hh := ‹_ ∧ _ ∧ _ ∧ _ ∧ _ ∧ _ ∧ _ ∧ _ ∧ Up W45 _›; have hb := ‹Up _ _›; exact ⟨keepCell hb hh.1, keepCell hb hh.2.1, keepCell hb hh.2.2.1, keepCell hb hh.2.2.2.1, keepCell hb hh.2.2.2.2.1, keepCell hb hh.2.2.2.2.2.1, keepCell hb hh.2.2.2.2.2.2.1, keepCell hb hh.2.2.2.2.2.2.2.1, Up.tr hh.2.2.2.2.2.2.2.2 hb⟩))
      (first
        | (go_at_call 33; (with_reducible refine (cto_rule ((M0.out.up (‹_ ∧ _ ∧ _ ∧ _ ∧ _ ∧ _ ∧ _ ∧ _ ∧ Up W45 _›).2.2.2.2.2.2.2.2)) hz0).mono ?_); rintro e W56 ⟨u59, rfl, hN58, b57⟩)
        | (go_at_call 35; (with_reducible refine (ceq_rule ((N35.out.up (‹_ ∧ _ ∧ _ ∧ _ ∧ _ ∧ _ ∧ _ ∧ _ ∧ Up W45 _›).2.2.2.2.2.2.2.2)) ((hN58)) ).mono ?_); rintro e W60 ⟨rfl, b61⟩))
    have b62 := (‹_ ∧ _ ∧ _ ∧ _ ∧ _ ∧ _ ∧ _ ∧ _ ∧ Up W45 _›).2.2.2.2.2.2.2.2
    have s63 : W45.heap.size ≤ W56.heap.size := b57.size
    have s64 : W56.heap.size ≤ W60.heap.size := b61.size
    clear M0
    clear N35
    clear K0
    clear K41
    replace B := Lib.hid (Up.tr B.out b62)
    clear q48 q49 q50 q51 q52 q53 q54 q55 b62
    clear hN58
    clear b61 b57
    go_wp2_with fail
    go_ret
    exact ⟨rfl, B.out⟩
  · have hn : szv (1048576) (rsz x0) < 0 := by rw [szv_neg (by omega)]; omega
    go_wp2_with fail
    go_ret
    exact ⟨rfl, B.out⟩
end Go.Proofs.Ytojgkodffmdnpaa
