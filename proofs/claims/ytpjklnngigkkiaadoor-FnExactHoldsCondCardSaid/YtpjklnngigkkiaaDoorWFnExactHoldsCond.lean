/- The walk of the law FnExactHoldsCond: for every input the call returns true and nothing that was there has turned. -/
import Derived.Test.YtpjklnngigkkiaaDoorMarkFs
import Derived.Test.YtpjklnngigkkiaaDoorHold
import Derived.Test.YtpjklnngigkkiaaDoorLawAtom
namespace Go.Proofs.YtpjklnngigkkiaaDoor
open Go.RowKit
attribute [local go_sem ↓] Go.wp_at_zero Go.wp_at_succ
set_option linter.unusedVariables false
set_option maxHeartbeats 2000000 in
set_option maxRecDepth 100000 in
theorem walk_FnExactHoldsCond (w : World) (v0 : Value) (x0 : CondV) (m0 : AC w 0 w.heap.size v0 x0) (o0 : okC x0) (v1 : Value) (x1 : List (ByteArray × ByteArray)) (m1 : SP w 0 w.heap.size v1 x1) (o1 : okPs x1) (v2 : Value) (x2 : List FactV) (m2 : SF w 0 w.heap.size v2 x2) (o2 : okFs x2) (H_Tabs : Tabs w) :
    Calls Tryd.prog 5 #[v0, v1, v2] w fun e w' => e = .returned (.bool true) ∧ Below w.heap.size w w' := by
  have M0 := Lib.hid (show Ob AC w 0 w.heap.size v0 x0 from ⟨m0, Nat.le_refl _⟩)
  have M1 := Lib.hid (show Ob SP w 0 w.heap.size v1 x1 from ⟨m1, Nat.le_refl _⟩)
  have M2 := Lib.hid (show Ob SF w 0 w.heap.size v2 x2 from ⟨m2, Nat.le_refl _⟩)
  obtain ⟨a0, c0, rfl⟩ := AC.form m0
  clear m0
  clear m1
  clear m2
  have hb0 : Up w (w.alloc (.cells #[.int .i64 x0.kind, .string x0.pat.rel, .slice a0 x0.pat.args.length c0, .string x0.left, .string x0.right] 53)) := (Up.rf w).al _
  have hk0 : Blk (w.alloc (.cells #[.int .i64 x0.kind, .string x0.pat.rel, .slice a0 x0.pat.args.length c0, .string x0.left, .string x0.right] 53)) (w.heap.size) 53 #[.int .i64 x0.kind, .string x0.pat.rel, .slice a0 x0.pat.args.length c0, .string x0.left, .string x0.right] := by
    have := (Blk.new w 53 #[.int .i64 x0.kind, .string x0.pat.rel, .slice a0 x0.pat.args.length c0, .string x0.left, .string x0.right])
    simpa using this
  have K0 := Lib.hid hk0
  have hzW : w.heap.size + 1 ≤ (w.alloc (.cells #[.int .i64 x0.kind, .string x0.pat.rel, .slice a0 x0.pat.args.length c0, .string x0.left, .string x0.right] 53)).heap.size := by simp
  replace M0 := Lib.hid (M0.out.up hb0)
  replace M1 := Lib.hid (M1.out.up hb0)
  replace M2 := Lib.hid (M2.out.up hb0)
  have B := Lib.hid hb0
  clear hb0 hk0
  go_enter Tryd.func5, Tryd.ntmps5
  go_wp2_with fail
  generalize (w.alloc (.cells #[.int .i64 x0.kind, .string x0.pat.rel, .slice a0 x0.pat.args.length c0, .string x0.left, .string x0.right] 53)) = W0 at *
  have q1 : W0.cell? ⟨w.heap.size, 0, none⟩ = some (.int .i64 x0.kind) := (K0.out.cell 0).trans rfl
  have q2 : W0.cell? ⟨w.heap.size, 1, none⟩ = some (.string x0.pat.rel) := (K0.out.cell 1).trans rfl
  have q3 : W0.cell? ⟨w.heap.size, 2, none⟩ = some (.slice a0 x0.pat.args.length c0) := (K0.out.cell 2).trans rfl
  have q4 : W0.cell? ⟨w.heap.size, 3, none⟩ = some (.string x0.left) := (K0.out.cell 3).trans rfl
  have q5 : W0.cell? ⟨w.heap.size, 4, none⟩ = some (.string x0.right) := (K0.out.cell 4).trans rfl
  go_wp2_with fail
  clear q1 q2 q3 q4 q5
  refine (csz_cond ((M0.out)) o0 (by omega) (by omega)).mono ?_
  rintro e W6 ⟨rfl, b7⟩
  have s8 : W0.heap.size ≤ W6.heap.size := b7.size
  replace M0 := Lib.hid (M0.out.up b7)
  replace M1 := Lib.hid (M1.out.up b7)
  replace M2 := Lib.hid (M2.out.up b7)
  replace K0 := Lib.hid (K0.out.up b7)
  replace B := Lib.hid (Up.tr B.out b7)
  clear b7
  by_cases hl0 : ((csz x0 : Nat) : Int) ≤ 1048576
  · skip
    rw [szv_pos hl0]
    have hz0 : csz x0 ≤ 1048576 := by omega
    go_wp2_with fail
    refine (csz_pairs ((M1.out)) o1 (by omega) (by omega)).mono ?_
    rintro e W9 ⟨rfl, b10⟩
    have s11 : W6.heap.size ≤ W9.heap.size := b10.size
    replace M0 := Lib.hid (M0.out.up b10)
    replace M1 := Lib.hid (M1.out.up b10)
    replace M2 := Lib.hid (M2.out.up b10)
    replace K0 := Lib.hid (K0.out.up b10)
    replace B := Lib.hid (Up.tr B.out b10)
    clear b10
    by_cases hl1 : ((psz x1 : Nat) : Int) ≤ 1048576 - (csz x0 : Nat)
    · skip
      rw [szv_pos hl1]
      have hz1 : psz x1 ≤ 1048576 := by omega
      go_wp2_with fail
      refine (csz_facts ((M2.out)) o2 (by omega) (by omega)).mono ?_
      rintro e W12 ⟨rfl, b13⟩
      have s14 : W9.heap.size ≤ W12.heap.size := b13.size
      replace M0 := Lib.hid (M0.out.up b13)
      replace M1 := Lib.hid (M1.out.up b13)
      replace M2 := Lib.hid (M2.out.up b13)
      replace K0 := Lib.hid (K0.out.up b13)
      replace B := Lib.hid (Up.tr B.out b13)
      clear b13
      by_cases hl2 : ((fssz x2 : Nat) : Int) ≤ 1048576 - (csz x0 : Nat) - (psz x1 : Nat)
      · skip
        rw [szv_pos hl2]
        have hz2 : fssz x2 ≤ 1048576 := by omega
        have q15 : W12.cell? ⟨w.heap.size, 0, none⟩ = some (.int .i64 x0.kind) := (K0.out.cell 0).trans rfl
        have q16 : W12.cell? ⟨w.heap.size, 1, none⟩ = some (.string x0.pat.rel) := (K0.out.cell 1).trans rfl
        have q17 : W12.cell? ⟨w.heap.size, 2, none⟩ = some (.slice a0 x0.pat.args.length c0) := (K0.out.cell 2).trans rfl
        have q18 : W12.cell? ⟨w.heap.size, 3, none⟩ = some (.string x0.left) := (K0.out.cell 3).trans rfl
        have q19 : W12.cell? ⟨w.heap.size, 4, none⟩ = some (.string x0.right) := (K0.out.cell 4).trans rfl
        go_wp2_with fail
        clear q15 q16 q17 q18 q19
        refine (cto_cond ((M0.out)) hz0).mono ?_
        rintro e W20 ⟨u24, rfl, hN23, b21⟩
        have s22 : W12.heap.size ≤ W20.heap.size := b21.size
        obtain ⟨a25, c26, rfl⟩ := hN23.1.form
        have N23 := Lib.hid hN23
        clear hN23
        replace M0 := Lib.hid (M0.out.up b21)
        replace M1 := Lib.hid (M1.out.up b21)
        replace M2 := Lib.hid (M2.out.up b21)
        replace K0 := Lib.hid (K0.out.up b21)
        replace B := Lib.hid (Up.tr B.out b21)
        clear b21
        have q27 : W20.cell? ⟨w.heap.size, 0, none⟩ = some (.int .i64 x0.kind) := (K0.out.cell 0).trans rfl
        have q28 : W20.cell? ⟨w.heap.size, 1, none⟩ = some (.string x0.pat.rel) := (K0.out.cell 1).trans rfl
        have q29 : W20.cell? ⟨w.heap.size, 2, none⟩ = some (.slice a0 x0.pat.args.length c0) := (K0.out.cell 2).trans rfl
        have q30 : W20.cell? ⟨w.heap.size, 3, none⟩ = some (.string x0.left) := (K0.out.cell 3).trans rfl
        have q31 : W20.cell? ⟨w.heap.size, 4, none⟩ = some (.string x0.right) := (K0.out.cell 4).trans rfl
        go_wp2_with fail
        clear q27 q28 q29 q30 q31
        refine (cto_pairs ((M1.out)) hz1).mono ?_
        rintro e W32 ⟨u36, rfl, hN35, b33⟩
        have s34 : W20.heap.size ≤ W32.heap.size := b33.size
        have N35 := Lib.hid hN35
        clear hN35
        replace M0 := Lib.hid (M0.out.up b33)
        replace M1 := Lib.hid (M1.out.up b33)
        replace M2 := Lib.hid (M2.out.up b33)
        replace N23 := Lib.hid (N23.out.up b33)
        replace K0 := Lib.hid (K0.out.up b33)
        replace B := Lib.hid (Up.tr B.out b33)
        clear b33
        have q37 : W32.cell? ⟨w.heap.size, 0, none⟩ = some (.int .i64 x0.kind) := (K0.out.cell 0).trans rfl
        have q38 : W32.cell? ⟨w.heap.size, 1, none⟩ = some (.string x0.pat.rel) := (K0.out.cell 1).trans rfl
        have q39 : W32.cell? ⟨w.heap.size, 2, none⟩ = some (.slice a0 x0.pat.args.length c0) := (K0.out.cell 2).trans rfl
        have q40 : W32.cell? ⟨w.heap.size, 3, none⟩ = some (.string x0.left) := (K0.out.cell 3).trans rfl
        have q41 : W32.cell? ⟨w.heap.size, 4, none⟩ = some (.string x0.right) := (K0.out.cell 4).trans rfl
        go_wp2_with fail
        clear q37 q38 q39 q40 q41
        refine (cto_facts ((M2.out)) hz2).mono ?_
        rintro e W42 ⟨u46, rfl, hN45, b43⟩
        have s44 : W32.heap.size ≤ W42.heap.size := b43.size
        have N45 := Lib.hid hN45
        clear hN45
        replace M0 := Lib.hid (M0.out.up b43)
        replace M1 := Lib.hid (M1.out.up b43)
        replace M2 := Lib.hid (M2.out.up b43)
        replace N23 := Lib.hid (N23.out.up b43)
        replace N35 := Lib.hid (N35.out.up b43)
        replace K0 := Lib.hid (K0.out.up b43)
        replace B := Lib.hid (Up.tr B.out b43)
        clear b43
        have q47 : W42.cell? ⟨w.heap.size, 0, none⟩ = some (.int .i64 x0.kind) := (K0.out.cell 0).trans rfl
        have q48 : W42.cell? ⟨w.heap.size, 1, none⟩ = some (.string x0.pat.rel) := (K0.out.cell 1).trans rfl
        have q49 : W42.cell? ⟨w.heap.size, 2, none⟩ = some (.slice a0 x0.pat.args.length c0) := (K0.out.cell 2).trans rfl
        have q50 : W42.cell? ⟨w.heap.size, 3, none⟩ = some (.string x0.left) := (K0.out.cell 3).trans rfl
        have q51 : W42.cell? ⟨w.heap.size, 4, none⟩ = some (.string x0.right) := (K0.out.cell 4).trans rfl
        go_wp2_with fail
        clear q47 q48 q49 q50 q51
        refine (cHoldsCondS ((N23.out).ac) ((N35.out).sp) ((N45.out).sf) hz0 hz1 hz2).mono ?_
        rintro e W52 ⟨rfl, b53⟩
        have s54 : W42.heap.size ≤ W52.heap.size := b53.size
        clear N23
        clear N35
        clear N45
        replace M0 := Lib.hid (M0.out.up b53)
        replace M1 := Lib.hid (M1.out.up b53)
        replace M2 := Lib.hid (M2.out.up b53)
        replace K0 := Lib.hid (K0.out.up b53)
        replace B := Lib.hid (Up.tr B.out b53)
        clear b53
        have q55 : W52.cell? ⟨w.heap.size, 0, none⟩ = some (.int .i64 x0.kind) := (K0.out.cell 0).trans rfl
        have q56 : W52.cell? ⟨w.heap.size, 1, none⟩ = some (.string x0.pat.rel) := (K0.out.cell 1).trans rfl
        have q57 : W52.cell? ⟨w.heap.size, 2, none⟩ = some (.slice a0 x0.pat.args.length c0) := (K0.out.cell 2).trans rfl
        have q58 : W52.cell? ⟨w.heap.size, 3, none⟩ = some (.string x0.left) := (K0.out.cell 3).trans rfl
        have q59 : W52.cell? ⟨w.heap.size, 4, none⟩ = some (.string x0.right) := (K0.out.cell 4).trans rfl
        go_wp2_with fail
        clear q55 q56 q57 q58 q59
        refine (cto_cond ((M0.out)) hz0).mono ?_
        rintro e W60 ⟨u64, rfl, hN63, b61⟩
        have s62 : W52.heap.size ≤ W60.heap.size := b61.size
        obtain ⟨a65, c66, rfl⟩ := hN63.1.form
        have N63 := Lib.hid hN63
        clear hN63
        replace M0 := Lib.hid (M0.out.up b61)
        replace M1 := Lib.hid (M1.out.up b61)
        replace M2 := Lib.hid (M2.out.up b61)
        replace K0 := Lib.hid (K0.out.up b61)
        replace B := Lib.hid (Up.tr B.out b61)
        clear b61
        go_wp2_with fail
        have b69 : Up W60 (W60.alloc (.cells #[.int .i64 x0.kind, .string x0.pat.rel, .slice a65 x0.pat.args.length c66, .string x0.left, .string x0.right] 47)) := Up.al1 _ _
        have hK67 : Blk (W60.alloc (.cells #[.int .i64 x0.kind, .string x0.pat.rel, .slice a65 x0.pat.args.length c66, .string x0.left, .string x0.right] 47)) W60.heap.size 47 #[.int .i64 x0.kind, .string x0.pat.rel, .slice a65 x0.pat.args.length c66, .string x0.left, .string x0.right] := Blk.new _ _ _
        have s70 : W60.heap.size + 1 ≤ (W60.alloc (.cells #[.int .i64 x0.kind, .string x0.pat.rel, .slice a65 x0.pat.args.length c66, .string x0.left, .string x0.right] 47)).heap.size := by simp
        have K67 := Lib.hid hK67
        clear hK67
        generalize (W60.alloc (.cells #[.int .i64 x0.kind, .string x0.pat.rel, .slice a65 x0.pat.args.length c66, .string x0.left, .string x0.right] 47)) = W68 at *
        replace M0 := Lib.hid (M0.out.up b69)
        replace M1 := Lib.hid (M1.out.up b69)
        replace M2 := Lib.hid (M2.out.up b69)
        replace N63 := Lib.hid (N63.out.up b69)
        replace K0 := Lib.hid (K0.out.up b69)
        replace B := Lib.hid (Up.tr B.out b69)
        clear b69
        refine (cto_pairs ((M1.out)) hz1).mono ?_
        rintro e W71 ⟨u75, rfl, hN74, b72⟩
        have s73 : W68.heap.size ≤ W71.heap.size := b72.size
        have N74 := Lib.hid hN74
        clear hN74
        replace M0 := Lib.hid (M0.out.up b72)
        replace M1 := Lib.hid (M1.out.up b72)
        replace M2 := Lib.hid (M2.out.up b72)
        replace N63 := Lib.hid (N63.out.up b72)
        replace K0 := Lib.hid (K0.out.up b72)
        replace K67 := Lib.hid (K67.out.up b72)
        replace B := Lib.hid (Up.tr B.out b72)
        clear b72
        go_wp2_with fail
        refine (cto_facts ((M2.out)) hz2).mono ?_
        rintro e W76 ⟨u80, rfl, hN79, b77⟩
        have s78 : W71.heap.size ≤ W76.heap.size := b77.size
        have N79 := Lib.hid hN79
        clear hN79
        replace M0 := Lib.hid (M0.out.up b77)
        replace M1 := Lib.hid (M1.out.up b77)
        replace M2 := Lib.hid (M2.out.up b77)
        replace N63 := Lib.hid (N63.out.up b77)
        replace N74 := Lib.hid (N74.out.up b77)
        replace K0 := Lib.hid (K0.out.up b77)
        replace K67 := Lib.hid (K67.out.up b77)
        replace B := Lib.hid (Up.tr B.out b77)
        clear b77
        have q81 : W76.cell? ⟨W60.heap.size, 0, none⟩ = some (.int .i64 x0.kind) := (K67.out.cell 0).trans rfl
        have q82 : W76.cell? ⟨W60.heap.size, 1, none⟩ = some (.string x0.pat.rel) := (K67.out.cell 1).trans rfl
        have q83 : W76.cell? ⟨W60.heap.size, 2, none⟩ = some (.slice a65 x0.pat.args.length c66) := (K67.out.cell 2).trans rfl
        have q84 : W76.cell? ⟨W60.heap.size, 3, none⟩ = some (.string x0.left) := (K67.out.cell 3).trans rfl
        have q85 : W76.cell? ⟨W60.heap.size, 4, none⟩ = some (.string x0.right) := (K67.out.cell 4).trans rfl
        go_wp2_with fail
        clear q81 q82 q83 q84 q85
        refine (cHoldsCond (H_Tabs.up (B.out)) ((N63.out).ac) ((N74.out).sp) ((N79.out).sf) hz0 hz1 hz2).mono ?_
        rintro e W86 ⟨rfl, b87⟩
        have s88 : W76.heap.size ≤ W86.heap.size := b87.size
        replace M0 := Lib.hid (M0.out.up b87)
        replace M1 := Lib.hid (M1.out.up b87)
        replace M2 := Lib.hid (M2.out.up b87)
        replace N63 := Lib.hid (N63.out.up b87)
        replace N74 := Lib.hid (N74.out.up b87)
        replace N79 := Lib.hid (N79.out.up b87)
        replace K0 := Lib.hid (K0.out.up b87)
        replace K67 := Lib.hid (K67.out.up b87)
        replace B := Lib.hid (Up.tr B.out b87)
        clear b87
        go_wp2_with fail
        have q89 : W86.cell? ⟨W60.heap.size, 0, none⟩ = some (.int .i64 x0.kind) := (K67.out.cell 0).trans rfl
        have q90 : W86.cell? ⟨W60.heap.size, 1, none⟩ = some (.string x0.pat.rel) := (K67.out.cell 1).trans rfl
        have q91 : W86.cell? ⟨W60.heap.size, 2, none⟩ = some (.slice a65 x0.pat.args.length c66) := (K67.out.cell 2).trans rfl
        have q92 : W86.cell? ⟨W60.heap.size, 3, none⟩ = some (.string x0.left) := (K67.out.cell 3).trans rfl
        have q93 : W86.cell? ⟨W60.heap.size, 4, none⟩ = some (.string x0.right) := (K67.out.cell 4).trans rfl
        have q94 : W86.cell? ⟨w.heap.size, 0, none⟩ = some (.int .i64 x0.kind) := (K0.out.cell 0).trans rfl
        have q95 : W86.cell? ⟨w.heap.size, 1, none⟩ = some (.string x0.pat.rel) := (K0.out.cell 1).trans rfl
        have q96 : W86.cell? ⟨w.heap.size, 2, none⟩ = some (.slice a0 x0.pat.args.length c0) := (K0.out.cell 2).trans rfl
        have q97 : W86.cell? ⟨w.heap.size, 3, none⟩ = some (.string x0.left) := (K0.out.cell 3).trans rfl
        have q98 : W86.cell? ⟨w.heap.size, 4, none⟩ = some (.string x0.right) := (K0.out.cell 4).trans rfl
        go_region_held3 (fun w' => w'.cell? ⟨W60.heap.size, 0, none⟩ = some (.int .i64 x0.kind) ∧ w'.cell? ⟨W60.heap.size, 1, none⟩ = some (.string x0.pat.rel) ∧ w'.cell? ⟨W60.heap.size, 2, none⟩ = some (.slice a65 x0.pat.args.length c66) ∧ w'.cell? ⟨W60.heap.size, 3, none⟩ = some (.string x0.left) ∧ w'.cell? ⟨W60.heap.size, 4, none⟩ = some (.string x0.right) ∧ w'.cell? ⟨w.heap.size, 0, none⟩ = some (.int .i64 x0.kind) ∧ w'.cell? ⟨w.heap.size, 1, none⟩ = some (.string x0.pat.rel) ∧ w'.cell? ⟨w.heap.size, 2, none⟩ = some (.slice a0 x0.pat.args.length c0) ∧ w'.cell? ⟨w.heap.size, 3, none⟩ = some (.string x0.left) ∧ w'.cell? ⟨w.heap.size, 4, none⟩ = some (.string x0.right) ∧ Up W86 w')
          (first | exact ⟨q89, q90, q91, q92, q93, q94, q95, q96, q97, q98, Up.dr (Up.rf _)⟩ | (have hh := ‹_ ∧ _ ∧ _ ∧ _ ∧ _ ∧ _ ∧ _ ∧ _ ∧ _ ∧ _ ∧ Up W86 _›; have hb := ‹Up _ _›; exact ⟨keepCell hb hh.1, keepCell hb hh.2.1, keepCell hb hh.2.2.1, keepCell hb hh.2.2.2.1, keepCell hb hh.2.2.2.2.1, keepCell hb hh.2.2.2.2.2.1, keepCell hb hh.2.2.2.2.2.2.1, keepCell hb hh.2.2.2.2.2.2.2.1, keepCell hb hh.2.2.2.2.2.2.2.2.1, keepCell hb hh.2.2.2.2.2.2.2.2.2.1, Up.tr hh.2.2.2.2.2.2.2.2.2.2 hb⟩))
          (first
            | (go_at_call 32; (with_reducible refine (cto_cond ((M0.out.up (‹_ ∧ _ ∧ _ ∧ _ ∧ _ ∧ _ ∧ _ ∧ _ ∧ _ ∧ _ ∧ Up W86 _›).2.2.2.2.2.2.2.2.2.2)) hz0).mono ?_); rintro e W99 ⟨u102, rfl, hN101, b100⟩)
            | (go_at_call 34; (with_reducible refine (ceq_cond ((N63.out.up (‹_ ∧ _ ∧ _ ∧ _ ∧ _ ∧ _ ∧ _ ∧ _ ∧ _ ∧ _ ∧ Up W86 _›).2.2.2.2.2.2.2.2.2.2).ac) ((hN101).ac) ).mono ?_); rintro e W103 ⟨rfl, b104⟩))
        have b105 := (‹_ ∧ _ ∧ _ ∧ _ ∧ _ ∧ _ ∧ _ ∧ _ ∧ _ ∧ _ ∧ Up W86 _›).2.2.2.2.2.2.2.2.2.2
        have s106 : W86.heap.size ≤ W99.heap.size := b100.size
        have s107 : W99.heap.size ≤ W103.heap.size := b104.size
        clear M0
        clear N63
        clear K0
        clear K67
        replace M1 := Lib.hid (M1.out.up b105)
        replace M2 := Lib.hid (M2.out.up b105)
        replace N74 := Lib.hid (N74.out.up b105)
        replace N79 := Lib.hid (N79.out.up b105)
        replace B := Lib.hid (Up.tr B.out b105)
        clear q89 q90 q91 q92 q93 q94 q95 q96 q97 q98 b105
        clear hN101
        clear b104 b100
        go_wp2_with fail
        refine (cto_pairs ((M1.out)) hz1).mono ?_
        rintro e W108 ⟨u112, rfl, hN111, b109⟩
        have s110 : W103.heap.size ≤ W108.heap.size := b109.size
        have N111 := Lib.hid hN111
        clear hN111
        clear M1
        replace M2 := Lib.hid (M2.out.up b109)
        replace N74 := Lib.hid (N74.out.up b109)
        replace N79 := Lib.hid (N79.out.up b109)
        replace B := Lib.hid (Up.tr B.out b109)
        clear b109
        go_wp2_with fail
        refine (ceq_pairs ((N74.out).sp) ((N111.out).sp) ).mono ?_
        rintro e W113 ⟨rfl, b114⟩
        have s115 : W108.heap.size ≤ W113.heap.size := b114.size
        clear N74
        clear N111
        replace M2 := Lib.hid (M2.out.up b114)
        replace N79 := Lib.hid (N79.out.up b114)
        replace B := Lib.hid (Up.tr B.out b114)
        clear b114
        go_wp2_with fail
        refine (cto_facts ((M2.out)) hz2).mono ?_
        rintro e W116 ⟨u120, rfl, hN119, b117⟩
        have s118 : W113.heap.size ≤ W116.heap.size := b117.size
        have N119 := Lib.hid hN119
        clear hN119
        clear M2
        replace N79 := Lib.hid (N79.out.up b117)
        replace B := Lib.hid (Up.tr B.out b117)
        clear b117
        go_wp2_with fail
        refine (ceq_facts ((N79.out).sf) ((N119.out).sf) ).mono ?_
        rintro e W121 ⟨rfl, b122⟩
        have s123 : W116.heap.size ≤ W121.heap.size := b122.size
        clear N79
        clear N119
        replace B := Lib.hid (Up.tr B.out b122)
        clear b122
        go_wp2_with fail
        go_ret
        exact ⟨rfl, B.out⟩
      · have hn : szv (1048576 - (csz x0 : Nat) - (psz x1 : Nat)) (fssz x2) < 0 := by rw [szv_neg (by omega)]; omega
        go_wp2_with fail
        go_ret
        exact ⟨rfl, B.out⟩
    · have hn : szv (1048576 - (csz x0 : Nat)) (psz x1) < 0 := by rw [szv_neg (by omega)]; omega
      go_wp2_with fail
      go_ret
      exact ⟨rfl, B.out⟩
  · have hn : szv (1048576) (csz x0) < 0 := by rw [szv_neg (by omega)]; omega
    go_wp2_with fail
    go_ret
    exact ⟨rfl, B.out⟩
end Go.Proofs.YtpjklnngigkkiaaDoor
