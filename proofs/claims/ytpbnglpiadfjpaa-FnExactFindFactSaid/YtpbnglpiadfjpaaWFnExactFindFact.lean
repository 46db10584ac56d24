/- The walk of the law FnExactFindFact: for every input the call returns true and nothing that was there has turned. -/
import Derived.Test.YtpbnglpiadfjpaaFindF
import Derived.Test.YtpbnglpiadfjpaaLawAtom
namespace Go.Proofs.Ytpbnglpiadfjpaa
open Go.RowKit
attribute [local go_sem ↓] Go.wp_at_zero Go.wp_at_succ
set_option linter.unusedVariables false
set_option maxHeartbeats 2000000 in
set_option maxRecDepth 100000 in
theorem walk_FnExactFindFact (w : World) (v0 : Value) (x0 : List FactV) (m0 : SF w 0 w.heap.size v0 x0) (o0 : okFs x0) (v1 : Value) (x1 : FactV) (m1 : AF w 0 w.heap.size v1 x1) (o1 : okF x1) :
    Calls Try.prog 4 #[v0, v1] w fun e w' => e = .returned (.bool true) ∧ Below w.heap.size w w' := by
  have M0 := Lib.hid (show Ob SF w 0 w.heap.size v0 x0 from ⟨m0, Nat.le_refl _⟩)
  have M1 := Lib.hid (show Ob AF w 0 w.heap.size v1 x1 from ⟨m1, Nat.le_refl _⟩)
  obtain ⟨a1, c1, rfl⟩ := AF.form m1
  clear m0
  clear m1
  have hb0 : Up w (w.alloc (.cells #[.string x1.rel, .slice a1 x1.args.length c1] 35)) := (Up.rf w).al _
  have hk1 : Blk (w.alloc (.cells #[.string x1.rel, .slice a1 x1.args.length c1] 35)) (w.heap.size) 35 #[.string x1.rel, .slice a1 x1.args.length c1] := by
    have := (Blk.new w 35 #[.string x1.rel, .slice a1 x1.args.length c1])
    simpa using this
  have K1 := Lib.hid hk1
  have hzW : w.heap.size + 1 ≤ (w.alloc (.cells #[.string x1.rel, .slice a1 x1.args.length c1] 35)).heap.size := by simp
  replace M0 := Lib.hid (M0.out.up hb0)
  replace M1 := Lib.hid (M1.out.up hb0)
  have B := Lib.hid hb0
  clear hb0 hk1
  go_enter Try.func4, Try.ntmps4
  go_wp2_with fail
  generalize (w.alloc (.cells #[.string x1.rel, .slice a1 x1.args.length c1] 35)) = W0 at *
  go_wp2_with fail
  refine (csz_facts ((M0.out)) o0 (by omega) (by omega)).mono ?_
  rintro e W1 ⟨rfl, b2⟩
  have s3 : W0.heap.size ≤ W1.heap.size := b2.size
  replace M0 := Lib.hid (M0.out.up b2)
  replace M1 := Lib.hid (M1.out.up b2)
  replace K1 := Lib.hid (K1.out.up b2)
  replace B := Lib.hid (Up.tr B.out b2)
  clear b2
  by_cases hl0 : ((fssz x0 : Nat) : Int) ≤ 1048576
  · skip
    rw [szv_pos hl0]
    have hz0 : fssz x0 ≤ 1048576 := by omega
    have q4 : W1.cell? ⟨w.heap.size, 0, none⟩ = some (.string x1.rel) := (K1.out.cell 0).trans rfl
    have q5 : W1.cell? ⟨w.heap.size, 1, none⟩ = some (.slice a1 x1.args.length c1) := (K1.out.cell 1).trans rfl
    go_wp2_with fail
    clear q4 q5
    refine (csz_fact ((M1.out)) o1 (by omega) (by omega)).mono ?_
    rintro e W6 ⟨rfl, b7⟩
    have s8 : W1.heap.size ≤ W6.heap.size := b7.size
    replace M0 := Lib.hid (M0.out.up b7)
    replace M1 := Lib.hid (M1.out.up b7)
    replace K1 := Lib.hid (K1.out.up b7)
    replace B := Lib.hid (Up.tr B.out b7)
    clear b7
    by_cases hl1 : ((fsz x1 : Nat) : Int) ≤ 1048576 - (fssz x0 : Nat)
    · skip
      rw [szv_pos hl1]
      have hz1 : fsz x1 ≤ 1048576 := by omega
      go_wp2_with fail
      have q9 : W6.cell? ⟨w.heap.size, 0, none⟩ = some (.string x1.rel) := (K1.out.cell 0).trans rfl
      have q10 : W6.cell? ⟨w.heap.size, 1, none⟩ = some (.slice a1 x1.args.length c1) := (K1.out.cell 1).trans rfl
      go_region_held3 (fun w' => w'.cell? ⟨w.heap.size, 0, none⟩ = some (.string x1.rel) ∧ w'.cell? ⟨w.heap.size, 1, none⟩ = some (.slice a1 x1.args.length c1) ∧ Up W6 w')
        (first | exact ⟨q9, q10, Up.dr (Up.rf _)⟩ | (have hh := ‹_ ∧ _ ∧ Up W6 _›; have hb := ‹Up _ _›; exact ⟨keepCell hb hh.1, keepCell hb hh.2.1, Up.tr hh.2.2 hb⟩))
        (first
          | (go_at_call 23; (with_reducible refine (cto_facts ((M0.out.up (‹_ ∧ _ ∧ Up W6 _›).2.2)) hz0).mono ?_); rintro e W11 ⟨u14, rfl, hN13, b12⟩)
          | (go_at_call 24; (with_reducible refine (cto_fact ((M1.out.up (‹_ ∧ _ ∧ Up W6 _›).2.2)) hz1).mono ?_); rintro e W15 ⟨u18, rfl, hN17, b16⟩)
          | (go_at_call 22; (with_reducible refine (cFindFactS (((hN13).up b16).sf) ((hN17).af) ).mono ?_); rintro e W19 ⟨rfl, b20⟩))
      have b21 := (‹_ ∧ _ ∧ Up W6 _›).2.2
      have s22 : W6.heap.size ≤ W11.heap.size := b12.size
      have s23 : W11.heap.size ≤ W15.heap.size := b16.size
      have s24 : W15.heap.size ≤ W19.heap.size := b20.size
      replace M0 := Lib.hid (M0.out.up b21)
      replace M1 := Lib.hid (M1.out.up b21)
      replace K1 := Lib.hid (K1.out.up b21)
      replace B := Lib.hid (Up.tr B.out b21)
      clear q9 q10 b21
      clear hN17 hN13
      clear b20 b16 b12
      go_wp2_with fail
      refine (cto_facts ((M0.out)) hz0).mono ?_
      rintro e W25 ⟨u29, rfl, hN28, b26⟩
      have s27 : W19.heap.size ≤ W25.heap.size := b26.size
      have N28 := Lib.hid hN28
      clear hN28
      replace M0 := Lib.hid (M0.out.up b26)
      replace M1 := Lib.hid (M1.out.up b26)
      replace K1 := Lib.hid (K1.out.up b26)
      replace B := Lib.hid (Up.tr B.out b26)
      clear b26
      have q30 : W25.cell? ⟨w.heap.size, 0, none⟩ = some (.string x1.rel) := (K1.out.cell 0).trans rfl
      have q31 : W25.cell? ⟨w.heap.size, 1, none⟩ = some (.slice a1 x1.args.length c1) := (K1.out.cell 1).trans rfl
      go_wp2_with fail
      clear q30 q31
      refine (cto_fact ((M1.out)) hz1).mono ?_
      rintro e W32 ⟨u36, rfl, hN35, b33⟩
      have s34 : W25.heap.size ≤ W32.heap.size := b33.size
      obtain ⟨a37, c38, rfl⟩ := hN35.1.form
      have N35 := Lib.hid hN35
      clear hN35
      replace M0 := Lib.hid (M0.out.up b33)
      replace M1 := Lib.hid (M1.out.up b33)
      replace N28 := Lib.hid (N28.out.up b33)
      replace K1 := Lib.hid (K1.out.up b33)
      replace B := Lib.hid (Up.tr B.out b33)
      clear b33
      go_wp2_with fail
      have b41 : Up W32 (W32.alloc (.cells #[.string x1.rel, .slice a37 x1.args.length c38] 41)) := Up.al1 _ _
      have hK39 : Blk (W32.alloc (.cells #[.string x1.rel, .slice a37 x1.args.length c38] 41)) W32.heap.size 41 #[.string x1.rel, .slice a37 x1.args.length c38] := Blk.new _ _ _
      have s42 : W32.heap.size + 1 ≤ (W32.alloc (.cells #[.string x1.rel, .slice a37 x1.args.length c38] 41)).heap.size := by simp
      have K39 := Lib.hid hK39
      clear hK39
      generalize (W32.alloc (.cells #[.string x1.rel, .slice a37 x1.args.length c38] 41)) = W40 at *
      replace M0 := Lib.hid (M0.out.up b41)
      replace M1 := Lib.hid (M1.out.up b41)
      replace N28 := Lib.hid (N28.out.up b41)
      replace N35 := Lib.hid (N35.out.up b41)
      replace K1 := Lib.hid (K1.out.up b41)
      replace B := Lib.hid (Up.tr B.out b41)
      clear b41
      refine (cFindFact ((N28.out).sf) ((N35.out).af) ).mono ?_
      rintro e W43 ⟨rfl, b44⟩
      have s45 : W40.heap.size ≤ W43.heap.size := b44.size
      replace M0 := Lib.hid (M0.out.up b44)
      replace M1 := Lib.hid (M1.out.up b44)
      replace N28 := Lib.hid (N28.out.up b44)
      replace N35 := Lib.hid (N35.out.up b44)
      replace K1 := Lib.hid (K1.out.up b44)
      replace K39 := Lib.hid (K39.out.up b44)
      replace B := Lib.hid (Up.tr B.out b44)
      clear b44
      go_wp2_with fail
      refine (cto_facts ((M0.out)) hz0).mono ?_
      rintro e W46 ⟨u50, rfl, hN49, b47⟩
      have s48 : W43.heap.size ≤ W46.heap.size := b47.size
      have N49 := Lib.hid hN49
      clear hN49
      clear M0
      replace M1 := Lib.hid (M1.out.up b47)
      replace N28 := Lib.hid (N28.out.up b47)
      replace N35 := Lib.hid (N35.out.up b47)
      replace K1 := Lib.hid (K1.out.up b47)
      replace K39 := Lib.hid (K39.out.up b47)
      replace B := Lib.hid (Up.tr B.out b47)
      clear b47
      go_wp2_with fail
      refine (ceq_facts ((N28.out).sf) ((N49.out).sf) ).mono ?_
      rintro e W51 ⟨rfl, b52⟩
      have s53 : W46.heap.size ≤ W51.heap.size := b52.size
      clear N28
      clear N49
      replace M1 := Lib.hid (M1.out.up b52)
      replace N35 := Lib.hid (N35.out.up b52)
      replace K1 := Lib.hid (K1.out.up b52)
      replace K39 := Lib.hid (K39.out.up b52)
      replace B := Lib.hid (Up.tr B.out b52)
      clear b52
      go_wp2_with fail
      have q54 : W51.cell? ⟨W32.heap.size, 0, none⟩ = some (.string x1.rel) := (K39.out.cell 0).trans rfl
      have q55 : W51.cell? ⟨W32.heap.size, 1, none⟩ = some (.slice a37 x1.args.length c38) := (K39.out.cell 1).trans rfl
      have q56 : W51.cell? ⟨w.heap.size, 0, none⟩ = some (.string x1.rel) := (K1.out.cell 0).trans rfl
      have q57 : W51.cell? ⟨w.heap.size, 1, none⟩ = some (.slice a1 x1.args.length c1) := (K1.out.cell 1).trans rfl
      go_region_held3 (fun w' => w'.cell? ⟨W32.heap.size, 0, none⟩ = some (.string x1.rel) ∧ w'.cell? ⟨W32.heap.size, 1, none⟩ = some (.slice a37 x1.args.length c38) ∧ w'.cell? ⟨w.heap.size, 0, none⟩ = some (.string x1.rel) ∧ w'.cell? ⟨w.heap.size, 1, none⟩ = some (.slice a1 x1.args.length c1) ∧ Up W51 w')
        (first | exact ⟨q54, q55, q56, q57, Up.dr (Up.rf _)⟩ | (have hh := ‹_ ∧ _ ∧ _ ∧ _ ∧ Up W51 _›; have hb := ‹Up _ _›; exact ⟨keepCell hb hh.1, keepCell hb hh.2.1, keepCell hb hh.2.2.1, keepCell hb hh.2.2.2.1, Up.tr hh.2.2.2.2 hb⟩))
        (first
          | (go_at_call 24; (with_reducible refine (cto_fact ((M1.out.up (‹_ ∧ _ ∧ _ ∧ _ ∧ Up W51 _›).2.2.2.2)) hz1).mono ?_); rintro e W58 ⟨u61, rfl, hN60, b59⟩)
          | (go_at_call 27; (with_reducible refine (ceq_fact ((N35.out.up (‹_ ∧ _ ∧ _ ∧ _ ∧ Up W51 _›).2.2.2.2).af) ((hN60).af) ).mono ?_); rintro e W62 ⟨rfl, b63⟩))
      have b64 := (‹_ ∧ _ ∧ _ ∧ _ ∧ Up W51 _›).2.2.2.2
      have s65 : W51.heap.size ≤ W58.heap.size := b59.size
      have s66 : W58.heap.size ≤ W62.heap.size := b63.size
      clear M1
      clear N35
      clear K1
      clear K39
      replace B := Lib.hid (Up.tr B.out b64)
      clear q54 q55 q56 q57 b64
      clear hN60
      clear b63 b59
      go_wp2_with fail
      go_ret
      exact ⟨rfl, B.out⟩
    · have hn : szv (1048576 - (fssz x0 : Nat)) (fsz x1) < 0 := by rw [szv_neg (by omega)]; omega
      go_wp2_with fail
      go_ret
      exact ⟨rfl, B.out⟩
  · have hn : szv (1048576) (fssz x0) < 0 := by rw [szv_neg (by omega)]; omega
    go_wp2_with fail
    go_ret
    exact ⟨rfl, B.out⟩
end Go.Proofs.Ytpbnglpiadfjpaa
