/- The walk of the law FnExactMatchFact: for every input the call returns true and nothing that was there has turned. -/
import Derived.Test.YtojgkodffmdnpaaMarkFs
import Derived.Test.YtojgkodffmdnpaaMatch
import Derived.Test.YtojgkodffmdnpaaLawAtom
namespace Go.Proofs.Ytojgkodffmdnpaa
open Go.RowKit
attribute [local go_sem ↓] Go.wp_at_zero Go.wp_at_succ
set_option linter.unusedVariables false
set_option maxHeartbeats 2000000 in
set_option maxRecDepth 100000 in
theorem walk_FnExactMatchFact (w : World) (v0 : Value) (x0 : FactV) (m0 : AF w 0 w.heap.size v0 x0) (o0 : okF x0) (v1 : Value) (x1 : FactV) (m1 : AF w 0 w.heap.size v1 x1) (o1 : okF x1) (v2 : Value) (x2 : List (ByteArray × ByteArray)) (m2 : SP w 0 w.heap.size v2 x2) (o2 : okPs x2) :
    Calls Try.prog 9 #[v0, v1, v2] w fun e w' => e = .returned (.bool true) ∧ Below w.heap.size w w' := by
  have M0 := Lib.hid (show Ob AF w 0 w.heap.size v0 x0 from ⟨m0, Nat.le_refl _⟩)
  have M1 := Lib.hid (show Ob AF w 0 w.heap.size v1 x1 from ⟨m1, Nat.le_refl _⟩)
  have M2 := Lib.hid (show Ob SP w 0 w.heap.size v2 x2 from ⟨m2, Nat.le_refl _⟩)
  obtain ⟨a0, c0, rfl⟩ := AF.form m0
  obtain ⟨a1, c1, rfl⟩ := AF.form m1
  clear m0
  clear m1
  clear m2
  have hb0 : Up w ((w.alloc (.cells #[.string x0.rel, .slice a0 x0.args.length c0] 24)).alloc (.cells #[.string x1.rel, .slice a1 x1.args.length c1] 88)) := ((Up.rf w).al _).al _
  have hk0 : Blk ((w.alloc (.cells #[.string x0.rel, .slice a0 x0.args.length c0] 24)).alloc (.cells #[.string x1.rel, .slice a1 x1.args.length c1] 88)) (w.heap.size) 24 #[.string x0.rel, .slice a0 x0.args.length c0] := by
    have := ((Blk.new w 24 #[.string x0.rel, .slice a0 x0.args.length c0]).alloc (.cells #[.string x1.rel, .slice a1 x1.args.length c1] 88))
    simpa using this
  have K0 := Lib.hid hk0
  have hk1 : Blk ((w.alloc (.cells #[.string x0.rel, .slice a0 x0.args.length c0] 24)).alloc (.cells #[.string x1.rel, .slice a1 x1.args.length c1] 88)) (w.heap.size + 1) 88 #[.string x1.rel, .slice a1 x1.args.length c1] := by
    have := (Blk.new (w.alloc (.cells #[.string x0.rel, .slice a0 x0.args.length c0] 24)) 88 #[.string x1.rel, .slice a1 x1.args.length c1])
    simpa using this
  have K1 := Lib.hid hk1
  have hzW : w.heap.size + 2 ≤ ((w.alloc (.cells #[.string x0.rel, .slice a0 x0.args.length c0] 24)).alloc (.cells #[.string x1.rel, .slice a1 x1.args.length c1] 88)).heap.size := by simp
  replace M0 := Lib.hid (M0.out.up hb0)
  replace M1 := Lib.hid (M1.out.up hb0)
  replace M2 := Lib.hid (M2.out.up hb0)
  have B := Lib.hid hb0
  clear hb0 hk0 hk1
  go_enter Try.func9, Try.ntmps9
  go_wp2_with fail
  generalize ((w.alloc (.cells #[.string x0.rel, .slice a0 x0.args.length c0] 24)).alloc (.cells #[.string x1.rel, .slice a1 x1.args.length c1] 88)) = W0 at *
  have q1 : W0.cell? ⟨w.heap.size, 0, none⟩ = some (.string x0.rel) := (K0.out.cell 0).trans rfl
  have q2 : W0.cell? ⟨w.heap.size, 1, none⟩ = some (.slice a0 x0.args.length c0) := (K0.out.cell 1).trans rfl
  go_wp2_with fail
  clear q1 q2
  refine (csz_pat ((M0.out)) o0 (by omega) (by omega)).mono ?_
  rintro e W3 ⟨rfl, b4⟩
  have s5 : W0.heap.size ≤ W3.heap.size := b4.size
  replace M0 := Lib.hid (M0.out.up b4)
  replace M1 := Lib.hid (M1.out.up b4)
  replace M2 := Lib.hid (M2.out.up b4)
  replace K0 := Lib.hid (K0.out.up b4)
  replace K1 := Lib.hid (K1.out.up b4)
  replace B := Lib.hid (Up.tr B.out b4)
  clear b4
  by_cases hl0 : ((fsz x0 : Nat) : Int) ≤ 1048576
  · skip
    rw [szv_pos hl0]
    have hz0 : fsz x0 ≤ 1048576 := by omega
    have q6 : W3.cell? ⟨w.heap.size + 1, 0, none⟩ = some (.string x1.rel) := (K1.out.cell 0).trans rfl
    have q7 : W3.cell? ⟨w.heap.size + 1, 1, none⟩ = some (.slice a1 x1.args.length c1) := (K1.out.cell 1).trans rfl
    go_wp2_with fail
    clear q6 q7
    refine (csz_fact ((M1.out)) o1 (by omega) (by omega)).mono ?_
    rintro e W8 ⟨rfl, b9⟩
    have s10 : W3.heap.size ≤ W8.heap.size := b9.size
    replace M0 := Lib.hid (M0.out.up b9)
    replace M1 := Lib.hid (M1.out.up b9)
    replace M2 := Lib.hid (M2.out.up b9)
    replace K0 := Lib.hid (K0.out.up b9)
    replace K1 := Lib.hid (K1.out.up b9)
    replace B := Lib.hid (Up.tr B.out b9)
    clear b9
    by_cases hl1 : ((fsz x1 : Nat) : Int) ≤ 1048576 - (fsz x0 : Nat)
    · skip
      rw [szv_pos hl1]
      have hz1 : fsz x1 ≤ 1048576 := by omega
      go_wp2_with fail
      refine (csz_pairs ((M2.out)) o2 (by omega) (by omega)).mono ?_
      rintro e W11 ⟨rfl, b12⟩
      have s13 : W8.heap.size ≤ W11.heap.size := b12.size
      replace M0 := Lib.hid (M0.out.up b12)
      replace M1 := Lib.hid (M1.out.up b12)
      replace M2 := Lib.hid (M2.out.up b12)
      replace K0 := Lib.hid (K0.out.up b12)
      replace K1 := Lib.hid (K1.out.up b12)
      replace B := Lib.hid (Up.tr B.out b12)
      clear b12
      by_cases hl2 : ((psz x2 : Nat) : Int) ≤ 1048576 - (fsz x0 : Nat) - (fsz x1 : Nat)
      · skip
        rw [szv_pos hl2]
        have hz2 : psz x2 ≤ 1048576 := by omega
        go_wp2_with fail
        have q14 : W11.cell? ⟨w.heap.size, 0, none⟩ = some (.string x0.rel) := (K0.out.cell 0).trans rfl
        have q15 : W11.cell? ⟨w.heap.size, 1, none⟩ = some (.slice a0 x0.args.length c0) := (K0.out.cell 1).trans rfl
        have q16 : W11.cell? ⟨w.heap.size + 1, 0, none⟩ = some (.string x1.rel) := (K1.out.cell 0).trans rfl
        have q17 : W11.cell? ⟨w.heap.size + 1, 1, none⟩ = some (.slice a1 x1.args.length c1) := (K1.out.cell 1).trans rfl
        go_region_held3 (fun w' => w'.cell? ⟨w.heap.size, 0, none⟩ = some (.string x0.rel) ∧ w'.cell? ⟨w.heap.size, 1, none⟩ = some (.slice a0 x0.args.length c0) ∧ w'.cell? ⟨w.heap.size + 1, 0, none⟩ = some (.string x1.rel) ∧ w'.cell? ⟨w.heap.size + 1, 1, none⟩ = some (.slice a1 x1.args.length c1) ∧ Up W11 w')
          (first | exact ⟨q14, q15, q16, q17, Up.dr (Up.rf _)⟩ | (have hh := ‹_ ∧ _ ∧ _ ∧ _ ∧ Up W11 _›; have hb := ‹Up _ _›; exact ⟨keepCell hb hh.1, keepCell hb hh.2.1, keepCell hb hh.2.2.1, keepCell hb hh.2.2.2.1, Up.tr hh.2.2.2.2 hb⟩))
          (first
            | (go_at_call 48; (with_reducible refine (cto_pat ((M0.out.up (‹_ ∧ _ ∧ _ ∧ _ ∧ Up W11 _›).2.2.2.2)) hz0).mono ?_); rintro e W18 ⟨u21, rfl, hN20, b19⟩)
            | (go_at_call 57; (with_reducible refine (cto_fact ((M1.out.up (‹_ ∧ _ ∧ _ ∧ _ ∧ Up W11 _›).2.2.2.2)) hz1).mono ?_); rintro e W22 ⟨u25, rfl, hN24, b23⟩)
            | (go_at_call 19; (with_reducible refine (cto_pairs ((M2.out.up (‹_ ∧ _ ∧ _ ∧ _ ∧ Up W11 _›).2.2.2.2)) hz2).mono ?_); rintro e W26 ⟨u29, rfl, hN28, b27⟩)
            | (go_at_call 56; (with_reducible refine (cMatchS ((((hN20).up b23).up b27).af) (((hN24).up b27).af) ((hN28).sp) hz0 hz1 hz2).mono ?_); rintro e W30 ⟨u33, rfl, hN32, b31⟩))
        have b34 := (‹_ ∧ _ ∧ _ ∧ _ ∧ Up W11 _›).2.2.2.2
        have s35 : W11.heap.size ≤ W18.heap.size := b19.size
        have s36 : W18.heap.size ≤ W22.heap.size := b23.size
        have s37 : W22.heap.size ≤ W26.heap.size := b27.size
        have s38 : W26.heap.size ≤ W30.heap.size := b31.size
        have N32 := Lib.hid (hN32)
        replace M0 := Lib.hid (M0.out.up b34)
        replace M1 := Lib.hid (M1.out.up b34)
        replace M2 := Lib.hid (M2.out.up b34)
        replace K0 := Lib.hid (K0.out.up b34)
        replace K1 := Lib.hid (K1.out.up b34)
        replace B := Lib.hid (Up.tr B.out b34)
        clear q14 q15 q16 q17 b34
        clear hN32 hN28 hN24 hN20
        clear b31 b27 b23 b19
        have q39 : W30.cell? ⟨w.heap.size, 0, none⟩ = some (.string x0.rel) := (K0.out.cell 0).trans rfl
        have q40 : W30.cell? ⟨w.heap.size, 1, none⟩ = some (.slice a0 x0.args.length c0) := (K0.out.cell 1).trans rfl
        go_wp2_with fail
        clear q39 q40
        refine (cto_pat ((M0.out)) hz0).mono ?_
        rintro e W41 ⟨u45, rfl, hN44, b42⟩
        have s43 : W30.heap.size ≤ W41.heap.size := b42.size
        obtain ⟨a46, c47, rfl⟩ := hN44.1.form
        have N44 := Lib.hid hN44
        clear hN44
        replace M0 := Lib.hid (M0.out.up b42)
        replace M1 := Lib.hid (M1.out.up b42)
        replace M2 := Lib.hid (M2.out.up b42)
        replace N32 := Lib.hid (N32.out.up b42)
        replace K0 := Lib.hid (K0.out.up b42)
        replace K1 := Lib.hid (K1.out.up b42)
        replace B := Lib.hid (Up.tr B.out b42)
        clear b42
        have q49 : (W41.alloc (.cells #[.string x0.rel, .slice a46 x0.args.length c47] 30)).cell? ⟨w.heap.size + 1, 0, none⟩ = some (.string x1.rel) := ((K1.out.up (Up.al1 _ _)).cell 0).trans rfl
        have q50 : (W41.alloc (.cells #[.string x0.rel, .slice a46 x0.args.length c47] 30)).cell? ⟨w.heap.size + 1, 1, none⟩ = some (.slice a1 x1.args.length c1) := ((K1.out.up (Up.al1 _ _)).cell 1).trans rfl
        go_wp2_with fail
        clear q49 q50
        have b52 : Up W41 (W41.alloc (.cells #[.string x0.rel, .slice a46 x0.args.length c47] 30)) := Up.al1 _ _
        have hK48 : Blk (W41.alloc (.cells #[.string x0.rel, .slice a46 x0.args.length c47] 30)) W41.heap.size 30 #[.string x0.rel, .slice a46 x0.args.length c47] := Blk.new _ _ _
        have s53 : W41.heap.size + 1 ≤ (W41.alloc (.cells #[.string x0.rel, .slice a46 x0.args.length c47] 30)).heap.size := by simp
        have K48 := Lib.hid hK48
        clear hK48
        generalize (W41.alloc (.cells #[.string x0.rel, .slice a46 x0.args.length c47] 30)) = W51 at *
        replace M0 := Lib.hid (M0.out.up b52)
        replace M1 := Lib.hid (M1.out.up b52)
        replace M2 := Lib.hid (M2.out.up b52)
        replace N32 := Lib.hid (N32.out.up b52)
        replace N44 := Lib.hid (N44.out.up b52)
        replace K0 := Lib.hid (K0.out.up b52)
        replace K1 := Lib.hid (K1.out.up b52)
        replace B := Lib.hid (Up.tr B.out b52)
        clear b52
        refine (cto_fact ((M1.out)) hz1).mono ?_
        rintro e W54 ⟨u58, rfl, hN57, b55⟩
        have s56 : W51.heap.size ≤ W54.heap.size := b55.size
        obtain ⟨a59, c60, rfl⟩ := hN57.1.form
        have N57 := Lib.hid hN57
        clear hN57
        replace M0 := Lib.hid (M0.out.up b55)
        replace M1 := Lib.hid (M1.out.up b55)
        replace M2 := Lib.hid (M2.out.up b55)
        replace N32 := Lib.hid (N32.out.up b55)
        replace N44 := Lib.hid (N44.out.up b55)
        replace K0 := Lib.hid (K0.out.up b55)
        replace K1 := Lib.hid (K1.out.up b55)
        replace K48 := Lib.hid (K48.out.up b55)
        replace B := Lib.hid (Up.tr B.out b55)
        clear b55
        go_wp2_with fail
        have b63 : Up W54 (W54.alloc (.cells #[.string x1.rel, .slice a59 x1.args.length c60] 79)) := Up.al1 _ _
        have hK61 : Blk (W54.alloc (.cells #[.string x1.rel, .slice a59 x1.args.length c60] 79)) W54.heap.size 79 #[.string x1.rel, .slice a59 x1.args.length c60] := Blk.new _ _ _
        have s64 : W54.heap.size + 1 ≤ (W54.alloc (.cells #[.string x1.rel, .slice a59 x1.args.length c60] 79)).heap.size := by simp
        have K61 := Lib.hid hK61
        clear hK61
        generalize (W54.alloc (.cells #[.string x1.rel, .slice a59 x1.args.length c60] 79)) = W62 at *
        replace M0 := Lib.hid (M0.out.up b63)
        replace M1 := Lib.hid (M1.out.up b63)
        replace M2 := Lib.hid (M2.out.up b63)
        replace N32 := Lib.hid (N32.out.up b63)
        replace N44 := Lib.hid (N44.out.up b63)
        replace N57 := Lib.hid (N57.out.up b63)
        replace K0 := Lib.hid (K0.out.up b63)
        replace K1 := Lib.hid (K1.out.up b63)
        replace K48 := Lib.hid (K48.out.up b63)
        replace B := Lib.hid (Up.tr B.out b63)
        clear b63
        refine (cto_pairs ((M2.out)) hz2).mono ?_
        rintro e W65 ⟨u69, rfl, hN68, b66⟩
        have s67 : W62.heap.size ≤ W65.heap.size := b66.size
        have N68 := Lib.hid hN68
        clear hN68
        replace M0 := Lib.hid (M0.out.up b66)
        replace M1 := Lib.hid (M1.out.up b66)
        replace M2 := Lib.hid (M2.out.up b66)
        replace N32 := Lib.hid (N32.out.up b66)
        replace N44 := Lib.hid (N44.out.up b66)
        replace N57 := Lib.hid (N57.out.up b66)
        replace K0 := Lib.hid (K0.out.up b66)
        replace K1 := Lib.hid (K1.out.up b66)
        replace K48 := Lib.hid (K48.out.up b66)
        replace K61 := Lib.hid (K61.out.up b66)
        replace B := Lib.hid (Up.tr B.out b66)
        clear b66
        have q70 : W65.cell? ⟨W41.heap.size, 0, none⟩ = some (.string x0.rel) := (K48.out.cell 0).trans rfl
        have q71 : W65.cell? ⟨W41.heap.size, 1, none⟩ = some (.slice a46 x0.args.length c47) := (K48.out.cell 1).trans rfl
        have q72 : W65.cell? ⟨W54.heap.size, 0, none⟩ = some (.string x1.rel) := (K61.out.cell 0).trans rfl
        have q73 : W65.cell? ⟨W54.heap.size, 1, none⟩ = some (.slice a59 x1.args.length c60) := (K61.out.cell 1).trans rfl
        go_wp2_with fail
        clear q70 q71 q72 q73
        refine (cMatch ((N44.out).af) ((N57.out).af) ((N68.out).sp) hz0 hz1 hz2).mono ?_
        rintro e W74 ⟨u78, rfl, hN77, b75⟩
        have s76 : W65.heap.size ≤ W74.heap.size := b75.size
        have N77 := Lib.hid hN77
        clear hN77
        have z79 : psz (oL (mtV x0 x1 x2)) ≤ 4194304 := zr_le (oL_mt_psz x0 x1 x2) (by omega)
        replace M0 := Lib.hid (M0.out.up b75)
        replace M1 := Lib.hid (M1.out.up b75)
        replace M2 := Lib.hid (M2.out.up b75)
        replace N32 := Lib.hid (N32.out.up b75)
        replace N44 := Lib.hid (N44.out.up b75)
        replace N57 := Lib.hid (N57.out.up b75)
        replace N68 := Lib.hid (N68.out.up b75)
        replace K0 := Lib.hid (K0.out.up b75)
        replace K1 := Lib.hid (K1.out.up b75)
        replace K48 := Lib.hid (K48.out.up b75)
        replace K61 := Lib.hid (K61.out.up b75)
        replace B := Lib.hid (Up.tr B.out b75)
        clear b75
        go_wp2_with fail
        refine (ceq_pairs ((N77.out).sp) ((N32.out).sp) ).mono ?_
        rintro e W80 ⟨rfl, b81⟩
        have s82 : W74.heap.size ≤ W80.heap.size := b81.size
        replace M0 := Lib.hid (M0.out.up b81)
        replace M1 := Lib.hid (M1.out.up b81)
        replace M2 := Lib.hid (M2.out.up b81)
        replace N32 := Lib.hid (N32.out.up b81)
        replace N44 := Lib.hid (N44.out.up b81)
        replace N57 := Lib.hid (N57.out.up b81)
        replace N68 := Lib.hid (N68.out.up b81)
        replace N77 := Lib.hid (N77.out.up b81)
        replace K0 := Lib.hid (K0.out.up b81)
        replace K1 := Lib.hid (K1.out.up b81)
        replace K48 := Lib.hid (K48.out.up b81)
        replace K61 := Lib.hid (K61.out.up b81)
        replace B := Lib.hid (Up.tr B.out b81)
        clear b81
        go_wp2_with fail
        have q83 : W80.cell? ⟨W41.heap.size, 0, none⟩ = some (.string x0.rel) := (K48.out.cell 0).trans rfl
        have q84 : W80.cell? ⟨W41.heap.size, 1, none⟩ = some (.slice a46 x0.args.length c47) := (K48.out.cell 1).trans rfl
        have q85 : W80.cell? ⟨w.heap.size, 0, none⟩ = some (.string x0.rel) := (K0.out.cell 0).trans rfl
        have q86 : W80.cell? ⟨w.heap.size, 1, none⟩ = some (.slice a0 x0.args.length c0) := (K0.out.cell 1).trans rfl
        go_region_held3 (fun w' => w'.cell? ⟨W41.heap.size, 0, none⟩ = some (.string x0.rel) ∧ w'.cell? ⟨W41.heap.size, 1, none⟩ = some (.slice a46 x0.args.length c47) ∧ w'.cell? ⟨w.heap.size, 0, none⟩ = some (.string x0.rel) ∧ w'.cell? ⟨w.heap.size, 1, none⟩ = some (.slice a0 x0.args.length c0) ∧ Up W80 w')
          (first | exact ⟨q83, q84, q85, q86, Up.dr (Up.rf _)⟩ | (have hh := ‹_ ∧ _ ∧ _ ∧ _ ∧ Up W80 _›; have hb := ‹Up _ _›; exact ⟨keepCell hb hh.1, keepCell hb hh.2.1, keepCell hb hh.2.2.1, keepCell hb hh.2.2.2.1, Up.tr hh.2.2.2.2 hb⟩))
          (first
            | (go_at_call 48; (with_reducible refine (cto_pat ((M0.out.up (‹_ ∧ _ ∧ _ ∧ _ ∧ Up W80 _›).2.2.2.2)) hz0).mono ?_); rintro e W87 ⟨u90, rfl, hN89, b88⟩)
            | (go_at_call 51; (with_reducible refine (ceq_pat ((N44.out.up (‹_ ∧ _ ∧ _ ∧ _ ∧ Up W80 _›).2.2.2.2).af) ((hN89).af) ).mono ?_); rintro e W91 ⟨rfl, b92⟩))
        have b93 := (‹_ ∧ _ ∧ _ ∧ _ ∧ Up W80 _›).2.2.2.2
        have s94 : W80.heap.size ≤ W87.heap.size := b88.size
        have s95 : W87.heap.size ≤ W91.heap.size := b92.size
        replace M0 := Lib.hid (M0.out.up b93)
        replace M1 := Lib.hid (M1.out.up b93)
        replace M2 := Lib.hid (M2.out.up b93)
        replace N32 := Lib.hid (N32.out.up b93)
        replace N44 := Lib.hid (N44.out.up b93)
        replace N57 := Lib.hid (N57.out.up b93)
        replace N68 := Lib.hid (N68.out.up b93)
        replace N77 := Lib.hid (N77.out.up b93)
        replace K0 := Lib.hid (K0.out.up b93)
        replace K1 := Lib.hid (K1.out.up b93)
        replace K48 := Lib.hid (K48.out.up b93)
        replace K61 := Lib.hid (K61.out.up b93)
        replace B := Lib.hid (Up.tr B.out b93)
        clear q83 q84 q85 q86 b93
        clear hN89
        clear b92 b88
        go_wp2_with fail
        have q96 : W91.cell? ⟨W54.heap.size, 0, none⟩ = some (.string x1.rel) := (K61.out.cell 0).trans rfl
        have q97 : W91.cell? ⟨W54.heap.size, 1, none⟩ = some (.slice a59 x1.args.length c60) := (K61.out.cell 1).trans rfl
        have q98 : W91.cell? ⟨w.heap.size + 1, 0, none⟩ = some (.string x1.rel) := (K1.out.cell 0).trans rfl
        have q99 : W91.cell? ⟨w.heap.size + 1, 1, none⟩ = some (.slice a1 x1.args.length c1) := (K1.out.cell 1).trans rfl
        go_region_held3 (fun w' => w'.cell? ⟨W54.heap.size, 0, none⟩ = some (.string x1.rel) ∧ w'.cell? ⟨W54.heap.size, 1, none⟩ = some (.slice a59 x1.args.length c60) ∧ w'.cell? ⟨w.heap.size + 1, 0, none⟩ = some (.string x1.rel) ∧ w'.cell? ⟨w.heap.size + 1, 1, none⟩ = some (.slice a1 x1.args.length c1) ∧ Up W91 w')
          (first | exact ⟨q96, q97, q98, q99, Up.dr (Up.rf _)⟩ | (have hh := ‹_ ∧ _ ∧ _ ∧ _ ∧ Up W91 _›; have hb := ‹Up _ _›; exact ⟨keepCell hb hh.1, keepCell hb hh.2.1, keepCell hb hh.2.2.1, keepCell hb hh.2.2.2.1, Up.tr hh.2.2.2.2 hb⟩))
          (first
            | (go_at_call 57; (with_reducible refine (cto_fact ((M1.out.up (‹_ ∧ _ ∧ _ ∧ _ ∧ Up W91 _›).2.2.2.2)) hz1).mono ?_); rintro e W100 ⟨u103, rfl, hN102, b101⟩)
            | (go_at_call 50; (with_reducible refine (ceq_fact ((N57.out.up (‹_ ∧ _ ∧ _ ∧ _ ∧ Up W91 _›).2.2.2.2).af) ((hN102).af) ).mono ?_); rintro e W104 ⟨rfl, b105⟩))
        have b106 := (‹_ ∧ _ ∧ _ ∧ _ ∧ Up W91 _›).2.2.2.2
        have s107 : W91.heap.size ≤ W100.heap.size := b101.size
        have s108 : W100.heap.size ≤ W104.heap.size := b105.size
        replace M0 := Lib.hid (M0.out.up b106)
        replace M1 := Lib.hid (M1.out.up b106)
        replace M2 := Lib.hid (M2.out.up b106)
        replace N32 := Lib.hid (N32.out.up b106)
        replace N44 := Lib.hid (N44.out.up b106)
        replace N57 := Lib.hid (N57.out.up b106)
        replace N68 := Lib.hid (N68.out.up b106)
        replace N77 := Lib.hid (N77.out.up b106)
        replace K0 := Lib.hid (K0.out.up b106)
        replace K1 := Lib.hid (K1.out.up b106)
        replace K48 := Lib.hid (K48.out.up b106)
        replace K61 := Lib.hid (K61.out.up b106)
        replace B := Lib.hid (Up.tr B.out b106)
        clear q96 q97 q98 q99 b106
        clear hN102
        clear b105 b101
        go_wp2_with fail
        refine (cto_pairs ((M2.out)) hz2).mono ?_
        rintro e W109 ⟨u113, rfl, hN112, b110⟩
        have s111 : W104.heap.size ≤ W109.heap.size := b110.size
        have N112 := Lib.hid hN112
        clear hN112
        replace M0 := Lib.hid (M0.out.up b110)
        replace M1 := Lib.hid (M1.out.up b110)
        replace M2 := Lib.hid (M2.out.up b110)
        replace N32 := Lib.hid (N32.out.up b110)
        replace N44 := Lib.hid (N44.out.up b110)
        replace N57 := Lib.hid (N57.out.up b110)
        replace N68 := Lib.hid (N68.out.up b110)
        replace N77 := Lib.hid (N77.out.up b110)
        replace K0 := Lib.hid (K0.out.up b110)
        replace K1 := Lib.hid (K1.out.up b110)
        replace K48 := Lib.hid (K48.out.up b110)
        replace K61 := Lib.hid (K61.out.up b110)
        replace B := Lib.hid (Up.tr B.out b110)
        clear b110
        go_wp2_with fail
        refine (ceq_pairs ((N68.out).sp) ((N112.out).sp) ).mono ?_
        rintro e W114 ⟨rfl, b115⟩
        have s116 : W109.heap.size ≤ W114.heap.size := b115.size
        clear N112
        replace M0 := Lib.hid (M0.out.up b115)
        replace M1 := Lib.hid (M1.out.up b115)
        replace M2 := Lib.hid (M2.out.up b115)
        replace N32 := Lib.hid (N32.out.up b115)
        replace N44 := Lib.hid (N44.out.up b115)
        replace N57 := Lib.hid (N57.out.up b115)
        replace N68 := Lib.hid (N68.out.up b115)
        replace N77 := Lib.hid (N77.out.up b115)
        replace K0 := Lib.hid (K0.out.up b115)
        replace K1 := Lib.hid (K1.out.up b115)
        replace K48 := Lib.hid (K48.out.up b115)
        replace K61 := Lib.hid (K61.out.up b115)
        replace B := Lib.hid (Up.tr B.out b115)
        clear b115
        have q117 : W114.cell? ⟨W41.heap.size, 0, none⟩ = some (.string x0.rel) := (K48.out.cell 0).trans rfl
        have q118 : W114.cell? ⟨W41.heap.size, 1, none⟩ = some (.slice a46 x0.args.length c47) := (K48.out.cell 1).trans rfl
        go_wp2_with fail
        clear q117 q118
        have cb122 := ctF_le (x := x0) (by omega)
        refine (cmk_pat (N44.out) (k := 1) (by omega) (by omega)).mono ?_
        rintro e W119 ⟨rfl, h123, c124⟩
        have s121 : W114.heap.size ≤ W119.heap.size := c124.size
        have i125 : (0 : Int) ≤ ((1 + ctF (x0) : Nat) : Int) := by omega
        clear N44
        clear K48
        replace M0 := Lib.hid (M0.out.chg c124 (by omega))
        replace M1 := Lib.hid (M1.out.chg c124 (by omega))
        replace M2 := Lib.hid (M2.out.chg c124 (by omega))
        replace N32 := Lib.hid (N32.out.chg c124 (by omega))
        replace N57 := Lib.hid (N57.out.chg c124 (by omega))
        replace N68 := Lib.hid (N68.out.chg c124 (by omega))
        replace N77 := Lib.hid (N77.out.chg c124 (by omega))
        replace K0 := Lib.hid (K0.out.chg c124 (by omega))
        replace K1 := Lib.hid (K1.out.chg c124 (by omega))
        replace K61 := Lib.hid (K61.out.chg c124 (by omega))
        replace B := Lib.hid (c124.below B.out (by omega) (by have := B.out.size; omega))
        clear h123
        clear c124
        have q126 : W119.cell? ⟨W54.heap.size, 0, none⟩ = some (.string x1.rel) := (K61.out.cell 0).trans rfl
        have q127 : W119.cell? ⟨W54.heap.size, 1, none⟩ = some (.slice a59 x1.args.length c60) := (K61.out.cell 1).trans rfl
        go_wp2_with fail
        clear q126 q127
        have cb131 := ctF_le (x := x1) (by omega)
        refine (cmk_fact (N57.out) (k := (1 + ctF (x0))) (by omega) (by omega)).mono ?_
        rintro e W128 ⟨rfl, h132, c133⟩
        have s130 : W119.heap.size ≤ W128.heap.size := c133.size
        have i134 : (0 : Int) ≤ (((1 + ctF (x0)) + ctF (x1) : Nat) : Int) := by omega
        clear N57
        clear K61
        replace M0 := Lib.hid (M0.out.chg c133 (by omega))
        replace M1 := Lib.hid (M1.out.chg c133 (by omega))
        replace M2 := Lib.hid (M2.out.chg c133 (by omega))
        replace N32 := Lib.hid (N32.out.chg c133 (by omega))
        replace N68 := Lib.hid (N68.out.chg c133 (by omega))
        replace N77 := Lib.hid (N77.out.chg c133 (by omega))
        replace K0 := Lib.hid (K0.out.chg c133 (by omega))
        replace K1 := Lib.hid (K1.out.chg c133 (by omega))
        replace B := Lib.hid (c133.below B.out (by omega) (by have := B.out.size; omega))
        clear h132
        clear c133
        go_wp2_with fail
        have cb138 := ctP_le (x := x2) (by omega)
        refine (cmk_pairs (N68.out) (k0 := ((1 + ctF (x0)) + ctF (x1))) (by omega) (by omega)).mono ?_
        rintro e W135 ⟨rfl, h139, c140⟩
        have s137 : W128.heap.size ≤ W135.heap.size := c140.size
        have i141 : (0 : Int) ≤ ((((1 + ctF (x0)) + ctF (x1)) + ctP (x2) : Nat) : Int) := by omega
        clear N68
        replace M0 := Lib.hid (M0.out.chg c140 (by omega))
        replace M1 := Lib.hid (M1.out.chg c140 (by omega))
        replace M2 := Lib.hid (M2.out.chg c140 (by omega))
        replace N32 := Lib.hid (N32.out.chg c140 (by omega))
        replace N77 := Lib.hid (N77.out.chg c140 (by omega))
        replace K0 := Lib.hid (K0.out.chg c140 (by omega))
        replace K1 := Lib.hid (K1.out.chg c140 (by omega))
        replace B := Lib.hid (c140.below B.out (by omega) (by have := B.out.size; omega))
        clear h139
        clear c140
        go_wp2_with fail
        refine (ceq_pairs ((N77.out).sp) ((N32.out).sp) ).mono ?_
        rintro e W142 ⟨rfl, b143⟩
        have s144 : W135.heap.size ≤ W142.heap.size := b143.size
        replace M0 := Lib.hid (M0.out.up b143)
        replace M1 := Lib.hid (M1.out.up b143)
        replace M2 := Lib.hid (M2.out.up b143)
        replace N32 := Lib.hid (N32.out.up b143)
        replace N77 := Lib.hid (N77.out.up b143)
        replace K0 := Lib.hid (K0.out.up b143)
        replace K1 := Lib.hid (K1.out.up b143)
        replace B := Lib.hid (Up.tr B.out b143)
        clear b143
        go_wp2_with fail
        have cb148 := ctP_le (x := (oL (mtV x0 x1 x2))) (by omega)
        refine (cmk_pairs (N77.out) (k0 := 1) (by omega) (by omega)).mono ?_
        rintro e W145 ⟨rfl, h149, c150⟩
        have s147 : W142.heap.size ≤ W145.heap.size := c150.size
        have i151 : (0 : Int) ≤ ((1 + ctP ((oL (mtV x0 x1 x2))) : Nat) : Int) := by omega
        replace M0 := Lib.hid (M0.out.chg c150 (by omega))
        replace M1 := Lib.hid (M1.out.chg c150 (by omega))
        replace M2 := Lib.hid (M2.out.chg c150 (by omega))
        replace N32 := Lib.hid (N32.out.chg c150 (by omega))
        replace K0 := Lib.hid (K0.out.chg c150 (by omega))
        replace K1 := Lib.hid (K1.out.chg c150 (by omega))
        replace B := Lib.hid (c150.below B.out (by omega) (by have := B.out.size; omega))
        replace N77 := Lib.hid h149
        clear h149
        clear c150
        go_wp2_with fail
        refine (chd_pairs ((N77.out).sp) (by omega) (by have := ctP_le (x := (oL (mtV x0 x1 x2))) (by omega); omega)).mono ?_
        rintro e W152 ⟨rfl, b153⟩
        have s154 : W145.heap.size ≤ W152.heap.size := b153.size
        have i155 : (0 : Int) ≤ ((1 + ctP ((oL (mtV x0 x1 x2))) : Nat) : Int) := by omega
        replace M0 := Lib.hid (M0.out.up b153)
        replace M1 := Lib.hid (M1.out.up b153)
        replace M2 := Lib.hid (M2.out.up b153)
        replace N32 := Lib.hid (N32.out.up b153)
        replace N77 := Lib.hid (N77.out.up b153)
        replace K0 := Lib.hid (K0.out.up b153)
        replace K1 := Lib.hid (K1.out.up b153)
        replace B := Lib.hid (Up.tr B.out b153)
        clear b153
        go_wp2_with fail
        have q156 : W152.cell? ⟨w.heap.size, 0, none⟩ = some (.string x0.rel) := (K0.out.cell 0).trans rfl
        have q157 : W152.cell? ⟨w.heap.size, 1, none⟩ = some (.slice a0 x0.args.length c0) := (K0.out.cell 1).trans rfl
        have q158 : W152.cell? ⟨w.heap.size + 1, 0, none⟩ = some (.string x1.rel) := (K1.out.cell 0).trans rfl
        have q159 : W152.cell? ⟨w.heap.size + 1, 1, none⟩ = some (.slice a1 x1.args.length c1) := (K1.out.cell 1).trans rfl
        go_region_held3 (fun w' => w'.cell? ⟨w.heap.size, 0, none⟩ = some (.string x0.rel) ∧ w'.cell? ⟨w.heap.size, 1, none⟩ = some (.slice a0 x0.args.length c0) ∧ w'.cell? ⟨w.heap.size + 1, 0, none⟩ = some (.string x1.rel) ∧ w'.cell? ⟨w.heap.size + 1, 1, none⟩ = some (.slice a1 x1.args.length c1) ∧ Up W152 w')
          (first | exact ⟨q156, q157, q158, q159, Up.dr (Up.rf _)⟩ | (have hh := ‹_ ∧ _ ∧ _ ∧ _ ∧ Up W152 _›; have hb := ‹Up _ _›; exact ⟨keepCell hb hh.1, keepCell hb hh.2.1, keepCell hb hh.2.2.1, keepCell hb hh.2.2.2.1, Up.tr hh.2.2.2.2 hb⟩))
          (first
            | (go_at_call 48; (with_reducible refine (cto_pat ((M0.out.up (‹_ ∧ _ ∧ _ ∧ _ ∧ Up W152 _›).2.2.2.2)) hz0).mono ?_); rintro e W160 ⟨u163, rfl, hN162, b161⟩)
            | (go_at_call 57; (with_reducible refine (cto_fact ((M1.out.up (‹_ ∧ _ ∧ _ ∧ _ ∧ Up W152 _›).2.2.2.2)) hz1).mono ?_); rintro e W164 ⟨u167, rfl, hN166, b165⟩)
            | (go_at_call 19; (with_reducible refine (cto_pairs ((M2.out.up (‹_ ∧ _ ∧ _ ∧ _ ∧ Up W152 _›).2.2.2.2)) hz2).mono ?_); rintro e W168 ⟨u171, rfl, hN170, b169⟩)
            | (go_at_call 58; (with_reducible refine (cMatch ((((hN162).up b165).up b169).af) (((hN166).up b169).af) ((hN170).sp) hz0 hz1 hz2).mono ?_); rintro e W172 ⟨u175, rfl, hN174, b173⟩))
        have b176 := (‹_ ∧ _ ∧ _ ∧ _ ∧ Up W152 _›).2.2.2.2
        have s177 : W152.heap.size ≤ W160.heap.size := b161.size
        have s178 : W160.heap.size ≤ W164.heap.size := b165.size
        have s179 : W164.heap.size ≤ W168.heap.size := b169.size
        have s180 : W168.heap.size ≤ W172.heap.size := b173.size
        have N174 := Lib.hid (hN174)
        clear M0
        clear M1
        clear M2
        clear K0
        clear K1
        replace N32 := Lib.hid (N32.out.up b176)
        replace N77 := Lib.hid (N77.out.up b176)
        replace B := Lib.hid (Up.tr B.out b176)
        clear q156 q157 q158 q159 b176
        clear hN174 hN170 hN166 hN162
        clear b173 b169 b165 b161
        go_wp2_with fail
        refine (ceq_pairs ((N174.out).sp) ((N32.out).sp) ).mono ?_
        rintro e W181 ⟨rfl, b182⟩
        have s183 : W172.heap.size ≤ W181.heap.size := b182.size
        clear N32
        clear N174
        replace N77 := Lib.hid (N77.out.up b182)
        replace B := Lib.hid (Up.tr B.out b182)
        clear b182
        go_wp2_with fail
        refine (chd_pairs ((N77.out).sp) (by omega) (by have := ctP_le (x := (oL (mtV x0 x1 x2))) (by omega); omega)).mono ?_
        rintro e W184 ⟨rfl, b185⟩
        have s186 : W181.heap.size ≤ W184.heap.size := b185.size
        have i187 : (0 : Int) ≤ ((1 + ctP ((oL (mtV x0 x1 x2))) : Nat) : Int) := by omega
        clear N77
        replace B := Lib.hid (Up.tr B.out b185)
        clear b185
        go_wp2_with fail
        go_ret
        exact ⟨rfl, B.out⟩
      · have hn : szv (1048576 - (fsz x0 : Nat) - (fsz x1 : Nat)) (psz x2) < 0 := by rw [szv_neg (by omega)]; omega
        go_wp2_with fail
        go_ret
        exact ⟨rfl, B.out⟩
    · have hn : szv (1048576 - (fsz x0 : Nat)) (fsz x1) < 0 := by rw [szv_neg (by omega)]; omega
      go_wp2_with fail
      go_ret
      exact ⟨rfl, B.out⟩
  · have hn : szv (1048576) (fsz x0) < 0 := by rw [szv_neg (by omega)]; omega
    go_wp2_with fail
    go_ret
    exact ⟨rfl, B.out⟩
end Go.Proofs.Ytojgkodffmdnpaa
