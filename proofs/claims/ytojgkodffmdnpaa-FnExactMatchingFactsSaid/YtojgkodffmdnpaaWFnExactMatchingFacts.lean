/- The walk of the law FnExactMatchingFacts: for every input the call returns true and nothing that was there has turned. -/
import Derived.Test.YtojgkodffmdnpaaMarkFs
import Derived.Test.YtojgkodffmdnpaaMFs
import Derived.Test.YtojgkodffmdnpaaLawAtom
namespace Go.Proofs.Ytojgkodffmdnpaa
open Go.RowKit
attribute [local go_sem ↓] Go.wp_at_zero Go.wp_at_succ
set_option linter.unusedVariables false
set_option maxHeartbeats 2000000 in
set_option maxRecDepth 100000 in
theorem walk_FnExactMatchingFacts (w : World) (v0 : Value) (x0 : FactV) (m0 : AF w 0 w.heap.size v0 x0) (o0 : okF x0) (v1 : Value) (x1 : List (ByteArray × ByteArray)) (m1 : SP w 0 w.heap.size v1 x1) (o1 : okPs x1) (v2 : Value) (x2 : List FactV) (m2 : SF w 0 w.heap.size v2 x2) (o2 : okFs x2) :
    Calls Try.prog 11 #[v0, v1, v2] w fun e w' => e = .returned (.bool true) ∧ Below w.heap.size w w' := by
  have M0 := Lib.hid (show Ob AF w 0 w.heap.size v0 x0 from ⟨m0, Nat.le_refl _⟩)
  have M1 := Lib.hid (show Ob SP w 0 w.heap.size v1 x1 from ⟨m1, Nat.le_refl _⟩)
  have M2 := Lib.hid (show Ob SF w 0 w.heap.size v2 x2 from ⟨m2, Nat.le_refl _⟩)
  obtain ⟨a0, c0, rfl⟩ := AF.form m0
  clear m0
  clear m1
  clear m2
  have hb0 : Up w (w.alloc (.cells #[.string x0.rel, .slice a0 x0.args.length c0] 24)) := (Up.rf w).al _
  have hk0 : Blk (w.alloc (.cells #[.string x0.rel, .slice a0 x0.args.length c0] 24)) (w.heap.size) 24 #[.string x0.rel, .slice a0 x0.args.length c0] := by
    have := (Blk.new w 24 #[.string x0.rel, .slice a0 x0.args.length c0])
    simpa using this
  have K0 := Lib.hid hk0
  have hzW : w.heap.size + 1 ≤ (w.alloc (.cells #[.string x0.rel, .slice a0 x0.args.length c0] 24)).heap.size := by simp
  replace M0 := Lib.hid (M0.out.up hb0)
  replace M1 := Lib.hid (M1.out.up hb0)
  replace M2 := Lib.hid (M2.out.up hb0)
  have B := Lib.hid hb0
  clear hb0 hk0
  go_enter Try.func11, Try.ntmps11
  go_wp2_with fail
  generalize (w.alloc (.cells #[.string x0.rel, .slice a0 x0.args.length c0] 24)) = W0 at *
  have q1 : W0.cell? ⟨w.heap.size, 0, none⟩ = some (.string x0.rel) := (K0.out.cell 0).trans rfl
  have q2 : W0.cell? ⟨w.heap.size, 1, none⟩ = some (.slice a0 x0.args.length c0) := (K0.out.cell 1).trans rfl
  go_wp2_with fail
  clear q1 q2
  refine (csz_pat ((M0.out)) o0 (by omega) (by omega)).mono ?_
  rintro e W3 ⟨rfl, b4⟩
  have s5 : W0.heap.size ≤ W3.heap.size := b4.size
  replace M0 := Lib.hid (M0.out.up b4)
  replace M1 := Lib.hid (M1.out.up b4)
  replace M2 := Lib.hid (M2.out.up b4)
  replace K0 := Lib.hid (K0.out.up b4)
  replace B := Lib.hid (Up.tr B.out b4)
  clear b4
  by_cases hl0 : ((fsz x0 : Nat) : Int) ≤ 1048576
  · skip
    rw [szv_pos hl0]
    have hz0 : fsz x0 ≤ 1048576 := by omega
    go_wp2_with fail
    refine (csz_pairs ((M1.out)) o1 (by omega) (by omega)).mono ?_
    rintro e W6 ⟨rfl, b7⟩
    have s8 : W3.heap.size ≤ W6.heap.size := b7.size
    replace M0 := Lib.hid (M0.out.up b7)
    replace M1 := Lib.hid (M1.out.up b7)
    replace M2 := Lib.hid (M2.out.up b7)
    replace K0 := Lib.hid (K0.out.up b7)
    replace B := Lib.hid (Up.tr B.out b7)
    clear b7
    by_cases hl1 : ((psz x1 : Nat) : Int) ≤ 1048576 - (fsz x0 : Nat)
    · skip
      rw [szv_pos hl1]
      have hz1 : psz x1 ≤ 1048576 := by omega
      go_wp2_with fail
      refine (csz_facts ((M2.out)) o2 (by omega) (by omega)).mono ?_
      rintro e W9 ⟨rfl, b10⟩
      have s11 : W6.heap.size ≤ W9.heap.size := b10.size
      replace M0 := Lib.hid (M0.out.up b10)
      replace M1 := Lib.hid (M1.out.up b10)
      replace M2 := Lib.hid (M2.out.up b10)
      replace K0 := Lib.hid (K0.out.up b10)
      replace B := Lib.hid (Up.tr B.out b10)
      clear b10
      by_cases hl2 : ((fssz x2 : Nat) : Int) ≤ 1048576 - (fsz x0 : Nat) - (psz x1 : Nat)
      · skip
        rw [szv_pos hl2]
        have hz2 : fssz x2 ≤ 1048576 := by omega
        have q12 : W9.cell? ⟨w.heap.size, 0, none⟩ = some (.string x0.rel) := (K0.out.cell 0).trans rfl
        have q13 : W9.cell? ⟨w.heap.size, 1, none⟩ = some (.slice a0 x0.args.length c0) := (K0.out.cell 1).trans rfl
        go_wp2_with fail
        clear q12 q13
        refine (cto_pat ((M0.out)) hz0).mono ?_
        rintro e W14 ⟨u18, rfl, hN17, b15⟩
        have s16 : W9.heap.size ≤ W14.heap.size := b15.size
        obtain ⟨a19, c20, rfl⟩ := hN17.1.form
        have N17 := Lib.hid hN17
        clear hN17
        replace M0 := Lib.hid (M0.out.up b15)
        replace M1 := Lib.hid (M1.out.up b15)
        replace M2 := Lib.hid (M2.out.up b15)
        replace K0 := Lib.hid (K0.out.up b15)
        replace B := Lib.hid (Up.tr B.out b15)
        clear b15
        have q21 : W14.cell? ⟨w.heap.size, 0, none⟩ = some (.string x0.rel) := (K0.out.cell 0).trans rfl
        have q22 : W14.cell? ⟨w.heap.size, 1, none⟩ = some (.slice a0 x0.args.length c0) := (K0.out.cell 1).trans rfl
        go_wp2_with fail
        clear q21 q22
        refine (cto_pairs ((M1.out)) hz1).mono ?_
        rintro e W23 ⟨u27, rfl, hN26, b24⟩
        have s25 : W14.heap.size ≤ W23.heap.size := b24.size
        have N26 := Lib.hid hN26
        clear hN26
        replace M0 := Lib.hid (M0.out.up b24)
        replace M1 := Lib.hid (M1.out.up b24)
        replace M2 := Lib.hid (M2.out.up b24)
        replace N17 := Lib.hid (N17.out.up b24)
        replace K0 := Lib.hid (K0.out.up b24)
        replace B := Lib.hid (Up.tr B.out b24)
        clear b24
        have q28 : W23.cell? ⟨w.heap.size, 0, none⟩ = some (.string x0.rel) := (K0.out.cell 0).trans rfl
        have q29 : W23.cell? ⟨w.heap.size, 1, none⟩ = some (.slice a0 x0.args.length c0) := (K0.out.cell 1).trans rfl
        go_wp2_with fail
        clear q28 q29
        refine (cto_facts ((M2.out)) hz2).mono ?_
        rintro e W30 ⟨u34, rfl, hN33, b31⟩
        have s32 : W23.heap.size ≤ W30.heap.size := b31.size
        have N33 := Lib.hid hN33
        clear hN33
        replace M0 := Lib.hid (M0.out.up b31)
        replace M1 := Lib.hid (M1.out.up b31)
        replace M2 := Lib.hid (M2.out.up b31)
        replace N17 := Lib.hid (N17.out.up b31)
        replace N26 := Lib.hid (N26.out.up b31)
        replace K0 := Lib.hid (K0.out.up b31)
        replace B := Lib.hid (Up.tr B.out b31)
        clear b31
        have q35 : W30.cell? ⟨w.heap.size, 0, none⟩ = some (.string x0.rel) := (K0.out.cell 0).trans rfl
        have q36 : W30.cell? ⟨w.heap.size, 1, none⟩ = some (.slice a0 x0.args.length c0) := (K0.out.cell 1).trans rfl
        go_wp2_with fail
        clear q35 q36
        refine (cMatchFsS ((N17.out).af) ((N26.out).sp) ((N33.out).sf) hz0 hz1 hz2).mono ?_
        rintro e W37 ⟨u41, rfl, hN40, b38⟩
        have s39 : W30.heap.size ≤ W37.heap.size := b38.size
        have N40 := Lib.hid hN40
        clear hN40
        have z42 : fssz (mfsF x0 x1 x2) ≤ 4194304 := zr_le (fssz_filter (mtO x0 x1) x2) (by omega)
        clear N17
        clear N26
        clear N33
        replace M0 := Lib.hid (M0.out.up b38)
        replace M1 := Lib.hid (M1.out.up b38)
        replace M2 := Lib.hid (M2.out.up b38)
        replace K0 := Lib.hid (K0.out.up b38)
        replace B := Lib.hid (Up.tr B.out b38)
        clear b38
        have q43 : W37.cell? ⟨w.heap.size, 0, none⟩ = some (.string x0.rel) := (K0.out.cell 0).trans rfl
        have q44 : W37.cell? ⟨w.heap.size, 1, none⟩ = some (.slice a0 x0.args.length c0) := (K0.out.cell 1).trans rfl
        go_wp2_with fail
        clear q43 q44
        refine (cto_pat ((M0.out)) hz0).mono ?_
        rintro e W45 ⟨u49, rfl, hN48, b46⟩
        have s47 : W37.heap.size ≤ W45.heap.size := b46.size
        obtain ⟨a50, c51, rfl⟩ := hN48.1.form
        have N48 := Lib.hid hN48
        clear hN48
        replace M0 := Lib.hid (M0.out.up b46)
        replace M1 := Lib.hid (M1.out.up b46)
        replace M2 := Lib.hid (M2.out.up b46)
        replace N40 := Lib.hid (N40.out.up b46)
        replace K0 := Lib.hid (K0.out.up b46)
        replace B := Lib.hid (Up.tr B.out b46)
        clear b46
        go_wp2_with fail
        have b54 : Up W45 (W45.alloc (.cells #[.string x0.rel, .slice a50 x0.args.length c51] 30)) := Up.al1 _ _
        have hK52 : Blk (W45.alloc (.cells #[.string x0.rel, .slice a50 x0.args.length c51] 30)) W45.heap.size 30 #[.string x0.rel, .slice a50 x0.args.length c51] := Blk.new _ _ _
        have s55 : W45.heap.size + 1 ≤ (W45.alloc (.cells #[.string x0.rel, .slice a50 x0.args.length c51] 30)).heap.size := by simp
        have K52 := Lib.hid hK52
        clear hK52
        generalize (W45.alloc (.cells #[.string x0.rel, .slice a50 x0.args.length c51] 30)) = W53 at *
        replace M0 := Lib.hid (M0.out.up b54)
        replace M1 := Lib.hid (M1.out.up b54)
        replace M2 := Lib.hid (M2.out.up b54)
        replace N40 := Lib.hid (N40.out.up b54)
        replace N48 := Lib.hid (N48.out.up b54)
        replace K0 := Lib.hid (K0.out.up b54)
        replace B := Lib.hid (Up.tr B.out b54)
        clear b54
        refine (cto_pairs ((M1.out)) hz1).mono ?_
        rintro e W56 ⟨u60, rfl, hN59, b57⟩
        have s58 : W53.heap.size ≤ W56.heap.size := b57.size
        have N59 := Lib.hid hN59
        clear hN59
        replace M0 := Lib.hid (M0.out.up b57)
        replace M1 := Lib.hid (M1.out.up b57)
        replace M2 := Lib.hid (M2.out.up b57)
        replace N40 := Lib.hid (N40.out.up b57)
        replace N48 := Lib.hid (N48.out.up b57)
        replace K0 := Lib.hid (K0.out.up b57)
        replace K52 := Lib.hid (K52.out.up b57)
        replace B := Lib.hid (Up.tr B.out b57)
        clear b57
        go_wp2_with fail
        refine (cto_facts ((M2.out)) hz2).mono ?_
        rintro e W61 ⟨u65, rfl, hN64, b62⟩
        have s63 : W56.heap.size ≤ W61.heap.size := b62.size
        have N64 := Lib.hid hN64
        clear hN64
        replace M0 := Lib.hid (M0.out.up b62)
        replace M1 := Lib.hid (M1.out.up b62)
        replace M2 := Lib.hid (M2.out.up b62)
        replace N40 := Lib.hid (N40.out.up b62)
        replace N48 := Lib.hid (N48.out.up b62)
        replace N59 := Lib.hid (N59.out.up b62)
        replace K0 := Lib.hid (K0.out.up b62)
        replace K52 := Lib.hid (K52.out.up b62)
        replace B := Lib.hid (Up.tr B.out b62)
        clear b62
        have q66 : W61.cell? ⟨W45.heap.size, 0, none⟩ = some (.string x0.rel) := (K52.out.cell 0).trans rfl
        have q67 : W61.cell? ⟨W45.heap.size, 1, none⟩ = some (.slice a50 x0.args.length c51) := (K52.out.cell 1).trans rfl
        go_wp2_with fail
        clear q66 q67
        refine (cMatchFs ((N48.out).af) ((N59.out).sp) ((N64.out).sf) hz0 hz1 hz2).mono ?_
        rintro e W68 ⟨u72, rfl, hN71, b69⟩
        have s70 : W61.heap.size ≤ W68.heap.size := b69.size
        have N71 := Lib.hid hN71
        clear hN71
        have z73 : fssz (mfsF x0 x1 x2) ≤ 4194304 := zr_le (fssz_filter (mtO x0 x1) x2) (by omega)
        replace M0 := Lib.hid (M0.out.up b69)
        replace M1 := Lib.hid (M1.out.up b69)
        replace M2 := Lib.hid (M2.out.up b69)
        replace N40 := Lib.hid (N40.out.up b69)
        replace N48 := Lib.hid (N48.out.up b69)
        replace N59 := Lib.hid (N59.out.up b69)
        replace N64 := Lib.hid (N64.out.up b69)
        replace K0 := Lib.hid (K0.out.up b69)
        replace K52 := Lib.hid (K52.out.up b69)
        replace B := Lib.hid (Up.tr B.out b69)
        clear b69
        go_wp2_with fail
        refine (ceq_facts ((N71.out).sf) ((N40.out).sf) ).mono ?_
        rintro e W74 ⟨rfl, b75⟩
        have s76 : W68.heap.size ≤ W74.heap.size := b75.size
        replace M0 := Lib.hid (M0.out.up b75)
        replace M1 := Lib.hid (M1.out.up b75)
        replace M2 := Lib.hid (M2.out.up b75)
        replace N40 := Lib.hid (N40.out.up b75)
        replace N48 := Lib.hid (N48.out.up b75)
        replace N59 := Lib.hid (N59.out.up b75)
        replace N64 := Lib.hid (N64.out.up b75)
        replace N71 := Lib.hid (N71.out.up b75)
        replace K0 := Lib.hid (K0.out.up b75)
        replace K52 := Lib.hid (K52.out.up b75)
        replace B := Lib.hid (Up.tr B.out b75)
        clear b75
        go_wp2_with fail
        have q77 : W74.cell? ⟨W45.heap.size, 0, none⟩ = some (.string x0.rel) := (K52.out.cell 0).trans rfl
        have q78 : W74.cell? ⟨W45.heap.size, 1, none⟩ = some (.slice a50 x0.args.length c51) := (K52.out.cell 1).trans rfl
        have q79 : W74.cell? ⟨w.heap.size, 0, none⟩ = some (.string x0.rel) := (K0.out.cell 0).trans rfl
        have q80 : W74.cell? ⟨w.heap.size, 1, none⟩ = some (.slice a0 x0.args.length c0) := (K0.out.cell 1).trans rfl
        go_region_held3 (fun w' => w'.cell? ⟨W45.heap.size, 0, none⟩ = some (.string x0.rel) ∧ w'.cell? ⟨W45.heap.size, 1, none⟩ = some (.slice a50 x0.args.length c51) ∧ w'.cell? ⟨w.heap.size, 0, none⟩ = some (.string x0.rel) ∧ w'.cell? ⟨w.heap.size, 1, none⟩ = some (.slice a0 x0.args.length c0) ∧ Up W74 w')
          (first | exact ⟨q77, q78, q79, q80, Up.dr (Up.rf _)⟩ | (have hh := ‹_ ∧ _ ∧ _ ∧ _ ∧ Up W74 _›; have hb := ‹Up _ _›; exact ⟨keepCell hb hh.1, keepCell hb hh.2.1, keepCell hb hh.2.2.1, keepCell hb hh.2.2.2.1, Up.tr hh.2.2.2.2 hb⟩))
          (first
            | (go_at_call 48; (with_reducible refine (cto_pat ((M0.out.up (‹_ ∧ _ ∧ _ ∧ _ ∧ Up W74 _›).2.2.2.2)) hz0).mono ?_); rintro e W81 ⟨u84, rfl, hN83, b82⟩)
            | (go_at_call 51; (with_reducible refine (ceq_pat ((N48.out.up (‹_ ∧ _ ∧ _ ∧ _ ∧ Up W74 _›).2.2.2.2).af) ((hN83).af) ).mono ?_); rintro e W85 ⟨rfl, b86⟩))
        have b87 := (‹_ ∧ _ ∧ _ ∧ _ ∧ Up W74 _›).2.2.2.2
        have s88 : W74.heap.size ≤ W81.heap.size := b82.size
        have s89 : W81.heap.size ≤ W85.heap.size := b86.size
        replace M0 := Lib.hid (M0.out.up b87)
        replace M1 := Lib.hid (M1.out.up b87)
        replace M2 := Lib.hid (M2.out.up b87)
        replace N40 := Lib.hid (N40.out.up b87)
        replace N48 := Lib.hid (N48.out.up b87)
        replace N59 := Lib.hid (N59.out.up b87)
        replace N64 := Lib.hid (N64.out.up b87)
        replace N71 := Lib.hid (N71.out.up b87)
        replace K0 := Lib.hid (K0.out.up b87)
        replace K52 := Lib.hid (K52.out.up b87)
        replace B := Lib.hid (Up.tr B.out b87)
        clear q77 q78 q79 q80 b87
        clear hN83
        clear b86 b82
        go_wp2_with fail
        refine (cto_pairs ((M1.out)) hz1).mono ?_
        rintro e W90 ⟨u94, rfl, hN93, b91⟩
        have s92 : W85.heap.size ≤ W90.heap.size := b91.size
        have N93 := Lib.hid hN93
        clear hN93
        replace M0 := Lib.hid (M0.out.up b91)
        replace M1 := Lib.hid (M1.out.up b91)
        replace M2 := Lib.hid (M2.out.up b91)
        replace N40 := Lib.hid (N40.out.up b91)
        replace N48 := Lib.hid (N48.out.up b91)
        replace N59 := Lib.hid (N59.out.up b91)
        replace N64 := Lib.hid (N64.out.up b91)
        replace N71 := Lib.hid (N71.out.up b91)
        replace K0 := Lib.hid (K0.out.up b91)
        replace K52 := Lib.hid (K52.out.up b91)
        replace B := Lib.hid (Up.tr B.out b91)
        clear b91
        go_wp2_with fail
        refine (ceq_pairs ((N59.out).sp) ((N93.out).sp) ).mono ?_
        rintro e W95 ⟨rfl, b96⟩
        have s97 : W90.heap.size ≤ W95.heap.size := b96.size
        clear N93
        replace M0 := Lib.hid (M0.out.up b96)
        replace M1 := Lib.hid (M1.out.up b96)
        replace M2 := Lib.hid (M2.out.up b96)
        replace N40 := Lib.hid (N40.out.up b96)
        replace N48 := Lib.hid (N48.out.up b96)
        replace N59 := Lib.hid (N59.out.up b96)
        replace N64 := Lib.hid (N64.out.up b96)
        replace N71 := Lib.hid (N71.out.up b96)
        replace K0 := Lib.hid (K0.out.up b96)
        replace K52 := Lib.hid (K52.out.up b96)
        replace B := Lib.hid (Up.tr B.out b96)
        clear b96
        go_wp2_with fail
        refine (cto_facts ((M2.out)) hz2).mono ?_
        rintro e W98 ⟨u102, rfl, hN101, b99⟩
        have s100 : W95.heap.size ≤ W98.heap.size := b99.size
        have N101 := Lib.hid hN101
        clear hN101
        replace M0 := Lib.hid (M0.out.up b99)
        replace M1 := Lib.hid (M1.out.up b99)
        replace M2 := Lib.hid (M2.out.up b99)
        replace N40 := Lib.hid (N40.out.up b99)
        replace N48 := Lib.hid (N48.out.up b99)
        replace N59 := Lib.hid (N59.out.up b99)
        replace N64 := Lib.hid (N64.out.up b99)
        replace N71 := Lib.hid (N71.out.up b99)
        replace K0 := Lib.hid (K0.out.up b99)
        replace K52 := Lib.hid (K52.out.up b99)
        replace B := Lib.hid (Up.tr B.out b99)
        clear b99
        go_wp2_with fail
        refine (ceq_facts ((N64.out).sf) ((N101.out).sf) ).mono ?_
        rintro e W103 ⟨rfl, b104⟩
        have s105 : W98.heap.size ≤ W103.heap.size := b104.size
        clear N101
        replace M0 := Lib.hid (M0.out.up b104)
        replace M1 := Lib.hid (M1.out.up b104)
        replace M2 := Lib.hid (M2.out.up b104)
        replace N40 := Lib.hid (N40.out.up b104)
        replace N48 := Lib.hid (N48.out.up b104)
        replace N59 := Lib.hid (N59.out.up b104)
        replace N64 := Lib.hid (N64.out.up b104)
        replace N71 := Lib.hid (N71.out.up b104)
        replace K0 := Lib.hid (K0.out.up b104)
        replace K52 := Lib.hid (K52.out.up b104)
        replace B := Lib.hid (Up.tr B.out b104)
        clear b104
        have q106 : W103.cell? ⟨W45.heap.size, 0, none⟩ = some (.string x0.rel) := (K52.out.cell 0).trans rfl
        have q107 : W103.cell? ⟨W45.heap.size, 1, none⟩ = some (.slice a50 x0.args.length c51) := (K52.out.cell 1).trans rfl
        go_wp2_with fail
        clear q106 q107
        have cb111 := ctF_le (x := x0) (by omega)
        refine (cmk_pat (N48.out) (k := 1) (by omega) (by omega)).mono ?_
        rintro e W108 ⟨rfl, h112, c113⟩
        have s110 : W103.heap.size ≤ W108.heap.size := c113.size
        have i114 : (0 : Int) ≤ ((1 + ctF (x0) : Nat) : Int) := by omega
        clear N48
        clear K52
        replace M0 := Lib.hid (M0.out.chg c113 (by omega))
        replace M1 := Lib.hid (M1.out.chg c113 (by omega))
        replace M2 := Lib.hid (M2.out.chg c113 (by omega))
        replace N40 := Lib.hid (N40.out.chg c113 (by omega))
        replace N59 := Lib.hid (N59.out.chg c113 (by omega))
        replace N64 := Lib.hid (N64.out.chg c113 (by omega))
        replace N71 := Lib.hid (N71.out.chg c113 (by omega))
        replace K0 := Lib.hid (K0.out.chg c113 (by omega))
        replace B := Lib.hid (c113.below B.out (by omega) (by have := B.out.size; omega))
        clear h112
        clear c113
        go_wp2_with fail
        have cb118 := ctP_le (x := x1) (by omega)
        refine (cmk_pairs (N59.out) (k0 := (1 + ctF (x0))) (by omega) (by omega)).mono ?_
        rintro e W115 ⟨rfl, h119, c120⟩
        have s117 : W108.heap.size ≤ W115.heap.size := c120.size
        have i121 : (0 : Int) ≤ (((1 + ctF (x0)) + ctP (x1) : Nat) : Int) := by omega
        clear N59
        replace M0 := Lib.hid (M0.out.chg c120 (by omega))
        replace M1 := Lib.hid (M1.out.chg c120 (by omega))
        replace M2 := Lib.hid (M2.out.chg c120 (by omega))
        replace N40 := Lib.hid (N40.out.chg c120 (by omega))
        replace N64 := Lib.hid (N64.out.chg c120 (by omega))
        replace N71 := Lib.hid (N71.out.chg c120 (by omega))
        replace K0 := Lib.hid (K0.out.chg c120 (by omega))
        replace B := Lib.hid (c120.below B.out (by omega) (by have := B.out.size; omega))
        clear h119
        clear c120
        go_wp2_with fail
        have cb125 := ctFs_le (x := x2) (by omega)
        refine (cmk_facts (N64.out) (k0 := ((1 + ctF (x0)) + ctP (x1))) (by omega) (by omega)).mono ?_
        rintro e W122 ⟨rfl, h126, c127⟩
        have s124 : W115.heap.size ≤ W122.heap.size := c127.size
        have i128 : (0 : Int) ≤ ((((1 + ctF (x0)) + ctP (x1)) + ctFs (x2) : Nat) : Int) := by omega
        clear N64
        replace M0 := Lib.hid (M0.out.chg c127 (by omega))
        replace M1 := Lib.hid (M1.out.chg c127 (by omega))
        replace M2 := Lib.hid (M2.out.chg c127 (by omega))
        replace N40 := Lib.hid (N40.out.chg c127 (by omega))
        replace N71 := Lib.hid (N71.out.chg c127 (by omega))
        replace K0 := Lib.hid (K0.out.chg c127 (by omega))
        replace B := Lib.hid (c127.below B.out (by omega) (by have := B.out.size; omega))
        clear h126
        clear c127
        go_wp2_with fail
        refine (ceq_facts ((N71.out).sf) ((N40.out).sf) ).mono ?_
        rintro e W129 ⟨rfl, b130⟩
        have s131 : W122.heap.size ≤ W129.heap.size := b130.size
        replace M0 := Lib.hid (M0.out.up b130)
        replace M1 := Lib.hid (M1.out.up b130)
        replace M2 := Lib.hid (M2.out.up b130)
        replace N40 := Lib.hid (N40.out.up b130)
        replace N71 := Lib.hid (N71.out.up b130)
        replace K0 := Lib.hid (K0.out.up b130)
        replace B := Lib.hid (Up.tr B.out b130)
        clear b130
        go_wp2_with fail
        have cb135 := ctFs_le (x := (mfsF x0 x1 x2)) (by omega)
        refine (cmk_facts (N71.out) (k0 := 1) (by omega) (by omega)).mono ?_
        rintro e W132 ⟨rfl, h136, c137⟩
        have s134 : W129.heap.size ≤ W132.heap.size := c137.size
        have i138 : (0 : Int) ≤ ((1 + ctFs ((mfsF x0 x1 x2)) : Nat) : Int) := by omega
        replace M0 := Lib.hid (M0.out.chg c137 (by omega))
        replace M1 := Lib.hid (M1.out.chg c137 (by omega))
        replace M2 := Lib.hid (M2.out.chg c137 (by omega))
        replace N40 := Lib.hid (N40.out.chg c137 (by omega))
        replace K0 := Lib.hid (K0.out.chg c137 (by omega))
        replace B := Lib.hid (c137.below B.out (by omega) (by have := B.out.size; omega))
        replace N71 := Lib.hid h136
        clear h136
        clear c137
        go_wp2_with fail
        refine (chd_facts ((N71.out).sf) (by omega) (by have := ctFs_le (x := (mfsF x0 x1 x2)) (by omega); omega)).mono ?_
        rintro e W139 ⟨rfl, b140⟩
        have s141 : W132.heap.size ≤ W139.heap.size := b140.size
        have i142 : (0 : Int) ≤ ((1 + ctFs ((mfsF x0 x1 x2)) : Nat) : Int) := by omega
        replace M0 := Lib.hid (M0.out.up b140)
        replace M1 := Lib.hid (M1.out.up b140)
        replace M2 := Lib.hid (M2.out.up b140)
        replace N40 := Lib.hid (N40.out.up b140)
        replace N71 := Lib.hid (N71.out.up b140)
        replace K0 := Lib.hid (K0.out.up b140)
        replace B := Lib.hid (Up.tr B.out b140)
        clear b140
        have q143 : W139.cell? ⟨w.heap.size, 0, none⟩ = some (.string x0.rel) := (K0.out.cell 0).trans rfl
        have q144 : W139.cell? ⟨w.heap.size, 1, none⟩ = some (.slice a0 x0.args.length c0) := (K0.out.cell 1).trans rfl
        go_wp2_with fail
        clear q143 q144
        refine (cto_pat ((M0.out)) hz0).mono ?_
        rintro e W145 ⟨u149, rfl, hN148, b146⟩
        have s147 : W139.heap.size ≤ W145.heap.size := b146.size
        obtain ⟨a150, c151, rfl⟩ := hN148.1.form
        have N148 := Lib.hid hN148
        clear hN148
        clear M0
        clear K0
        replace M1 := Lib.hid (M1.out.up b146)
        replace M2 := Lib.hid (M2.out.up b146)
        replace N40 := Lib.hid (N40.out.up b146)
        replace N71 := Lib.hid (N71.out.up b146)
        replace B := Lib.hid (Up.tr B.out b146)
        clear b146
        go_wp2_with fail
        refine (cto_pairs ((M1.out)) hz1).mono ?_
        rintro e W152 ⟨u156, rfl, hN155, b153⟩
        have s154 : W145.heap.size ≤ W152.heap.size := b153.size
        have N155 := Lib.hid hN155
        clear hN155
        clear M1
        replace M2 := Lib.hid (M2.out.up b153)
        replace N40 := Lib.hid (N40.out.up b153)
        replace N71 := Lib.hid (N71.out.up b153)
        replace N148 := Lib.hid (N148.out.up b153)
        replace B := Lib.hid (Up.tr B.out b153)
        clear b153
        go_wp2_with fail
        refine (cto_facts ((M2.out)) hz2).mono ?_
        rintro e W157 ⟨u161, rfl, hN160, b158⟩
        have s159 : W152.heap.size ≤ W157.heap.size := b158.size
        have N160 := Lib.hid hN160
        clear hN160
        clear M2
        replace N40 := Lib.hid (N40.out.up b158)
        replace N71 := Lib.hid (N71.out.up b158)
        replace N148 := Lib.hid (N148.out.up b158)
        replace N155 := Lib.hid (N155.out.up b158)
        replace B := Lib.hid (Up.tr B.out b158)
        clear b158
        go_wp2_with fail
        refine (cMatchFs ((N148.out).af) ((N155.out).sp) ((N160.out).sf) hz0 hz1 hz2).mono ?_
        rintro e W162 ⟨u166, rfl, hN165, b163⟩
        have s164 : W157.heap.size ≤ W162.heap.size := b163.size
        have N165 := Lib.hid hN165
        clear hN165
        have z167 : fssz (mfsF x0 x1 x2) ≤ 4194304 := zr_le (fssz_filter (mtO x0 x1) x2) (by omega)
        clear N148
        clear N155
        clear N160
        replace N40 := Lib.hid (N40.out.up b163)
        replace N71 := Lib.hid (N71.out.up b163)
        replace B := Lib.hid (Up.tr B.out b163)
        clear b163
        go_wp2_with fail
        refine (ceq_facts ((N165.out).sf) ((N40.out).sf) ).mono ?_
        rintro e W168 ⟨rfl, b169⟩
        have s170 : W162.heap.size ≤ W168.heap.size := b169.size
        clear N40
        clear N165
        replace N71 := Lib.hid (N71.out.up b169)
        replace B := Lib.hid (Up.tr B.out b169)
        clear b169
        go_wp2_with fail
        refine (chd_facts ((N71.out).sf) (by omega) (by have := ctFs_le (x := (mfsF x0 x1 x2)) (by omega); omega)).mono ?_
        rintro e W171 ⟨rfl, b172⟩
        have s173 : W168.heap.size ≤ W171.heap.size := b172.size
        have i174 : (0 : Int) ≤ ((1 + ctFs ((mfsF x0 x1 x2)) : Nat) : Int) := by omega
        clear N71
        replace B := Lib.hid (Up.tr B.out b172)
        clear b172
        go_wp2_with fail
        go_ret
        exact ⟨rfl, B.out⟩
      · have hn : szv (1048576 - (fsz x0 : Nat) - (psz x1 : Nat)) (fssz x2) < 0 := by rw [szv_neg (by omega)]; omega
        go_wp2_with fail
        go_ret
        exact ⟨rfl, B.out⟩
    · have hn : szv (1048576 - (fsz x0 : Nat)) (psz x1) < 0 := by rw [szv_neg (by omega)]; omega
      go_wp2_with fail
      go_ret
      exact ⟨rfl, B.out⟩
  · have hn : szv (1048576) (fsz x0) < 0 := by rw [szv_neg (by omega)]; omega
    go_wp2_with fail
    go_ret
    exact ⟨rfl, B.out⟩
end Go.Proofs.Ytojgkodffmdnpaa
