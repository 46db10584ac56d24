/- The walk of the law FnExactInstance: for every input the call returns true and nothing that was there has turned. -/
import Derived.Test.YtojgkodffmdnpaaMarkFs
import Derived.Test.YtojgkodffmdnpaaInst
import Derived.Test.YtojgkodffmdnpaaLawAtom
namespace Go.Proofs.Ytojgkodffmdnpaa
open Go.RowKit
attribute [local go_sem ↓] Go.wp_at_zero Go.wp_at_succ
set_option linter.unusedVariables false
set_option maxHeartbeats 2000000 in
set_option maxRecDepth 100000 in
theorem walk_FnExactInstance (w : World) (v0 : Value) (x0 : FactV) (m0 : AF w 0 w.heap.size v0 x0) (o0 : okF x0) (v1 : Value) (x1 : List (ByteArray × ByteArray)) (m1 : SP w 0 w.heap.size v1 x1) (o1 : okPs x1) :
    Calls Try.prog 8 #[v0, v1] w fun e w' => e = .returned (.bool true) ∧ Below w.heap.size w w' := by
  have M0 := Lib.hid (show Ob AF w 0 w.heap.size v0 x0 from ⟨m0, Nat.le_refl _⟩)
  have M1 := Lib.hid (show Ob SP w 0 w.heap.size v1 x1 from ⟨m1, Nat.le_refl _⟩)
  obtain ⟨a0, c0, rfl⟩ := AF.form m0
  clear m0
  clear m1
  have hb0 : Up w (w.alloc (.cells #[.string x0.rel, .slice a0 x0.args.length c0] 24)) := (Up.rf w).al _
  have hk0 : Blk (w.alloc (.cells #[.string x0.rel, .slice a0 x0.args.length c0] 24)) (w.heap.size) 24 #[.string x0.rel, .slice a0 x0.args.length c0] := by
    have := (Blk.new w 24 #[.string x0.rel, .slice a0 x0.args.length c0])
    simpa using this
  have K0 := Lib.hid hk0
  have hzW : w.heap.size + 1 ≤ (w.alloc (.cells #[.string x0.rel, .slice a0 x0.args.length c0] 24)).heap.size := by simp
  replace M0 := Lib.hid (M0.out.up hb0)
  replace M1 := Lib.hid (M1.out.up hb0)
  have B := Lib.hid hb0
  clear hb0 hk0
  go_enter Try.func8, Try.ntmps8
  go_wp2_with fail
  generalize (w.alloc (.cells #[.string x0.rel, .slice a0 x0.args.length c0] 24)) = W0 at *
  have q1 : W0.cell? ⟨w.heap.size, 0, none⟩ = some (.string x0.rel) := (K0.out.cell 0).trans rfl
  have q2 : W0.cell? ⟨w.heap.size, 1, none⟩ = some (.slice a0 x0.args.length c0) := (K0.out.cell 1).trans rfl
  go_wp2_with fail
  clear q1 q2
  refine (csz_pat ((M0.out)) o0 (by omega) (by omega)).mono ?_
  rintro e W3 ⟨rfl, b4⟩
  have s5 : W0.heap.size ≤ W3.heap.size := b4.size
  replace M0 := Lib.hid (M0.out.up b4)
  replace M1 := Lib.hid (M1.out.up b4)
  replace K0 := Lib.hid (K0.out.up b4)
  replace B := Lib.hid (Up.tr B.out b4)
  clear b4
  by_cases hl0 : ((fsz x0 : Nat) : Int) ≤ 1048576
  · skip
    rw [szv_pos hl0]
    have hz0 : fsz x0 ≤ 1048576 := by omega
    go_wp2_with fail
    refine (csz_pairs ((M1.out)) o1 (by omega) (by omega)).mono ?_
    rintro e W6 ⟨rfl, b7⟩
    have s8 : W3.heap.size ≤ W6.heap.size := b7.size
    replace M0 := Lib.hid (M0.out.up b7)
    replace M1 := Lib.hid (M1.out.up b7)
    replace K0 := Lib.hid (K0.out.up b7)
    replace B := Lib.hid (Up.tr B.out b7)
    clear b7
    by_cases hl1 : ((psz x1 : Nat) : Int) ≤ 1048576 - (fsz x0 : Nat)
    · skip
      rw [szv_pos hl1]
      have hz1 : psz x1 ≤ 1048576 := by omega
      have q9 : W6.cell? ⟨w.heap.size, 0, none⟩ = some (.string x0.rel) := (K0.out.cell 0).trans rfl
      have q10 : W6.cell? ⟨w.heap.size, 1, none⟩ = some (.slice a0 x0.args.length c0) := (K0.out.cell 1).trans rfl
      go_wp2_with fail
      clear q9 q10
      refine (cto_pat ((M0.out)) hz0).mono ?_
      rintro e W11 ⟨u15, rfl, hN14, b12⟩
      have s13 : W6.heap.size ≤ W11.heap.size := b12.size
      obtain ⟨a16, c17, rfl⟩ := hN14.1.form
      have N14 := Lib.hid hN14
      clear hN14
      replace M0 := Lib.hid (M0.out.up b12)
      replace M1 := Lib.hid (M1.out.up b12)
      replace K0 := Lib.hid (K0.out.up b12)
      replace B := Lib.hid (Up.tr B.out b12)
      clear b12
      have q18 : W11.cell? ⟨w.heap.size, 0, none⟩ = some (.string x0.rel) := (K0.out.cell 0).trans rfl
      have q19 : W11.cell? ⟨w.heap.size, 1, none⟩ = some (.slice a0 x0.args.length c0) := (K0.out.cell 1).trans rfl
      go_wp2_with fail
      clear q18 q19
      refine (cto_pairs ((M1.out)) hz1).mono ?_
      rintro e W20 ⟨u24, rfl, hN23, b21⟩
      have s22 : W11.heap.size ≤ W20.heap.size := b21.size
      have N23 := Lib.hid hN23
      clear hN23
      replace M0 := Lib.hid (M0.out.up b21)
      replace M1 := Lib.hid (M1.out.up b21)
      replace N14 := Lib.hid (N14.out.up b21)
      replace K0 := Lib.hid (K0.out.up b21)
      replace B := Lib.hid (Up.tr B.out b21)
      clear b21
      have q25 : W20.cell? ⟨w.heap.size, 0, none⟩ = some (.string x0.rel) := (K0.out.cell 0).trans rfl
      have q26 : W20.cell? ⟨w.heap.size, 1, none⟩ = some (.slice a0 x0.args.length c0) := (K0.out.cell 1).trans rfl
      go_wp2_with fail
      clear q25 q26
      refine (cInstS ((N14.out).af) ((N23.out).sp) hz0 hz1).mono ?_
      rintro e W27 ⟨u31, rfl, hN30, b28⟩
      have s29 : W20.heap.size ≤ W27.heap.size := b28.size
      obtain ⟨a32, c33, rfl⟩ := hN30.1.form
      have N30 := Lib.hid hN30
      clear hN30
      have z34 : fsz (oF (insV x0 x1)) ≤ 4194304 := oF_ins_fsz (y := x1) (by omega)
      clear N14
      clear N23
      replace M0 := Lib.hid (M0.out.up b28)
      replace M1 := Lib.hid (M1.out.up b28)
      replace K0 := Lib.hid (K0.out.up b28)
      replace B := Lib.hid (Up.tr B.out b28)
      clear b28
      have q36 : (W27.alloc (.cells #[.string (oF (insV x0 x1)).rel, .slice a32 (oF (insV x0 x1)).args.length c33] 79)).cell? ⟨w.heap.size, 0, none⟩ = some (.string x0.rel) := ((K0.out.up (Up.al1 _ _)).cell 0).trans rfl
      have q37 : (W27.alloc (.cells #[.string (oF (insV x0 x1)).rel, .slice a32 (oF (insV x0 x1)).args.length c33] 79)).cell? ⟨w.heap.size, 1, none⟩ = some (.slice a0 x0.args.length c0) := ((K0.out.up (Up.al1 _ _)).cell 1).trans rfl
      go_wp2_with fail
      clear q36 q37
      have b39 : Up W27 (W27.alloc (.cells #[.string (oF (insV x0 x1)).rel, .slice a32 (oF (insV x0 x1)).args.length c33] 79)) := Up.al1 _ _
      have hK35 : Blk (W27.alloc (.cells #[.string (oF (insV x0 x1)).rel, .slice a32 (oF (insV x0 x1)).args.length c33] 79)) W27.heap.size 79 #[.string (oF (insV x0 x1)).rel, .slice a32 (oF (insV x0 x1)).args.length c33] := Blk.new _ _ _
      have s40 : W27.heap.size + 1 ≤ (W27.alloc (.cells #[.string (oF (insV x0 x1)).rel, .slice a32 (oF (insV x0 x1)).args.length c33] 79)).heap.size := by simp
      have K35 := Lib.hid hK35
      clear hK35
      generalize (W27.alloc (.cells #[.string (oF (insV x0 x1)).rel, .slice a32 (oF (insV x0 x1)).args.length c33] 79)) = W38 at *
      replace M0 := Lib.hid (M0.out.up b39)
      replace M1 := Lib.hid (M1.out.up b39)
      replace N30 := Lib.hid (N30.out.up b39)
      replace K0 := Lib.hid (K0.out.up b39)
      replace B := Lib.hid (Up.tr B.out b39)
      clear b39
      refine (cto_pat ((M0.out)) hz0).mono ?_
      rintro e W41 ⟨u45, rfl, hN44, b42⟩
      have s43 : W38.heap.size ≤ W41.heap.size := b42.size
      obtain ⟨a46, c47, rfl⟩ := hN44.1.form
      have N44 := Lib.hid hN44
      clear hN44
      replace M0 := Lib.hid (M0.out.up b42)
      replace M1 := Lib.hid (M1.out.up b42)
      replace N30 := Lib.hid (N30.out.up b42)
      replace K0 := Lib.hid (K0.out.up b42)
      replace K35 := Lib.hid (K35.out.up b42)
      replace B := Lib.hid (Up.tr B.out b42)
      clear b42
      go_wp2_with fail
      have b50 : Up W41 (W41.alloc (.cells #[.string x0.rel, .slice a46 x0.args.length c47] 30)) := Up.al1 _ _
      have hK48 : Blk (W41.alloc (.cells #[.string x0.rel, .slice a46 x0.args.length c47] 30)) W41.heap.size 30 #[.string x0.rel, .slice a46 x0.args.length c47] := Blk.new _ _ _
      have s51 : W41.heap.size + 1 ≤ (W41.alloc (.cells #[.string x0.rel, .slice a46 x0.args.length c47] 30)).heap.size := by simp
      have K48 := Lib.hid hK48
      clear hK48
      generalize (W41.alloc (.cells #[.string x0.rel, .slice a46 x0.args.length c47] 30)) = W49 at *
      replace M0 := Lib.hid (M0.out.up b50)
      replace M1 := Lib.hid (M1.out.up b50)
      replace N30 := Lib.hid (N30.out.up b50)
      replace N44 := Lib.hid (N44.out.up b50)
      replace K0 := Lib.hid (K0.out.up b50)
      replace K35 := Lib.hid (K35.out.up b50)
      replace B := Lib.hid (Up.tr B.out b50)
      clear b50
      refine (cto_pairs ((M1.out)) hz1).mono ?_
      rintro e W52 ⟨u56, rfl, hN55, b53⟩
      have s54 : W49.heap.size ≤ W52.heap.size := b53.size
      have N55 := Lib.hid hN55
      clear hN55
      replace M0 := Lib.hid (M0.out.up b53)
      replace M1 := Lib.hid (M1.out.up b53)
      replace N30 := Lib.hid (N30.out.up b53)
      replace N44 := Lib.hid (N44.out.up b53)
      replace K0 := Lib.hid (K0.out.up b53)
      replace K35 := Lib.hid (K35.out.up b53)
      replace K48 := Lib.hid (K48.out.up b53)
      replace B := Lib.hid (Up.tr B.out b53)
      clear b53
      have q57 : W52.cell? ⟨W41.heap.size, 0, none⟩ = some (.string x0.rel) := (K48.out.cell 0).trans rfl
      have q58 : W52.cell? ⟨W41.heap.size, 1, none⟩ = some (.slice a46 x0.args.length c47) := (K48.out.cell 1).trans rfl
      go_wp2_with fail
      clear q57 q58
      refine (cInst ((N44.out).af) ((N55.out).sp) hz0 hz1).mono ?_
      rintro e W59 ⟨u63, rfl, hN62, b60⟩
      have s61 : W52.heap.size ≤ W59.heap.size := b60.size
      obtain ⟨a64, c65, rfl⟩ := hN62.1.form
      have N62 := Lib.hid hN62
      clear hN62
      have z66 : fsz (oF (insV x0 x1)) ≤ 4194304 := oF_ins_fsz (y := x1) (by omega)
      replace M0 := Lib.hid (M0.out.up b60)
      replace M1 := Lib.hid (M1.out.up b60)
      replace N30 := Lib.hid (N30.out.up b60)
      replace N44 := Lib.hid (N44.out.up b60)
      replace N55 := Lib.hid (N55.out.up b60)
      replace K0 := Lib.hid (K0.out.up b60)
      replace K35 := Lib.hid (K35.out.up b60)
      replace K48 := Lib.hid (K48.out.up b60)
      replace B := Lib.hid (Up.tr B.out b60)
      clear b60
      have q68 : (W59.alloc (.cells #[.string (oF (insV x0 x1)).rel, .slice a64 (oF (insV x0 x1)).args.length c65] 79)).cell? ⟨W27.heap.size, 0, none⟩ = some (.string (oF (insV x0 x1)).rel) := ((K35.out.up (Up.al1 _ _)).cell 0).trans rfl
      have q69 : (W59.alloc (.cells #[.string (oF (insV x0 x1)).rel, .slice a64 (oF (insV x0 x1)).args.length c65] 79)).cell? ⟨W27.heap.size, 1, none⟩ = some (.slice a32 (oF (insV x0 x1)).args.length c33) := ((K35.out.up (Up.al1 _ _)).cell 1).trans rfl
      go_wp2_with fail
      clear q68 q69
      have b71 : Up W59 (W59.alloc (.cells #[.string (oF (insV x0 x1)).rel, .slice a64 (oF (insV x0 x1)).args.length c65] 79)) := Up.al1 _ _
      have hK67 : Blk (W59.alloc (.cells #[.string (oF (insV x0 x1)).rel, .slice a64 (oF (insV x0 x1)).args.length c65] 79)) W59.heap.size 79 #[.string (oF (insV x0 x1)).rel, .slice a64 (oF (insV x0 x1)).args.length c65] := Blk.new _ _ _
      have s72 : W59.heap.size + 1 ≤ (W59.alloc (.cells #[.string (oF (insV x0 x1)).rel, .slice a64 (oF (insV x0 x1)).args.length c65] 79)).heap.size := by simp
      have K67 := Lib.hid hK67
      clear hK67
      generalize (W59.alloc (.cells #[.string (oF (insV x0 x1)).rel, .slice a64 (oF (insV x0 x1)).args.length c65] 79)) = W70 at *
      replace M0 := Lib.hid (M0.out.up b71)
      replace M1 := Lib.hid (M1.out.up b71)
      replace N30 := Lib.hid (N30.out.up b71)
      replace N44 := Lib.hid (N44.out.up b71)
      replace N55 := Lib.hid (N55.out.up b71)
      replace N62 := Lib.hid (N62.out.up b71)
      replace K0 := Lib.hid (K0.out.up b71)
      replace K35 := Lib.hid (K35.out.up b71)
      replace K48 := Lib.hid (K48.out.up b71)
      replace B := Lib.hid (Up.tr B.out b71)
      clear b71
      refine (ceq_fact ((N62.out).af) ((N30.out).af) ).mono ?_
      rintro e W73 ⟨rfl, b74⟩
      have s75 : W70.heap.size ≤ W73.heap.size := b74.size
      replace M0 := Lib.hid (M0.out.up b74)
      replace M1 := Lib.hid (M1.out.up b74)
      replace N30 := Lib.hid (N30.out.up b74)
      replace N44 := Lib.hid (N44.out.up b74)
      replace N55 := Lib.hid (N55.out.up b74)
      replace N62 := Lib.hid (N62.out.up b74)
      replace K0 := Lib.hid (K0.out.up b74)
      replace K35 := Lib.hid (K35.out.up b74)
      replace K48 := Lib.hid (K48.out.up b74)
      replace K67 := Lib.hid (K67.out.up b74)
      replace B := Lib.hid (Up.tr B.out b74)
      clear b74
      go_wp2_with fail
      have q76 : W73.cell? ⟨W41.heap.size, 0, none⟩ = some (.string x0.rel) := (K48.out.cell 0).trans rfl
      have q77 : W73.cell? ⟨W41.heap.size, 1, none⟩ = some (.slice a46 x0.args.length c47) := (K48.out.cell 1).trans rfl
      have q78 : W73.cell? ⟨w.heap.size, 0, none⟩ = some (.string x0.rel) := (K0.out.cell 0).trans rfl
      have q79 : W73.cell? ⟨w.heap.size, 1, none⟩ = some (.slice a0 x0.args.length c0) := (K0.out.cell 1).trans rfl
      go_region_held3 (fun w' => w'.cell? ⟨W41.heap.size, 0, none⟩ = some (.string x0.rel) ∧ w'.cell? ⟨W41.heap.size, 1, none⟩ = some (.slice a46 x0.args.length c47) ∧ w'.cell? ⟨w.heap.size, 0, none⟩ = some (.string x0.rel) ∧ w'.cell? ⟨w.heap.size, 1, none⟩ = some (.slice a0 x0.args.length c0) ∧ Up W73 w')
        (first | exact ⟨q76, q77, q78, q79, Up.dr (Up.rf _)⟩ | (have hh := ‹_ ∧ _ ∧ _ ∧ _ ∧ Up W73 _›; have hb := ‹Up _ _›; exact ⟨keepCell hb hh.1, keepCell hb hh.2.1, keepCell hb hh.2.2.1, keepCell hb hh.2.2.2.1, Up.tr hh.2.2.2.2 hb⟩))
        (first
          | (go_at_call 48; (with_reducible refine (cto_pat ((M0.out.up (‹_ ∧ _ ∧ _ ∧ _ ∧ Up W73 _›).2.2.2.2)) hz0).mono ?_); rintro e W80 ⟨u83, rfl, hN82, b81⟩)
          | (go_at_call 51; (with_reducible refine (ceq_pat ((N44.out.up (‹_ ∧ _ ∧ _ ∧ _ ∧ Up W73 _›).2.2.2.2).af) ((hN82).af) ).mono ?_); rintro e W84 ⟨rfl, b85⟩))
      have b86 := (‹_ ∧ _ ∧ _ ∧ _ ∧ Up W73 _›).2.2.2.2
      have s87 : W73.heap.size ≤ W80.heap.size := b81.size
      have s88 : W80.heap.size ≤ W84.heap.size := b85.size
      replace M0 := Lib.hid (M0.out.up b86)
      replace M1 := Lib.hid (M1.out.up b86)
      replace N30 := Lib.hid (N30.out.up b86)
      replace N44 := Lib.hid (N44.out.up b86)
      replace N55 := Lib.hid (N55.out.up b86)
      replace N62 := Lib.hid (N62.out.up b86)
      replace K0 := Lib.hid (K0.out.up b86)
      replace K35 := Lib.hid (K35.out.up b86)
      replace K48 := Lib.hid (K48.out.up b86)
      replace K67 := Lib.hid (K67.out.up b86)
      replace B := Lib.hid (Up.tr B.out b86)
      clear q76 q77 q78 q79 b86
      clear hN82
      clear b85 b81
      go_wp2_with fail
      refine (cto_pairs ((M1.out)) hz1).mono ?_
      rintro e W89 ⟨u93, rfl, hN92, b90⟩
      have s91 : W84.heap.size ≤ W89.heap.size := b90.size
      have N92 := Lib.hid hN92
      clear hN92
      replace M0 := Lib.hid (M0.out.up b90)
      replace M1 := Lib.hid (M1.out.up b90)
      replace N30 := Lib.hid (N30.out.up b90)
      replace N44 := Lib.hid (N44.out.up b90)
      replace N55 := Lib.hid (N55.out.up b90)
      replace N62 := Lib.hid (N62.out.up b90)
      replace K0 := Lib.hid (K0.out.up b90)
      replace K35 := Lib.hid (K35.out.up b90)
      replace K48 := Lib.hid (K48.out.up b90)
      replace K67 := Lib.hid (K67.out.up b90)
      replace B := Lib.hid (Up.tr B.out b90)
      clear b90
      go_wp2_with fail
      refine (ceq_pairs ((N55.out).sp) ((N92.out).sp) ).mono ?_
      rintro e W94 ⟨rfl, b95⟩
      have s96 : W89.heap.size ≤ W94.heap.size := b95.size
      clear N92
      replace M0 := Lib.hid (M0.out.up b95)
      replace M1 := Lib.hid (M1.out.up b95)
      replace N30 := Lib.hid (N30.out.up b95)
      replace N44 := Lib.hid (N44.out.up b95)
      replace N55 := Lib.hid (N55.out.up b95)
      replace N62 := Lib.hid (N62.out.up b95)
      replace K0 := Lib.hid (K0.out.up b95)
      replace K35 := Lib.hid (K35.out.up b95)
      replace K48 := Lib.hid (K48.out.up b95)
      replace K67 := Lib.hid (K67.out.up b95)
      replace B := Lib.hid (Up.tr B.out b95)
      clear b95
      have q97 : W94.cell? ⟨W41.heap.size, 0, none⟩ = some (.string x0.rel) := (K48.out.cell 0).trans rfl
      have q98 : W94.cell? ⟨W41.heap.size, 1, none⟩ = some (.slice a46 x0.args.length c47) := (K48.out.cell 1).trans rfl
      go_wp2_with fail
      clear q97 q98
      have cb102 := ctF_le (x := x0) (by omega)
      refine (cmk_pat (N44.out) (k := 1) (by omega) (by omega)).mono ?_
      rintro e W99 ⟨rfl, h103, c104⟩
      have s101 : W94.heap.size ≤ W99.heap.size := c104.size
      have i105 : (0 : Int) ≤ ((1 + ctF (x0) : Nat) : Int) := by omega
      clear N44
      clear K48
      replace M0 := Lib.hid (M0.out.chg c104 (by omega))
      replace M1 := Lib.hid (M1.out.chg c104 (by omega))
      replace N30 := Lib.hid (N30.out.chg c104 (by omega))
      replace N55 := Lib.hid (N55.out.chg c104 (by omega))
      replace N62 := Lib.hid (N62.out.chg c104 (by omega))
      replace K0 := Lib.hid (K0.out.chg c104 (by omega))
      replace K35 := Lib.hid (K35.out.chg c104 (by omega))
      replace K67 := Lib.hid (K67.out.chg c104 (by omega))
      replace B := Lib.hid (c104.below B.out (by omega) (by have := B.out.size; omega))
      clear h103
      clear c104
      go_wp2_with fail
      have cb109 := ctP_le (x := x1) (by omega)
      refine (cmk_pairs (N55.out) (k0 := (1 + ctF (x0))) (by omega) (by omega)).mono ?_
      rintro e W106 ⟨rfl, h110, c111⟩
      have s108 : W99.heap.size ≤ W106.heap.size := c111.size
      have i112 : (0 : Int) ≤ (((1 + ctF (x0)) + ctP (x1) : Nat) : Int) := by omega
      clear N55
      replace M0 := Lib.hid (M0.out.chg c111 (by omega))
      replace M1 := Lib.hid (M1.out.chg c111 (by omega))
      replace N30 := Lib.hid (N30.out.chg c111 (by omega))
      replace N62 := Lib.hid (N62.out.chg c111 (by omega))
      replace K0 := Lib.hid (K0.out.chg c111 (by omega))
      replace K35 := Lib.hid (K35.out.chg c111 (by omega))
      replace K67 := Lib.hid (K67.out.chg c111 (by omega))
      replace B := Lib.hid (c111.below B.out (by omega) (by have := B.out.size; omega))
      clear h110
      clear c111
      have q113 : W106.cell? ⟨W59.heap.size, 0, none⟩ = some (.string (oF (insV x0 x1)).rel) := (K67.out.cell 0).trans rfl
      have q114 : W106.cell? ⟨W59.heap.size, 1, none⟩ = some (.slice a64 (oF (insV x0 x1)).args.length c65) := (K67.out.cell 1).trans rfl
      have q115 : W106.cell? ⟨W27.heap.size, 0, none⟩ = some (.string (oF (insV x0 x1)).rel) := (K35.out.cell 0).trans rfl
      have q116 : W106.cell? ⟨W27.heap.size, 1, none⟩ = some (.slice a32 (oF (insV x0 x1)).args.length c33) := (K35.out.cell 1).trans rfl
      go_wp2_with fail
      clear q113 q114 q115 q116
      refine (ceq_fact ((N62.out).af) ((N30.out).af) ).mono ?_
      rintro e W117 ⟨rfl, b118⟩
      have s119 : W106.heap.size ≤ W117.heap.size := b118.size
      replace M0 := Lib.hid (M0.out.up b118)
      replace M1 := Lib.hid (M1.out.up b118)
      replace N30 := Lib.hid (N30.out.up b118)
      replace N62 := Lib.hid (N62.out.up b118)
      replace K0 := Lib.hid (K0.out.up b118)
      replace K35 := Lib.hid (K35.out.up b118)
      replace K67 := Lib.hid (K67.out.up b118)
      replace B := Lib.hid (Up.tr B.out b118)
      clear b118
      have q120 : W117.cell? ⟨W59.heap.size, 0, none⟩ = some (.string (oF (insV x0 x1)).rel) := (K67.out.cell 0).trans rfl
      have q121 : W117.cell? ⟨W59.heap.size, 1, none⟩ = some (.slice a64 (oF (insV x0 x1)).args.length c65) := (K67.out.cell 1).trans rfl
      go_wp2_with fail
      clear q120 q121
      have cb125 := ctF_le (x := (oF (insV x0 x1))) (by omega)
      refine (cmk_fact (N62.out) (k := 1) (by omega) (by omega)).mono ?_
      rintro e W122 ⟨rfl, h126, c127⟩
      have s124 : W117.heap.size ≤ W122.heap.size := c127.size
      have i128 : (0 : Int) ≤ ((1 + ctF ((oF (insV x0 x1))) : Nat) : Int) := by omega
      replace M0 := Lib.hid (M0.out.chg c127 (by omega))
      replace M1 := Lib.hid (M1.out.chg c127 (by omega))
      replace N30 := Lib.hid (N30.out.chg c127 (by omega))
      replace K0 := Lib.hid (K0.out.chg c127 (by omega))
      replace K35 := Lib.hid (K35.out.chg c127 (by omega))
      replace K67 := Lib.hid (K67.out.chg c127 (by omega))
      replace B := Lib.hid (c127.below B.out (by omega) (by have := B.out.size; omega))
      replace N62 := Lib.hid h126
      clear h126
      clear c127
      have q129 : W122.cell? ⟨W59.heap.size, 0, none⟩ = some (.string (oF (insV x0 x1)).rel) := (K67.out.cell 0).trans rfl
      have q130 : W122.cell? ⟨W59.heap.size, 1, none⟩ = some (.slice a64 (oF (insV x0 x1)).args.length c65) := (K67.out.cell 1).trans rfl
      go_wp2_with fail
      clear q129 q130
      refine (chd_fact ((N62.out).af) (by omega) (by have := ctF_le (x := (oF (insV x0 x1))) (by omega); omega)).mono ?_
      rintro e W131 ⟨rfl, b132⟩
      have s133 : W122.heap.size ≤ W131.heap.size := b132.size
      have i134 : (0 : Int) ≤ ((1 + ctF ((oF (insV x0 x1))) : Nat) : Int) := by omega
      replace M0 := Lib.hid (M0.out.up b132)
      replace M1 := Lib.hid (M1.out.up b132)
      replace N30 := Lib.hid (N30.out.up b132)
      replace N62 := Lib.hid (N62.out.up b132)
      replace K0 := Lib.hid (K0.out.up b132)
      replace K35 := Lib.hid (K35.out.up b132)
      replace K67 := Lib.hid (K67.out.up b132)
      replace B := Lib.hid (Up.tr B.out b132)
      clear b132
      have q135 : W131.cell? ⟨w.heap.size, 0, none⟩ = some (.string x0.rel) := (K0.out.cell 0).trans rfl
      have q136 : W131.cell? ⟨w.heap.size, 1, none⟩ = some (.slice a0 x0.args.length c0) := (K0.out.cell 1).trans rfl
      go_wp2_with fail
      clear q135 q136
      refine (cto_pat ((M0.out)) hz0).mono ?_
      rintro e W137 ⟨u141, rfl, hN140, b138⟩
      have s139 : W131.heap.size ≤ W137.heap.size := b138.size
      obtain ⟨a142, c143, rfl⟩ := hN140.1.form
      have N140 := Lib.hid hN140
      clear hN140
      clear M0
      clear K0
      replace M1 := Lib.hid (M1.out.up b138)
      replace N30 := Lib.hid (N30.out.up b138)
      replace N62 := Lib.hid (N62.out.up b138)
      replace K35 := Lib.hid (K35.out.up b138)
      replace K67 := Lib.hid (K67.out.up b138)
      replace B := Lib.hid (Up.tr B.out b138)
      clear b138
      go_wp2_with fail
      refine (cto_pairs ((M1.out)) hz1).mono ?_
      rintro e W144 ⟨u148, rfl, hN147, b145⟩
      have s146 : W137.heap.size ≤ W144.heap.size := b145.size
      have N147 := Lib.hid hN147
      clear hN147
      clear M1
      replace N30 := Lib.hid (N30.out.up b145)
      replace N62 := Lib.hid (N62.out.up b145)
      replace N140 := Lib.hid (N140.out.up b145)
      replace K35 := Lib.hid (K35.out.up b145)
      replace K67 := Lib.hid (K67.out.up b145)
      replace B := Lib.hid (Up.tr B.out b145)
      clear b145
      go_wp2_with fail
      refine (cInst ((N140.out).af) ((N147.out).sp) hz0 hz1).mono ?_
      rintro e W149 ⟨u153, rfl, hN152, b150⟩
      have s151 : W144.heap.size ≤ W149.heap.size := b150.size
      obtain ⟨a154, c155, rfl⟩ := hN152.1.form
      have N152 := Lib.hid hN152
      clear hN152
      have z156 : fsz (oF (insV x0 x1)) ≤ 4194304 := oF_ins_fsz (y := x1) (by omega)
      clear N140
      clear N147
      replace N30 := Lib.hid (N30.out.up b150)
      replace N62 := Lib.hid (N62.out.up b150)
      replace K35 := Lib.hid (K35.out.up b150)
      replace K67 := Lib.hid (K67.out.up b150)
      replace B := Lib.hid (Up.tr B.out b150)
      clear b150
      have q158 : (W149.alloc (.cells #[.string (oF (insV x0 x1)).rel, .slice a154 (oF (insV x0 x1)).args.length c155] 79)).cell? ⟨W27.heap.size, 0, none⟩ = some (.string (oF (insV x0 x1)).rel) := ((K35.out.up (Up.al1 _ _)).cell 0).trans rfl
      have q159 : (W149.alloc (.cells #[.string (oF (insV x0 x1)).rel, .slice a154 (oF (insV x0 x1)).args.length c155] 79)).cell? ⟨W27.heap.size, 1, none⟩ = some (.slice a32 (oF (insV x0 x1)).args.length c33) := ((K35.out.up (Up.al1 _ _)).cell 1).trans rfl
      go_wp2_with fail
      clear q158 q159
      have b161 : Up W149 (W149.alloc (.cells #[.string (oF (insV x0 x1)).rel, .slice a154 (oF (insV x0 x1)).args.length c155] 79)) := Up.al1 _ _
      have hK157 : Blk (W149.alloc (.cells #[.string (oF (insV x0 x1)).rel, .slice a154 (oF (insV x0 x1)).args.length c155] 79)) W149.heap.size 79 #[.string (oF (insV x0 x1)).rel, .slice a154 (oF (insV x0 x1)).args.length c155] := Blk.new _ _ _
      have s162 : W149.heap.size + 1 ≤ (W149.alloc (.cells #[.string (oF (insV x0 x1)).rel, .slice a154 (oF (insV x0 x1)).args.length c155] 79)).heap.size := by simp
      have K157 := Lib.hid hK157
      clear hK157
      generalize (W149.alloc (.cells #[.string (oF (insV x0 x1)).rel, .slice a154 (oF (insV x0 x1)).args.length c155] 79)) = W160 at *
      clear K35
      replace N30 := Lib.hid (N30.out.up b161)
      replace N62 := Lib.hid (N62.out.up b161)
      replace N152 := Lib.hid (N152.out.up b161)
      replace K67 := Lib.hid (K67.out.up b161)
      replace B := Lib.hid (Up.tr B.out b161)
      clear b161
      refine (ceq_fact ((N152.out).af) ((N30.out).af) ).mono ?_
      rintro e W163 ⟨rfl, b164⟩
      have s165 : W160.heap.size ≤ W163.heap.size := b164.size
      clear N30
      clear N152
      clear K157
      replace N62 := Lib.hid (N62.out.up b164)
      replace K67 := Lib.hid (K67.out.up b164)
      replace B := Lib.hid (Up.tr B.out b164)
      clear b164
      have q166 : W163.cell? ⟨W59.heap.size, 0, none⟩ = some (.string (oF (insV x0 x1)).rel) := (K67.out.cell 0).trans rfl
      have q167 : W163.cell? ⟨W59.heap.size, 1, none⟩ = some (.slice a64 (oF (insV x0 x1)).args.length c65) := (K67.out.cell 1).trans rfl
      go_wp2_with fail
      clear q166 q167
      refine (chd_fact ((N62.out).af) (by omega) (by have := ctF_le (x := (oF (insV x0 x1))) (by omega); omega)).mono ?_
      rintro e W168 ⟨rfl, b169⟩
      have s170 : W163.heap.size ≤ W168.heap.size := b169.size
      have i171 : (0 : Int) ≤ ((1 + ctF ((oF (insV x0 x1))) : Nat) : Int) := by omega
      clear N62
      clear K67
      replace B := Lib.hid (Up.tr B.out b169)
      clear b169
      go_wp2_with fail
      go_ret
      exact ⟨rfl, B.out⟩
    · have hn : szv (1048576 - (fsz x0 : Nat)) (psz x1) < 0 := by rw [szv_neg (by omega)]; omega
      go_wp2_with fail
      go_ret
      exact ⟨rfl, B.out⟩
  · have hn : szv (1048576) (fsz x0) < 0 := by rw [szv_neg (by omega)]; omega
    go_wp2_with fail
    go_ret
    exact ⟨rfl, B.out⟩
end Go.Proofs.Ytojgkodffmdnpaa
