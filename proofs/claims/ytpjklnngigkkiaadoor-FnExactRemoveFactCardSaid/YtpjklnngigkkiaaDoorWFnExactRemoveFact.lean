/- The walk of the law FnExactRemoveFact: for every input the call returns true and nothing that was there has turned. -/
import Derived.Test.YtpjklnngigkkiaaDoorMarkFs
import Derived.Test.YtpjklnngigkkiaaDoorRemF
import Derived.Test.YtpjklnngigkkiaaDoorLawAtom
namespace Go.Proofs.YtpjklnngigkkiaaDoor
open Go.RowKit
attribute [local go_sem ↓] Go.wp_at_zero Go.wp_at_succ
set_option linter.unusedVariables false
set_option maxHeartbeats 2000000 in
set_option maxRecDepth 100000 in
theorem walk_FnExactRemoveFact (w : World) (v0 : Value) (x0 : List FactV) (m0 : SF w 0 w.heap.size v0 x0) (o0 : okFs x0) (v1 : Value) (x1 : FactV) (m1 : AF w 0 w.heap.size v1 x1) (o1 : okF x1) (H_Tabs : Tabs w) :
    Calls Tryd.prog 11 #[v0, v1] w fun e w' => e = .returned (.bool true) ∧ Below w.heap.size w w' := by
  have M0 := Lib.hid (show Ob SF w 0 w.heap.size v0 x0 from ⟨m0, Nat.le_refl _⟩)
  have M1 := Lib.hid (show Ob AF w 0 w.heap.size v1 x1 from ⟨m1, Nat.le_refl _⟩)
  obtain ⟨a1, c1, rfl⟩ := AF.form m1
  clear m0
  clear m1
  have hb0 : Up w (w.alloc (.cells #[.string x1.rel, .slice a1 x1.args.length c1] 25)) := (Up.rf w).al _
  have hk1 : Blk (w.alloc (.cells #[.string x1.rel, .slice a1 x1.args.length c1] 25)) (w.heap.size) 25 #[.string x1.rel, .slice a1 x1.args.length c1] := by
    have := (Blk.new w 25 #[.string x1.rel, .slice a1 x1.args.length c1])
    simpa using this
  have K1 := Lib.hid hk1
  have hzW : w.heap.size + 1 ≤ (w.alloc (.cells #[.string x1.rel, .slice a1 x1.args.length c1] 25)).heap.size := by simp
  replace M0 := Lib.hid (M0.out.up hb0)
  replace M1 := Lib.hid (M1.out.up hb0)
  have B := Lib.hid hb0
  clear hb0 hk1
  go_enter Tryd.func11, Tryd.ntmps11
  go_wp2_with fail
  generalize (w.alloc (.cells #[.string x1.rel, .slice a1 x1.args.length c1] 25)) = W0 at *
  go_wp2_with fail
  refine (csz_facts ((M0.out)) o0 (by omega) (by omega)).mono ?_
  rintro e W1 ⟨rfl, b2⟩
  have s3 : W0.heap.size ≤ W1.heap.size := b2.size
  replace M0 := Lib.hid (M0.out.up b2)
  replace M1 := Lib.hid (M1.out.up b2)
  replace K1 := Lib.hid (K1.out.up b2)
  replace B := Lib.hid (Up.tr B.out b2)
  clear b2
  by_cases hl0 : ((fssz x0 : Nat) : Int) ≤ 1048576
  · skip
    rw [szv_pos hl0]
    have hz0 : fssz x0 ≤ 1048576 := by omega
    have q4 : W1.cell? ⟨w.heap.size, 0, none⟩ = some (.string x1.rel) := (K1.out.cell 0).trans rfl
    have q5 : W1.cell? ⟨w.heap.size, 1, none⟩ = some (.slice a1 x1.args.length c1) := (K1.out.cell 1).trans rfl
    go_wp2_with fail
    clear q4 q5
    refine (csz_fact ((M1.out)) o1 (by omega) (by omega)).mono ?_
    rintro e W6 ⟨rfl, b7⟩
    have s8 : W1.heap.size ≤ W6.heap.size := b7.size
    replace M0 := Lib.hid (M0.out.up b7)
    replace M1 := Lib.hid (M1.out.up b7)
    replace K1 := Lib.hid (K1.out.up b7)
    replace B := Lib.hid (Up.tr B.out b7)
    clear b7
    by_cases hl1 : ((fsz x1 : Nat) : Int) ≤ 1048576 - (fssz x0 : Nat)
    · skip
      rw [szv_pos hl1]
      have hz1 : fsz x1 ≤ 1048576 := by omega
      go_wp2_with fail
      have q9 : W6.cell? ⟨w.heap.size, 0, none⟩ = some (.string x1.rel) := (K1.out.cell 0).trans rfl
      have q10 : W6.cell? ⟨w.heap.size, 1, none⟩ = some (.slice a1 x1.args.length c1) := (K1.out.cell 1).trans rfl
      go_region_held3 (fun w' => w'.cell? ⟨w.heap.size, 0, none⟩ = some (.string x1.rel) ∧ w'.cell? ⟨w.heap.size, 1, none⟩ = some (.slice a1 x1.args.length c1) ∧ Up W6 w')
        (first | exact ⟨q9, q10, Up.dr (Up.rf _)⟩ | (have hh := ‹_ ∧ _ ∧ Up W6 _›; have hb := ‹Up _ _›; exact ⟨keepCell hb hh.1, keepCell hb hh.2.1, Up.tr hh.2.2 hb⟩))
        (first
          | (go_at_call 15; (with_reducible refine (cto_facts ((M0.out.up (‹_ ∧ _ ∧ Up W6 _›).2.2)) hz0).mono ?_); rintro e W11 ⟨u14, rfl, hN13, b12⟩)
          | (go_at_call 16; (with_reducible refine (cto_fact ((M1.out.up (‹_ ∧ _ ∧ Up W6 _›).2.2)) hz1).mono ?_); rintro e W15 ⟨u18, rfl, hN17, b16⟩)
          | (go_at_call 50; (with_reducible refine (cRemFactS (((hN13).up b16).sf) ((hN17).af) hz0 hz1).mono ?_); rintro e W19 ⟨u22, rfl, hN21, b20⟩))
      have b23 := (‹_ ∧ _ ∧ Up W6 _›).2.2
      have s24 : W6.heap.size ≤ W11.heap.size := b12.size
      have s25 : W11.heap.size ≤ W15.heap.size := b16.size
      have s26 : W15.heap.size ≤ W19.heap.size := b20.size
      have N21 := Lib.hid (hN21)
      replace M0 := Lib.hid (M0.out.up b23)
      replace M1 := Lib.hid (M1.out.up b23)
      replace K1 := Lib.hid (K1.out.up b23)
      replace B := Lib.hid (Up.tr B.out b23)
      clear q9 q10 b23
      clear hN21 hN17 hN13
      clear b20 b16 b12
      go_wp2_with fail
      refine (cto_facts ((M0.out)) hz0).mono ?_
      rintro e W27 ⟨u31, rfl, hN30, b28⟩
      have s29 : W19.heap.size ≤ W27.heap.size := b28.size
      have N30 := Lib.hid hN30
      clear hN30
      replace M0 := Lib.hid (M0.out.up b28)
      replace M1 := Lib.hid (M1.out.up b28)
      replace N21 := Lib.hid (N21.out.up b28)
      replace K1 := Lib.hid (K1.out.up b28)
      replace B := Lib.hid (Up.tr B.out b28)
      clear b28
      have q32 : W27.cell? ⟨w.heap.size, 0, none⟩ = some (.string x1.rel) := (K1.out.cell 0).trans rfl
      have q33 : W27.cell? ⟨w.heap.size, 1, none⟩ = some (.slice a1 x1.args.length c1) := (K1.out.cell 1).trans rfl
      go_wp2_with fail
      clear q32 q33
      refine (cto_fact ((M1.out)) hz1).mono ?_
      rintro e W34 ⟨u38, rfl, hN37, b35⟩
      have s36 : W27.heap.size ≤ W34.heap.size := b35.size
      obtain ⟨a39, c40, rfl⟩ := hN37.1.form
      have N37 := Lib.hid hN37
      clear hN37
      replace M0 := Lib.hid (M0.out.up b35)
      replace M1 := Lib.hid (M1.out.up b35)
      replace N21 := Lib.hid (N21.out.up b35)
      replace N30 := Lib.hid (N30.out.up b35)
      replace K1 := Lib.hid (K1.out.up b35)
      replace B := Lib.hid (Up.tr B.out b35)
      clear b35
      go_wp2_with fail
      have b43 : Up W34 (W34.alloc (.cells #[.string x1.rel, .slice a39 x1.args.length c40] 32)) := Up.al1 _ _
      have hK41 : Blk (W34.alloc (.cells #[.string x1.rel, .slice a39 x1.args.length c40] 32)) W34.heap.size 32 #[.string x1.rel, .slice a39 x1.args.length c40] := Blk.new _ _ _
      have s44 : W34.heap.size + 1 ≤ (W34.alloc (.cells #[.string x1.rel, .slice a39 x1.args.length c40] 32)).heap.size := by simp
      have K41 := Lib.hid hK41
      clear hK41
      generalize (W34.alloc (.cells #[.string x1.rel, .slice a39 x1.args.length c40] 32)) = W42 at *
      replace M0 := Lib.hid (M0.out.up b43)
      replace M1 := Lib.hid (M1.out.up b43)
      replace N21 := Lib.hid (N21.out.up b43)
      replace N30 := Lib.hid (N30.out.up b43)
      replace N37 := Lib.hid (N37.out.up b43)
      replace K1 := Lib.hid (K1.out.up b43)
      replace B := Lib.hid (Up.tr B.out b43)
      clear b43
      refine (cRemFact (H_Tabs.up (B.out)) ((N30.out).sf) ((N37.out).af) hz0 hz1).mono ?_
      rintro e W45 ⟨u49, rfl, hN48, b46⟩
      have s47 : W42.heap.size ≤ W45.heap.size := b46.size
      have N48 := Lib.hid hN48
      clear hN48
      have z50 : fssz (remV x0 x1) ≤ 4194304 := remV_fssz x0 x1 (by omega)
      replace M0 := Lib.hid (M0.out.up b46)
      replace M1 := Lib.hid (M1.out.up b46)
      replace N21 := Lib.hid (N21.out.up b46)
      replace N30 := Lib.hid (N30.out.up b46)
      replace N37 := Lib.hid (N37.out.up b46)
      replace K1 := Lib.hid (K1.out.up b46)
      replace K41 := Lib.hid (K41.out.up b46)
      replace B := Lib.hid (Up.tr B.out b46)
      clear b46
      go_wp2_with fail
      refine (ceq_facts ((N48.out).sf) ((N21.out).sf) ).mono ?_
      rintro e W51 ⟨rfl, b52⟩
      have s53 : W45.heap.size ≤ W51.heap.size := b52.size
      replace M0 := Lib.hid (M0.out.up b52)
      replace M1 := Lib.hid (M1.out.up b52)
      replace N21 := Lib.hid (N21.out.up b52)
      replace N30 := Lib.hid (N30.out.up b52)
      replace N37 := Lib.hid (N37.out.up b52)
      replace N48 := Lib.hid (N48.out.up b52)
      replace K1 := Lib.hid (K1.out.up b52)
      replace K41 := Lib.hid (K41.out.up b52)
      replace B := Lib.hid (Up.tr B.out b52)
      clear b52
      go_wp2_with fail
      refine (cto_facts ((M0.out)) hz0).mono ?_
      rintro e W54 ⟨u58, rfl, hN57, b55⟩
      have s56 : W51.heap.size ≤ W54.heap.size := b55.size
      have N57 := Lib.hid hN57
      clear hN57
      replace M0 := Lib.hid (M0.out.up b55)
      replace M1 := Lib.hid (M1.out.up b55)
      replace N21 := Lib.hid (N21.out.up b55)
      replace N30 := Lib.hid (N30.out.up b55)
      replace N37 := Lib.hid (N37.out.up b55)
      replace N48 := Lib.hid (N48.out.up b55)
      replace K1 := Lib.hid (K1.out.up b55)
      replace K41 := Lib.hid (K41.out.up b55)
      replace B := Lib.hid (Up.tr B.out b55)
      clear b55
      go_wp2_with fail
      refine (ceq_facts ((N30.out).sf) ((N57.out).sf) ).mono ?_
      rintro e W59 ⟨rfl, b60⟩
      have s61 : W54.heap.size ≤ W59.heap.size := b60.size
      clear N57
      replace M0 := Lib.hid (M0.out.up b60)
      replace M1 := Lib.hid (M1.out.up b60)
      replace N21 := Lib.hid (N21.out.up b60)
      replace N30 := Lib.hid (N30.out.up b60)
      replace N37 := Lib.hid (N37.out.up b60)
      replace N48 := Lib.hid (N48.out.up b60)
      replace K1 := Lib.hid (K1.out.up b60)
      replace K41 := Lib.hid (K41.out.up b60)
      replace B := Lib.hid (Up.tr B.out b60)
      clear b60
      go_wp2_with fail
      have q62 : W59.cell? ⟨W34.heap.size, 0, none⟩ = some (.string x1.rel) := (K41.out.cell 0).trans rfl
      have q63 : W59.cell? ⟨W34.heap.size, 1, none⟩ = some (.slice a39 x1.args.length c40) := (K41.out.cell 1).trans rfl
      have q64 : W59.cell? ⟨w.heap.size, 0, none⟩ = some (.string x1.rel) := (K1.out.cell 0).trans rfl
      have q65 : W59.cell? ⟨w.heap.size, 1, none⟩ = some (.slice a1 x1.args.length c1) := (K1.out.cell 1).trans rfl
      go_region_held3 (fun w' => w'.cell? ⟨W34.heap.size, 0, none⟩ = some (.string x1.rel) ∧ w'.cell? ⟨W34.heap.size, 1, none⟩ = some (.slice a39 x1.args.length c40) ∧ w'.cell? ⟨w.heap.size, 0, none⟩ = some (.string x1.rel) ∧ w'.cell? ⟨w.heap.size, 1, none⟩ = some (.slice a1 x1.args.length c1) ∧ Up W59 w')
        (first | exact ⟨q62, q63, q64, q65, Up.dr (Up.rf _)⟩ | (have hh := ‹_ ∧ _ ∧ _ ∧ _ ∧ Up W59 _›; have hb := ‹Up _ _›; exact ⟨keepCell hb hh.1, keepCell hb hh.2.1, keepCell hb hh.2.2.1, keepCell hb hh.2.2.2.1, Up.tr hh.2.2.2.2 hb⟩))
        (first
          | (go_at_call 16; (with_reducible refine (cto_fact ((M1.out.up (‹_ ∧ _ ∧ _ ∧ _ ∧ Up W59 _›).2.2.2.2)) hz1).mono ?_); rintro e W66 ⟨u69, rfl, hN68, b67⟩)
          | (go_at_call 19; (with_reducible refine (ceq_fact ((N37.out.up (‹_ ∧ _ ∧ _ ∧ _ ∧ Up W59 _›).2.2.2.2).af) ((hN68).af) ).mono ?_); rintro e W70 ⟨rfl, b71⟩))
      have b72 := (‹_ ∧ _ ∧ _ ∧ _ ∧ Up W59 _›).2.2.2.2
      have s73 : W59.heap.size ≤ W66.heap.size := b67.size
      have s74 : W66.heap.size ≤ W70.heap.size := b71.size
      replace M0 := Lib.hid (M0.out.up b72)
      replace M1 := Lib.hid (M1.out.up b72)
      replace N21 := Lib.hid (N21.out.up b72)
      replace N30 := Lib.hid (N30.out.up b72)
      replace N37 := Lib.hid (N37.out.up b72)
      replace N48 := Lib.hid (N48.out.up b72)
      replace K1 := Lib.hid (K1.out.up b72)
      replace K41 := Lib.hid (K41.out.up b72)
      replace B := Lib.hid (Up.tr B.out b72)
      clear q62 q63 q64 q65 b72
      clear hN68
      clear b71 b67
      go_wp2_with fail
      have cb78 := (show ctFs x0 ≤ 8388608 by first | omega | exact Nat.le_trans (ctFs_le (by omega)) (by omega))
      refine (cmk_facts (N30.out) (k0 := 1) (by omega) (by omega)).mono ?_
      rintro e W75 ⟨rfl, h79, c80⟩
      have s77 : W70.heap.size ≤ W75.heap.size := c80.size
      have i81 : (0 : Int) ≤ ((1 + ctFs (x0) : Nat) : Int) := by omega
      clear N30
      replace M0 := Lib.hid (M0.out.chg c80 (by omega))
      replace M1 := Lib.hid (M1.out.chg c80 (by omega))
      replace N21 := Lib.hid (N21.out.chg c80 (by omega))
      replace N37 := Lib.hid (N37.out.chg c80 (by omega))
      replace N48 := Lib.hid (N48.out.chg c80 (by omega))
      replace K1 := Lib.hid (K1.out.chg c80 (by omega))
      replace K41 := Lib.hid (K41.out.chg c80 (by omega))
      replace B := Lib.hid (c80.below B.out (by omega) (by have := B.out.size; omega))
      clear h79
      clear c80
      have q82 : W75.cell? ⟨W34.heap.size, 0, none⟩ = some (.string x1.rel) := (K41.out.cell 0).trans rfl
      have q83 : W75.cell? ⟨W34.heap.size, 1, none⟩ = some (.slice a39 x1.args.length c40) := (K41.out.cell 1).trans rfl
      go_wp2_with fail
      clear q82 q83
      have cb87 := (show ctF x1 ≤ 8388608 by first | omega | exact Nat.le_trans (ctF_le (by omega)) (by omega))
      refine (cmk_fact (N37.out) (k := (1 + ctFs (x0))) (by omega) (by omega)).mono ?_
      rintro e W84 ⟨rfl, h88, c89⟩
      have s86 : W75.heap.size ≤ W84.heap.size := c89.size
      have i90 : (0 : Int) ≤ (((1 + ctFs (x0)) + ctF (x1) : Nat) : Int) := by omega
      clear N37
      clear K41
      replace M0 := Lib.hid (M0.out.chg c89 (by omega))
      replace M1 := Lib.hid (M1.out.chg c89 (by omega))
      replace N21 := Lib.hid (N21.out.chg c89 (by omega))
      replace N48 := Lib.hid (N48.out.chg c89 (by omega))
      replace K1 := Lib.hid (K1.out.chg c89 (by omega))
      replace B := Lib.hid (c89.below B.out (by omega) (by have := B.out.size; omega))
      clear h88
      clear c89
      go_wp2_with fail
      refine (ceq_facts ((N48.out).sf) ((N21.out).sf) ).mono ?_
      rintro e W91 ⟨rfl, b92⟩
      have s93 : W84.heap.size ≤ W91.heap.size := b92.size
      replace M0 := Lib.hid (M0.out.up b92)
      replace M1 := Lib.hid (M1.out.up b92)
      replace N21 := Lib.hid (N21.out.up b92)
      replace N48 := Lib.hid (N48.out.up b92)
      replace K1 := Lib.hid (K1.out.up b92)
      replace B := Lib.hid (Up.tr B.out b92)
      clear b92
      go_wp2_with fail
      have cb97 := (show ctFs (remV x0 x1) ≤ 8388608 by first | omega | exact Nat.le_trans (ctFs_le (by omega)) (by omega))
      refine (cmk_facts (N48.out) (k0 := 1) (by omega) (by omega)).mono ?_
      rintro e W94 ⟨rfl, h98, c99⟩
      have s96 : W91.heap.size ≤ W94.heap.size := c99.size
      have i100 : (0 : Int) ≤ ((1 + ctFs ((remV x0 x1)) : Nat) : Int) := by omega
      replace M0 := Lib.hid (M0.out.chg c99 (by omega))
      replace M1 := Lib.hid (M1.out.chg c99 (by omega))
      replace N21 := Lib.hid (N21.out.chg c99 (by omega))
      replace K1 := Lib.hid (K1.out.chg c99 (by omega))
      replace B := Lib.hid (c99.below B.out (by omega) (by have := B.out.size; omega))
      replace N48 := Lib.hid h98
      clear h98
      clear c99
      go_wp2_with fail
      refine (chd_facts ((N48.out).sf) (by omega) (by have := (show ctFs (remV x0 x1) ≤ 8388608 by first | omega | exact Nat.le_trans (ctFs_le (by omega)) (by omega)); omega)).mono ?_
      rintro e W101 ⟨rfl, b102⟩
      have s103 : W94.heap.size ≤ W101.heap.size := b102.size
      have i104 : (0 : Int) ≤ ((1 + ctFs ((remV x0 x1)) : Nat) : Int) := by omega
      replace M0 := Lib.hid (M0.out.up b102)
      replace M1 := Lib.hid (M1.out.up b102)
      replace N21 := Lib.hid (N21.out.up b102)
      replace N48 := Lib.hid (N48.out.up b102)
      replace K1 := Lib.hid (K1.out.up b102)
      replace B := Lib.hid (Up.tr B.out b102)
      clear b102
      go_wp2_with fail
      have q105 : W101.cell? ⟨w.heap.size, 0, none⟩ = some (.string x1.rel) := (K1.out.cell 0).trans rfl
      have q106 : W101.cell? ⟨w.heap.size, 1, none⟩ = some (.slice a1 x1.args.length c1) := (K1.out.cell 1).trans rfl
      go_region_held3 (fun w' => w'.cell? ⟨w.heap.size, 0, none⟩ = some (.string x1.rel) ∧ w'.cell? ⟨w.heap.size, 1, none⟩ = some (.slice a1 x1.args.length c1) ∧ Up W101 w')
        (first | exact ⟨q105, q106, Up.dr (Up.rf _)⟩ | (have hh := ‹_ ∧ _ ∧ Up W101 _›; have hb := ‹Up _ _›; exact ⟨keepCell hb hh.1, keepCell hb hh.2.1, Up.tr hh.2.2 hb⟩))
        (first
          | (go_at_call 15; (with_reducible refine (cto_facts ((M0.out.up (‹_ ∧ _ ∧ Up W101 _›).2.2)) hz0).mono ?_); rintro e W107 ⟨u110, rfl, hN109, b108⟩)
          | (go_at_call 16; (with_reducible refine (cto_fact ((M1.out.up (‹_ ∧ _ ∧ Up W101 _›).2.2)) hz1).mono ?_); rintro e W111 ⟨u114, rfl, hN113, b112⟩)
          | (go_at_call 46; (with_reducible refine (cRemFact (H_Tabs.up (B.out.tr ((‹_ ∧ _ ∧ Up W101 _›).2.2))) (((hN109).up b112).sf) ((hN113).af) hz0 hz1).mono ?_); rintro e W115 ⟨u118, rfl, hN117, b116⟩))
      have b119 := (‹_ ∧ _ ∧ Up W101 _›).2.2
      have s120 : W101.heap.size ≤ W107.heap.size := b108.size
      have s121 : W107.heap.size ≤ W111.heap.size := b112.size
      have s122 : W111.heap.size ≤ W115.heap.size := b116.size
      have N117 := Lib.hid (hN117)
      clear M0
      clear M1
      clear K1
      replace N21 := Lib.hid (N21.out.up b119)
      replace N48 := Lib.hid (N48.out.up b119)
      replace B := Lib.hid (Up.tr B.out b119)
      clear q105 q106 b119
      clear hN117 hN113 hN109
      clear b116 b112 b108
      go_wp2_with fail
      refine (ceq_facts ((N117.out).sf) ((N21.out).sf) ).mono ?_
      rintro e W123 ⟨rfl, b124⟩
      have s125 : W115.heap.size ≤ W123.heap.size := b124.size
      clear N21
      clear N117
      replace N48 := Lib.hid (N48.out.up b124)
      replace B := Lib.hid (Up.tr B.out b124)
      clear b124
      go_wp2_with fail
      refine (chd_facts ((N48.out).sf) (by omega) (by have := (show ctFs (remV x0 x1) ≤ 8388608 by first | omega | exact Nat.le_trans (ctFs_le (by omega)) (by omega)); omega)).mono ?_
      rintro e W126 ⟨rfl, b127⟩
      have s128 : W123.heap.size ≤ W126.heap.size := b127.size
      have i129 : (0 : Int) ≤ ((1 + ctFs ((remV x0 x1)) : Nat) : Int) := by omega
      clear N48
      replace B := Lib.hid (Up.tr B.out b127)
      clear b127
      go_wp2_with fail
      go_ret
      exact ⟨rfl, B.out⟩
    · have hn : szv (1048576 - (fssz x0 : Nat)) (fsz x1) < 0 := by rw [szv_neg (by omega)]; omega
      go_wp2_with fail
      go_ret
      exact ⟨rfl, B.out⟩
  · have hn : szv (1048576) (fssz x0) < 0 := by rw [szv_neg (by omega)]; omega
    go_wp2_with fail
    go_ret
    exact ⟨rfl, B.out⟩
end Go.Proofs.YtpjklnngigkkiaaDoor
