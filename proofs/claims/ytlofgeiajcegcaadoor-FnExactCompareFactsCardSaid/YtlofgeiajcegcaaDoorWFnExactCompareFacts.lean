/- The walk of the law FnExactCompareFacts: for every input the call returns true and nothing that was there has turned. -/
import Derived.Test.YtlofgeiajcegcaaDoorCmpF
import Derived.Test.YtlofgeiajcegcaaDoorC1
namespace Go.Proofs.YtlofgeiajcegcaaDoor
open Go.RowKit
attribute [local go_sem ↓] Go.wp_at_zero Go.wp_at_succ
set_option linter.unusedVariables false
set_option maxHeartbeats 2000000 in
set_option maxRecDepth 100000 in
theorem walk_FnExactCompareFacts (w : World) (v0 : Value) (x0 : FactV) (m0 : AF w 0 w.heap.size v0 x0) (o0 : okF x0) (v1 : Value) (x1 : FactV) (m1 : AF w 0 w.heap.size v1 x1) (o1 : okF x1) (HT : Tabs w) :
    Calls Tryd.prog 6 #[v0, v1] w fun e w' => e = .returned (.bool true) ∧ Below w.heap.size w w' := by
  have M0 := Lib.hid (show Ob AF w 0 w.heap.size v0 x0 from ⟨m0, Nat.le_refl _⟩)
  have M1 := Lib.hid (show Ob AF w 0 w.heap.size v1 x1 from ⟨m1, Nat.le_refl _⟩)
  obtain ⟨a0, c0, rfl⟩ := AF.form m0
  obtain ⟨a1, c1, rfl⟩ := AF.form m1
  clear m0
  clear m1
  have hb0 : Up w ((w.alloc (.cells #[.string x0.rel, .slice a0 x0.args.length c0] 29)).alloc (.cells #[.string x1.rel, .slice a1 x1.args.length c1] 29)) := ((Up.rf w).al _).al _
  have hk0 : Blk ((w.alloc (.cells #[.string x0.rel, .slice a0 x0.args.length c0] 29)).alloc (.cells #[.string x1.rel, .slice a1 x1.args.length c1] 29)) (w.heap.size) 29 #[.string x0.rel, .slice a0 x0.args.length c0] := by
    have := ((Blk.new w 29 #[.string x0.rel, .slice a0 x0.args.length c0]).alloc (.cells #[.string x1.rel, .slice a1 x1.args.length c1] 29))
    simpa using this
  have K0 := Lib.hid hk0
  have hk1 : Blk ((w.alloc (.cells #[.string x0.rel, .slice a0 x0.args.length c0] 29)).alloc (.cells #[.string x1.rel, .slice a1 x1.args.length c1] 29)) (w.heap.size + 1) 29 #[.string x1.rel, .slice a1 x1.args.length c1] := by
    have := (Blk.new (w.alloc (.cells #[.string x0.rel, .slice a0 x0.args.length c0] 29)) 29 #[.string x1.rel, .slice a1 x1.args.length c1])
    simpa using this
  have K1 := Lib.hid hk1
  have hzW : w.heap.size + 2 ≤ ((w.alloc (.cells #[.string x0.rel, .slice a0 x0.args.length c0] 29)).alloc (.cells #[.string x1.rel, .slice a1 x1.args.length c1] 29)).heap.size := by simp
  replace M0 := Lib.hid (M0.out.up hb0)
  replace M1 := Lib.hid (M1.out.up hb0)
  have B := Lib.hid hb0
  clear hb0 hk0 hk1
  go_enter Tryd.func6, Tryd.ntmps6
  go_wp2_with fail
  generalize ((w.alloc (.cells #[.string x0.rel, .slice a0 x0.args.length c0] 29)).alloc (.cells #[.string x1.rel, .slice a1 x1.args.length c1] 29)) = W0 at *
  have q1 : W0.cell? ⟨w.heap.size, 0, none⟩ = some (.string x0.rel) := (K0.out.cell 0).trans rfl
  have q2 : W0.cell? ⟨w.heap.size, 1, none⟩ = some (.slice a0 x0.args.length c0) := (K0.out.cell 1).trans rfl
  go_wp2_with fail
  clear q1 q2
  refine (csz_fact ((M0.out)) o0 (by omega) (by omega)).mono ?_
  rintro e W3 ⟨rfl, b4⟩
  have s5 : W0.heap.size ≤ W3.heap.size := b4.size
  replace M0 := Lib.hid (M0.out.up b4)
  replace M1 := Lib.hid (M1.out.up b4)
  replace K0 := Lib.hid (K0.out.up b4)
  replace K1 := Lib.hid (K1.out.up b4)
  replace B := Lib.hid (Up.tr B.out b4)
  clear b4
  by_cases hl0 : ((fsz x0 : Nat) : Int) ≤ 1048576
  · skip
    rw [szv_pos hl0]
    have hz0 : fsz x0 ≤ 1048576 := by omega
    have q6 : W3.cell? ⟨w.heap.size + 1, 0, none⟩ = some (.string x1.rel) := (K1.out.cell 0).trans rfl
    have q7 : W3.cell? ⟨w.heap.size + 1, 1, none⟩ = some (.slice a1 x1.args.length c1) := (K1.out.cell 1).trans rfl
    go_wp2_with fail
    clear q6 q7
    refine (csz_fact ((M1.out)) o1 (by omega) (by omega)).mono ?_
    rintro e W8 ⟨rfl, b9⟩
    have s10 : W3.heap.size ≤ W8.heap.size := b9.size
    replace M0 := Lib.hid (M0.out.up b9)
    replace M1 := Lib.hid (M1.out.up b9)
    replace K0 := Lib.hid (K0.out.up b9)
    replace K1 := Lib.hid (K1.out.up b9)
    replace B := Lib.hid (Up.tr B.out b9)
    clear b9
    by_cases hl1 : ((fsz x1 : Nat) : Int) ≤ 1048576 - (fsz x0 : Nat)
    · skip
      rw [szv_pos hl1]
      have hz1 : fsz x1 ≤ 1048576 := by omega
      go_wp2_with fail
      have q11 : W8.cell? ⟨w.heap.size, 0, none⟩ = some (.string x0.rel) := (K0.out.cell 0).trans rfl
      have q12 : W8.cell? ⟨w.heap.size, 1, none⟩ = some (.slice a0 x0.args.length c0) := (K0.out.cell 1).trans rfl
      have q13 : W8.cell? ⟨w.heap.size + 1, 0, none⟩ = some (.string x1.rel) := (K1.out.cell 0).trans rfl
      have q14 : W8.cell? ⟨w.heap.size + 1, 1, none⟩ = some (.slice a1 x1.args.length c1) := (K1.out.cell 1).trans rfl
      go_region_held3 (fun w' => w'.cell? ⟨w.heap.size, 0, none⟩ = some (.string x0.rel) ∧ w'.cell? ⟨w.heap.size, 1, none⟩ = some (.slice a0 x0.args.length c0) ∧ w'.cell? ⟨w.heap.size + 1, 0, none⟩ = some (.string x1.rel) ∧ w'.cell? ⟨w.heap.size + 1, 1, none⟩ = some (.slice a1 x1.args.length c1) ∧ Up W8 w')
        (first | exact ⟨q11, q12, q13, q14, Up.dr (Up.rf _)⟩ | (have hh := ‹_ ∧ _ ∧ _ ∧ _ ∧ Up W8 _›; have hb := ‹Up _ _›; exact ⟨keepCell hb hh.1, keepCell hb hh.2.1, keepCell hb hh.2.2.1, keepCell hb hh.2.2.2.1, Up.tr hh.2.2.2.2 hb⟩))
        (first
          | (go_at_call 15; (with_reducible refine (cto_fact ((M0.out.up (‹_ ∧ _ ∧ _ ∧ _ ∧ Up W8 _›).2.2.2.2)) hz0).mono ?_); rintro e W15 ⟨u18, rfl, hN17, b16⟩)
          | (go_at_call 15; (with_reducible refine (cto_fact ((M1.out.up (‹_ ∧ _ ∧ _ ∧ _ ∧ Up W8 _›).2.2.2.2)) hz1).mono ?_); rintro e W19 ⟨u22, rfl, hN21, b20⟩)
          | (go_at_call 14; (with_reducible refine (cCmpFactsS (((hN17).up b20).af) ((hN21).af) hz0 hz1).mono ?_); rintro e W23 ⟨rfl, b24⟩))
      have b25 := (‹_ ∧ _ ∧ _ ∧ _ ∧ Up W8 _›).2.2.2.2
      have s26 : W8.heap.size ≤ W15.heap.size := b16.size
      have s27 : W15.heap.size ≤ W19.heap.size := b20.size
      have s28 : W19.heap.size ≤ W23.heap.size := b24.size
      replace M0 := Lib.hid (M0.out.up b25)
      replace M1 := Lib.hid (M1.out.up b25)
      replace K0 := Lib.hid (K0.out.up b25)
      replace K1 := Lib.hid (K1.out.up b25)
      replace B := Lib.hid (Up.tr B.out b25)
      clear q11 q12 q13 q14 b25
      clear hN21 hN17
      clear b24 b20 b16
      have q29 : W23.cell? ⟨w.heap.size, 0, none⟩ = some (.string x0.rel) := (K0.out.cell 0).trans rfl
      have q30 : W23.cell? ⟨w.heap.size, 1, none⟩ = some (.slice a0 x0.args.length c0) := (K0.out.cell 1).trans rfl
      go_wp2_with fail
      clear q29 q30
      refine (cto_fact ((M0.out)) hz0).mono ?_
      rintro e W31 ⟨u35, rfl, hN34, b32⟩
      have s33 : W23.heap.size ≤ W31.heap.size := b32.size
      obtain ⟨a36, c37, rfl⟩ := hN34.1.form
      have N34 := Lib.hid hN34
      clear hN34
      replace M0 := Lib.hid (M0.out.up b32)
      replace M1 := Lib.hid (M1.out.up b32)
      replace K0 := Lib.hid (K0.out.up b32)
      replace K1 := Lib.hid (K1.out.up b32)
      replace B := Lib.hid (Up.tr B.out b32)
      clear b32
      have q39 : (W31.alloc (.cells #[.string x0.rel, .slice a36 x0.args.length c37] 32)).cell? ⟨w.heap.size + 1, 0, none⟩ = some (.string x1.rel) := ((K1.out.up (Up.al1 _ _)).cell 0).trans rfl
      have q40 : (W31.alloc (.cells #[.string x0.rel, .slice a36 x0.args.length c37] 32)).cell? ⟨w.heap.size + 1, 1, none⟩ = some (.slice a1 x1.args.length c1) := ((K1.out.up (Up.al1 _ _)).cell 1).trans rfl
      go_wp2_with fail
      clear q39 q40
      have b42 : Up W31 (W31.alloc (.cells #[.string x0.rel, .slice a36 x0.args.length c37] 32)) := Up.al1 _ _
      have hK38 : Blk (W31.alloc (.cells #[.string x0.rel, .slice a36 x0.args.length c37] 32)) W31.heap.size 32 #[.string x0.rel, .slice a36 x0.args.length c37] := Blk.new _ _ _
      have s43 : W31.heap.size + 1 ≤ (W31.alloc (.cells #[.string x0.rel, .slice a36 x0.args.length c37] 32)).heap.size := by simp
      have K38 := Lib.hid hK38
      clear hK38
      generalize (W31.alloc (.cells #[.string x0.rel, .slice a36 x0.args.length c37] 32)) = W41 at *
      replace M0 := Lib.hid (M0.out.up b42)
      replace M1 := Lib.hid (M1.out.up b42)
      replace N34 := Lib.hid (N34.out.up b42)
      replace K0 := Lib.hid (K0.out.up b42)
      replace K1 := Lib.hid (K1.out.up b42)
      replace B := Lib.hid (Up.tr B.out b42)
      clear b42
      refine (cto_fact ((M1.out)) hz1).mono ?_
      rintro e W44 ⟨u48, rfl, hN47, b45⟩
      have s46 : W41.heap.size ≤ W44.heap.size := b45.size
      obtain ⟨a49, c50, rfl⟩ := hN47.1.form
      have N47 := Lib.hid hN47
      clear hN47
      replace M0 := Lib.hid (M0.out.up b45)
      replace M1 := Lib.hid (M1.out.up b45)
      replace N34 := Lib.hid (N34.out.up b45)
      replace K0 := Lib.hid (K0.out.up b45)
      replace K1 := Lib.hid (K1.out.up b45)
      replace K38 := Lib.hid (K38.out.up b45)
      replace B := Lib.hid (Up.tr B.out b45)
      clear b45
      have q52 : (W44.alloc (.cells #[.string x1.rel, .slice a49 x1.args.length c50] 32)).cell? ⟨W31.heap.size, 0, none⟩ = some (.string x0.rel) := ((K38.out.up (Up.al1 _ _)).cell 0).trans rfl
      have q53 : (W44.alloc (.cells #[.string x1.rel, .slice a49 x1.args.length c50] 32)).cell? ⟨W31.heap.size, 1, none⟩ = some (.slice a36 x0.args.length c37) := ((K38.out.up (Up.al1 _ _)).cell 1).trans rfl
      go_wp2_with fail
      clear q52 q53
      have b55 : Up W44 (W44.alloc (.cells #[.string x1.rel, .slice a49 x1.args.length c50] 32)) := Up.al1 _ _
      have hK51 : Blk (W44.alloc (.cells #[.string x1.rel, .slice a49 x1.args.length c50] 32)) W44.heap.size 32 #[.string x1.rel, .slice a49 x1.args.length c50] := Blk.new _ _ _
      have s56 : W44.heap.size + 1 ≤ (W44.alloc (.cells #[.string x1.rel, .slice a49 x1.args.length c50] 32)).heap.size := by simp
      have K51 := Lib.hid hK51
      clear hK51
      generalize (W44.alloc (.cells #[.string x1.rel, .slice a49 x1.args.length c50] 32)) = W54 at *
      replace M0 := Lib.hid (M0.out.up b55)
      replace M1 := Lib.hid (M1.out.up b55)
      replace N34 := Lib.hid (N34.out.up b55)
      replace N47 := Lib.hid (N47.out.up b55)
      replace K0 := Lib.hid (K0.out.up b55)
      replace K1 := Lib.hid (K1.out.up b55)
      replace K38 := Lib.hid (K38.out.up b55)
      replace B := Lib.hid (Up.tr B.out b55)
      clear b55
      refine (cCmpFacts (HT.up (B.out)) ((N34.out).af) ((N47.out).af) hz0 hz1).mono ?_
      rintro e W57 ⟨rfl, b58⟩
      have s59 : W54.heap.size ≤ W57.heap.size := b58.size
      replace M0 := Lib.hid (M0.out.up b58)
      replace M1 := Lib.hid (M1.out.up b58)
      replace N34 := Lib.hid (N34.out.up b58)
      replace N47 := Lib.hid (N47.out.up b58)
      replace K0 := Lib.hid (K0.out.up b58)
      replace K1 := Lib.hid (K1.out.up b58)
      replace K38 := Lib.hid (K38.out.up b58)
      replace K51 := Lib.hid (K51.out.up b58)
      replace B := Lib.hid (Up.tr B.out b58)
      clear b58
      go_wp2_with fail
      have q60 : W57.cell? ⟨W31.heap.size, 0, none⟩ = some (.string x0.rel) := (K38.out.cell 0).trans rfl
      have q61 : W57.cell? ⟨W31.heap.size, 1, none⟩ = some (.slice a36 x0.args.length c37) := (K38.out.cell 1).trans rfl
      have q62 : W57.cell? ⟨w.heap.size, 0, none⟩ = some (.string x0.rel) := (K0.out.cell 0).trans rfl
      have q63 : W57.cell? ⟨w.heap.size, 1, none⟩ = some (.slice a0 x0.args.length c0) := (K0.out.cell 1).trans rfl
      go_region_held3 (fun w' => w'.cell? ⟨W31.heap.size, 0, none⟩ = some (.string x0.rel) ∧ w'.cell? ⟨W31.heap.size, 1, none⟩ = some (.slice a36 x0.args.length c37) ∧ w'.cell? ⟨w.heap.size, 0, none⟩ = some (.string x0.rel) ∧ w'.cell? ⟨w.heap.size, 1, none⟩ = some (.slice a0 x0.args.length c0) ∧ Up W57 w')
        (first | exact ⟨q60, q61, q62, q63, Up.dr (Up.rf _)⟩ | (have hh := ‹_ ∧ _ ∧ _ ∧ _ ∧ Up W57 _›; have hb := ‹Up _ _›; exact ⟨keepCell hb hh.1, keepCell hb hh.2.1, keepCell hb hh.2.2.1, keepCell hb hh.2.2.2.1, Up.tr hh.2.2.2.2 hb⟩))
        (first
          | (go_at_call 15; (with_reducible refine (cto_fact ((M0.out.up (‹_ ∧ _ ∧ _ ∧ _ ∧ Up W57 _›).2.2.2.2)) hz0).mono ?_); rintro e W64 ⟨u67, rfl, hN66, b65⟩)
          | (go_at_call 17; (with_reducible refine (ceq_fact ((N34.out.up (‹_ ∧ _ ∧ _ ∧ _ ∧ Up W57 _›).2.2.2.2).af) ((hN66).af) ).mono ?_); rintro e W68 ⟨rfl, b69⟩))
      have b70 := (‹_ ∧ _ ∧ _ ∧ _ ∧ Up W57 _›).2.2.2.2
      have s71 : W57.heap.size ≤ W64.heap.size := b65.size
      have s72 : W64.heap.size ≤ W68.heap.size := b69.size
      clear M0
      clear N34
      clear K0
      clear K38
      replace M1 := Lib.hid (M1.out.up b70)
      replace N47 := Lib.hid (N47.out.up b70)
      replace K1 := Lib.hid (K1.out.up b70)
      replace K51 := Lib.hid (K51.out.up b70)
      replace B := Lib.hid (Up.tr B.out b70)
      clear q60 q61 q62 q63 b70
      clear hN66
      clear b69 b65
      go_wp2_with fail
      have q73 : W68.cell? ⟨W44.heap.size, 0, none⟩ = some (.string x1.rel) := (K51.out.cell 0).trans rfl
      have q74 : W68.cell? ⟨W44.heap.size, 1, none⟩ = some (.slice a49 x1.args.length c50) := (K51.out.cell 1).trans rfl
      have q75 : W68.cell? ⟨w.heap.size + 1, 0, none⟩ = some (.string x1.rel) := (K1.out.cell 0).trans rfl
      have q76 : W68.cell? ⟨w.heap.size + 1, 1, none⟩ = some (.slice a1 x1.args.length c1) := (K1.out.cell 1).trans rfl
      go_region_held3 (fun w' => w'.cell? ⟨W44.heap.size, 0, none⟩ = some (.string x1.rel) ∧ w'.cell? ⟨W44.heap.size, 1, none⟩ = some (.slice a49 x1.args.length c50) ∧ w'.cell? ⟨w.heap.size + 1, 0, none⟩ = some (.string x1.rel) ∧ w'.cell? ⟨w.heap.size + 1, 1, none⟩ = some (.slice a1 x1.args.length c1) ∧ Up W68 w')
        (first | exact ⟨q73, q74, q75, q76, Up.dr (Up.rf _)⟩ | (have hh := ‹_ ∧ _ ∧ _ ∧ _ ∧ Up W68 _›; have hb := ‹Up _ _›; exact ⟨keepCell hb hh.1, keepCell hb hh.2.1, keepCell hb hh.2.2.1, keepCell hb hh.2.2.2.1, Up.tr hh.2.2.2.2 hb⟩))
        (first
          | (go_at_call 15; (with_reducible refine (cto_fact ((M1.out.up (‹_ ∧ _ ∧ _ ∧ _ ∧ Up W68 _›).2.2.2.2)) hz1).mono ?_); rintro e W77 ⟨u80, rfl, hN79, b78⟩)
          | (go_at_call 17; (with_reducible refine (ceq_fact ((N47.out.up (‹_ ∧ _ ∧ _ ∧ _ ∧ Up W68 _›).2.2.2.2).af) ((hN79).af) ).mono ?_); rintro e W81 ⟨rfl, b82⟩))
      have b83 := (‹_ ∧ _ ∧ _ ∧ _ ∧ Up W68 _›).2.2.2.2
      have s84 : W68.heap.size ≤ W77.heap.size := b78.size
      have s85 : W77.heap.size ≤ W81.heap.size := b82.size
      clear M1
      clear N47
      clear K1
      clear K51
      replace B := Lib.hid (Up.tr B.out b83)
      clear q73 q74 q75 q76 b83
      clear hN79
      clear b82 b78
      go_wp2_with fail
      go_ret
      exact ⟨rfl, B.out⟩
    · have hn : szv (1048576 - (fsz x0 : Nat)) (fsz x1) < 0 := by rw [szv_neg (by omega)]; omega
      go_wp2_with fail
      go_ret
      exact ⟨rfl, B.out⟩
  · have hn : szv (1048576) (fsz x0) < 0 := by rw [szv_neg (by omega)]; omega
    go_wp2_with fail
    go_ret
    exact ⟨rfl, B.out⟩
end Go.Proofs.YtlofgeiajcegcaaDoor
