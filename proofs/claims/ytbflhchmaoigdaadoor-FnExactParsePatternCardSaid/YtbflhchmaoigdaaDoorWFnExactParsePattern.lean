/- The walk of the law FnExactParsePattern: for every input the call returns true and nothing that was there has turned. -/
import Derived.Test.YtbflhchmaoigdaaDoorMarkFs
import Derived.Test.YtbflhchmaoigdaaDoorParF
import Derived.Test.YtbflhchmaoigdaaDoorLawAtom
namespace Go.Proofs.YtbflhchmaoigdaaDoor
open Go.RowKit
attribute [local go_sem ↓] Go.wp_at_zero Go.wp_at_succ
set_option linter.unusedVariables false
set_option maxHeartbeats 2000000 in
set_option maxRecDepth 100000 in
theorem walk_FnExactParsePattern (w : World) (x0 : ByteArray) (o0 : okS x0) (H_MxL : MxL w) :
    Calls Tryd.prog 8 #[.string x0] w fun e w' => e = .returned (.bool true) ∧ Below w.heap.size w w' := by
  have B := Lib.hid (Up.rf w)
  by_cases hs0 : (x0.size : Int) ≤ 1048576
  · skip
    go_enter Tryd.func8, Tryd.ntmps8
    go_wp2_with fail
    refine (cParsePS  (by omega)).mono ?_
    rintro e W1 ⟨u5, rfl, hN4, b2⟩
    have s3 : w.heap.size ≤ W1.heap.size := b2.size
    obtain ⟨a6, c7, rfl⟩ := hN4.1.form
    have N4 := Lib.hid hN4
    clear hN4
    have z8 : fsz (oF (parseB isPatB x0)) ≤ 4194304 := oF_parse x0 (by omega)
    replace B := Lib.hid (Up.tr B.out b2)
    clear b2
    go_wp2_with fail
    have b11 : Up W1 (W1.alloc (.cells #[.string (oF (parseB isPatB x0)).rel, .slice a6 (oF (parseB isPatB x0)).args.length c7] 35)) := Up.al1 _ _
    have hK9 : Blk (W1.alloc (.cells #[.string (oF (parseB isPatB x0)).rel, .slice a6 (oF (parseB isPatB x0)).args.length c7] 35)) W1.heap.size 35 #[.string (oF (parseB isPatB x0)).rel, .slice a6 (oF (parseB isPatB x0)).args.length c7] := Blk.new _ _ _
    have s12 : W1.heap.size + 1 ≤ (W1.alloc (.cells #[.string (oF (parseB isPatB x0)).rel, .slice a6 (oF (parseB isPatB x0)).args.length c7] 35)).heap.size := by simp
    have K9 := Lib.hid hK9
    clear hK9
    generalize (W1.alloc (.cells #[.string (oF (parseB isPatB x0)).rel, .slice a6 (oF (parseB isPatB x0)).args.length c7] 35)) = W10 at *
    replace N4 := Lib.hid (N4.out.up b11)
    replace B := Lib.hid (Up.tr B.out b11)
    clear b11
    refine (cParseP (H_MxL.up (B.out)) (by omega)).mono ?_
    rintro e W13 ⟨u17, rfl, hN16, b14⟩
    have s15 : W10.heap.size ≤ W13.heap.size := b14.size
    obtain ⟨a18, c19, rfl⟩ := hN16.1.form
    have N16 := Lib.hid hN16
    clear hN16
    have z20 : fsz (oF (parseB isPatB x0)) ≤ 4194304 := oF_parse x0 (by omega)
    replace N4 := Lib.hid (N4.out.up b14)
    replace K9 := Lib.hid (K9.out.up b14)
    replace B := Lib.hid (Up.tr B.out b14)
    clear b14
    have q22 : (W13.alloc (.cells #[.string (oF (parseB isPatB x0)).rel, .slice a18 (oF (parseB isPatB x0)).args.length c19] 35)).cell? ⟨W1.heap.size, 0, none⟩ = some (.string (oF (parseB isPatB x0)).rel) := ((K9.out.up (Up.al1 _ _)).cell 0).trans rfl
    have q23 : (W13.alloc (.cells #[.string (oF (parseB isPatB x0)).rel, .slice a18 (oF (parseB isPatB x0)).args.length c19] 35)).cell? ⟨W1.heap.size, 1, none⟩ = some (.slice a6 (oF (parseB isPatB x0)).args.length c7) := ((K9.out.up (Up.al1 _ _)).cell 1).trans rfl
    go_wp2_with fail
    clear q22 q23
    have b25 : Up W13 (W13.alloc (.cells #[.string (oF (parseB isPatB x0)).rel, .slice a18 (oF (parseB isPatB x0)).args.length c19] 35)) := Up.al1 _ _
    have hK21 : Blk (W13.alloc (.cells #[.string (oF (parseB isPatB x0)).rel, .slice a18 (oF (parseB isPatB x0)).args.length c19] 35)) W13.heap.size 35 #[.string (oF (parseB isPatB x0)).rel, .slice a18 (oF (parseB isPatB x0)).args.length c19] := Blk.new _ _ _
    have s26 : W13.heap.size + 1 ≤ (W13.alloc (.cells #[.string (oF (parseB isPatB x0)).rel, .slice a18 (oF (parseB isPatB x0)).args.length c19] 35)).heap.size := by simp
    have K21 := Lib.hid hK21
    clear hK21
    generalize (W13.alloc (.cells #[.string (oF (parseB isPatB x0)).rel, .slice a18 (oF (parseB isPatB x0)).args.length c19] 35)) = W24 at *
    replace N4 := Lib.hid (N4.out.up b25)
    replace N16 := Lib.hid (N16.out.up b25)
    replace K9 := Lib.hid (K9.out.up b25)
    replace B := Lib.hid (Up.tr B.out b25)
    clear b25
    refine (ceq_pat ((N16.out).af) ((N4.out).af) ).mono ?_
    rintro e W27 ⟨rfl, b28⟩
    have s29 : W24.heap.size ≤ W27.heap.size := b28.size
    replace N4 := Lib.hid (N4.out.up b28)
    replace N16 := Lib.hid (N16.out.up b28)
    replace K9 := Lib.hid (K9.out.up b28)
    replace K21 := Lib.hid (K21.out.up b28)
    replace B := Lib.hid (Up.tr B.out b28)
    clear b28
    have q30 : W27.cell? ⟨W13.heap.size, 0, none⟩ = some (.string (oF (parseB isPatB x0)).rel) := (K21.out.cell 0).trans rfl
    have q31 : W27.cell? ⟨W13.heap.size, 1, none⟩ = some (.slice a18 (oF (parseB isPatB x0)).args.length c19) := (K21.out.cell 1).trans rfl
    go_wp2_with fail
    clear q30 q31
    have cb35 := (show ctF (oF (parseB isPatB x0)) ≤ 8388608 by first | omega | exact Nat.le_trans (ctF_le (by omega)) (by omega))
    refine (cmk_pat (N16.out) (k := 1) (by omega) (by omega)).mono ?_
    rintro e W32 ⟨rfl, h36, c37⟩
    have s34 : W27.heap.size ≤ W32.heap.size := c37.size
    have i38 : (0 : Int) ≤ ((1 + ctF ((oF (parseB isPatB x0))) : Nat) : Int) := by omega
    replace N4 := Lib.hid (N4.out.chg c37 (by omega))
    replace K9 := Lib.hid (K9.out.chg c37 (by omega))
    replace K21 := Lib.hid (K21.out.chg c37 (by omega))
    replace B := Lib.hid (c37.below B.out (by omega) (by have := B.out.size; omega))
    replace N16 := Lib.hid h36
    clear h36
    clear c37
    have q39 : W32.cell? ⟨W13.heap.size, 0, none⟩ = some (.string (oF (parseB isPatB x0)).rel) := (K21.out.cell 0).trans rfl
    have q40 : W32.cell? ⟨W13.heap.size, 1, none⟩ = some (.slice a18 (oF (parseB isPatB x0)).args.length c19) := (K21.out.cell 1).trans rfl
    go_wp2_with fail
    clear q39 q40
    refine (chd_pat ((N16.out).af) (by omega) (by have := (show ctF (oF (parseB isPatB x0)) ≤ 8388608 by first | omega | exact Nat.le_trans (ctF_le (by omega)) (by omega)); omega)).mono ?_
    rintro e W41 ⟨rfl, b42⟩
    have s43 : W32.heap.size ≤ W41.heap.size := b42.size
    have i44 : (0 : Int) ≤ ((1 + ctF ((oF (parseB isPatB x0))) : Nat) : Int) := by omega
    replace N4 := Lib.hid (N4.out.up b42)
    replace N16 := Lib.hid (N16.out.up b42)
    replace K9 := Lib.hid (K9.out.up b42)
    replace K21 := Lib.hid (K21.out.up b42)
    replace B := Lib.hid (Up.tr B.out b42)
    clear b42
    go_wp2_with fail
    refine (cParseP (H_MxL.up (B.out)) (by omega)).mono ?_
    rintro e W45 ⟨u49, rfl, hN48, b46⟩
    have s47 : W41.heap.size ≤ W45.heap.size := b46.size
    obtain ⟨a50, c51, rfl⟩ := hN48.1.form
    have N48 := Lib.hid hN48
    clear hN48
    have z52 : fsz (oF (parseB isPatB x0)) ≤ 4194304 := oF_parse x0 (by omega)
    replace N4 := Lib.hid (N4.out.up b46)
    replace N16 := Lib.hid (N16.out.up b46)
    replace K9 := Lib.hid (K9.out.up b46)
    replace K21 := Lib.hid (K21.out.up b46)
    replace B := Lib.hid (Up.tr B.out b46)
    clear b46
    have q54 : (W45.alloc (.cells #[.string (oF (parseB isPatB x0)).rel, .slice a50 (oF (parseB isPatB x0)).args.length c51] 35)).cell? ⟨W1.heap.size, 0, none⟩ = some (.string (oF (parseB isPatB x0)).rel) := ((K9.out.up (Up.al1 _ _)).cell 0).trans rfl
    have q55 : (W45.alloc (.cells #[.string (oF (parseB isPatB x0)).rel, .slice a50 (oF (parseB isPatB x0)).args.length c51] 35)).cell? ⟨W1.heap.size, 1, none⟩ = some (.slice a6 (oF (parseB isPatB x0)).args.length c7) := ((K9.out.up (Up.al1 _ _)).cell 1).trans rfl
    go_wp2_with fail
    clear q54 q55
    have b57 : Up W45 (W45.alloc (.cells #[.string (oF (parseB isPatB x0)).rel, .slice a50 (oF (parseB isPatB x0)).args.length c51] 35)) := Up.al1 _ _
    have hK53 : Blk (W45.alloc (.cells #[.string (oF (parseB isPatB x0)).rel, .slice a50 (oF (parseB isPatB x0)).args.length c51] 35)) W45.heap.size 35 #[.string (oF (parseB isPatB x0)).rel, .slice a50 (oF (parseB isPatB x0)).args.length c51] := Blk.new _ _ _
    have s58 : W45.heap.size + 1 ≤ (W45.alloc (.cells #[.string (oF (parseB isPatB x0)).rel, .slice a50 (oF (parseB isPatB x0)).args.length c51] 35)).heap.size := by simp
    have K53 := Lib.hid hK53
    clear hK53
    generalize (W45.alloc (.cells #[.string (oF (parseB isPatB x0)).rel, .slice a50 (oF (parseB isPatB x0)).args.length c51] 35)) = W56 at *
    clear K9
    replace N4 := Lib.hid (N4.out.up b57)
    replace N16 := Lib.hid (N16.out.up b57)
    replace N48 := Lib.hid (N48.out.up b57)
    replace K21 := Lib.hid (K21.out.up b57)
    replace B := Lib.hid (Up.tr B.out b57)
    clear b57
    refine (ceq_pat ((N48.out).af) ((N4.out).af) ).mono ?_
    rintro e W59 ⟨rfl, b60⟩
    have s61 : W56.heap.size ≤ W59.heap.size := b60.size
    clear N4
    clear N48
    clear K53
    replace N16 := Lib.hid (N16.out.up b60)
    replace K21 := Lib.hid (K21.out.up b60)
    replace B := Lib.hid (Up.tr B.out b60)
    clear b60
    have q62 : W59.cell? ⟨W13.heap.size, 0, none⟩ = some (.string (oF (parseB isPatB x0)).rel) := (K21.out.cell 0).trans rfl
    have q63 : W59.cell? ⟨W13.heap.size, 1, none⟩ = some (.slice a18 (oF (parseB isPatB x0)).args.length c19) := (K21.out.cell 1).trans rfl
    go_wp2_with fail
    clear q62 q63
    refine (chd_pat ((N16.out).af) (by omega) (by have := (show ctF (oF (parseB isPatB x0)) ≤ 8388608 by first | omega | exact Nat.le_trans (ctF_le (by omega)) (by omega)); omega)).mono ?_
    rintro e W64 ⟨rfl, b65⟩
    have s66 : W59.heap.size ≤ W64.heap.size := b65.size
    have i67 : (0 : Int) ≤ ((1 + ctF ((oF (parseB isPatB x0))) : Nat) : Int) := by omega
    clear N16
    clear K21
    replace B := Lib.hid (Up.tr B.out b65)
    clear b65
    go_wp2_with fail
    go_ret
    exact ⟨rfl, B.out⟩
  · go_enter Tryd.func8, Tryd.ntmps8
    go_wp2_with fail
    go_ret
    exact ⟨rfl, B.out⟩
end Go.Proofs.YtbflhchmaoigdaaDoor
