/- The walk of the law FnExactIsTest: for every input the call returns true and nothing that was there has turned. -/
import Derived.Test.YtpbnglpiadfjpaaCond2
namespace Go.Proofs.Ytpbnglpiadfjpaa
open Go.RowKit
attribute [local go_sem ↓] Go.wp_at_zero Go.wp_at_succ
set_option linter.unusedVariables false
set_option maxHeartbeats 2000000 in
set_option maxRecDepth 100000 in
theorem walk_FnExactIsTest (w : World) (v0 : Value) (x0 : CondV) (m0 : AC w 0 w.heap.size v0 x0) (o0 : okC x0) :
    Calls Try.prog 8 #[v0] w fun e w' => e = .returned (.bool true) ∧ Below w.heap.size w w' := by
  have M0 := Lib.hid (show Ob AC w 0 w.heap.size v0 x0 from ⟨m0, Nat.le_refl _⟩)
  obtain ⟨a0, c0, rfl⟩ := AC.form m0
  clear m0
  have hb0 : Up w (w.alloc (.cells #[.int .i64 x0.kind, .string x0.pat.rel, .slice a0 x0.pat.args.length c0, .string x0.left, .string x0.right] 26)) := (Up.rf w).al _
  have hk0 : Blk (w.alloc (.cells #[.int .i64 x0.kind, .string x0.pat.rel, .slice a0 x0.pat.args.length c0, .string x0.left, .string x0.right] 26)) (w.heap.size) 26 #[.int .i64 x0.kind, .string x0.pat.rel, .slice a0 x0.pat.args.length c0, .string x0.left, .string x0.right] := by
    have := (Blk.new w 26 #[.int .i64 x0.kind, .string x0.pat.rel, .slice a0 x0.pat.args.length c0, .string x0.left, .string x0.right])
    simpa using this
  have K0 := Lib.hid hk0
  have hzW : w.heap.size + 1 ≤ (w.alloc (.cells #[.int .i64 x0.kind, .string x0.pat.rel, .slice a0 x0.pat.args.length c0, .string x0.left, .string x0.right] 26)).heap.size := by simp
  replace M0 := Lib.hid (M0.out.up hb0)
  have B := Lib.hid hb0
  clear hb0 hk0
  go_enter Try.func8, Try.ntmps8
  go_wp2_with fail
  generalize (w.alloc (.cells #[.int .i64 x0.kind, .string x0.pat.rel, .slice a0 x0.pat.args.length c0, .string x0.left, .string x0.right] 26)) = W0 at *
  have q1 : W0.cell? ⟨w.heap.size, 0, none⟩ = some (.int .i64 x0.kind) := (K0.out.cell 0).trans rfl
  have q2 : W0.cell? ⟨w.heap.size, 1, none⟩ = some (.string x0.pat.rel) := (K0.out.cell 1).trans rfl
  have q3 : W0.cell? ⟨w.heap.size, 2, none⟩ = some (.slice a0 x0.pat.args.length c0) := (K0.out.cell 2).trans rfl
  have q4 : W0.cell? ⟨w.heap.size, 3, none⟩ = some (.string x0.left) := (K0.out.cell 3).trans rfl
  have q5 : W0.cell? ⟨w.heap.size, 4, none⟩ = some (.string x0.right) := (K0.out.cell 4).trans rfl
  go_wp2_with fail
  clear q1 q2 q3 q4 q5
  refine (csz_cond ((M0.out)) o0 (by omega) (by omega)).mono ?_
  rintro e W6 ⟨rfl, b7⟩
  have s8 : W0.heap.size ≤ W6.heap.size := b7.size
  replace M0 := Lib.hid (M0.out.up b7)
  replace K0 := Lib.hid (K0.out.up b7)
  replace B := Lib.hid (Up.tr B.out b7)
  clear b7
  by_cases hl0 : ((csz x0 : Nat) : Int) ≤ 1048576
  · skip
    rw [szv_pos hl0]
    have hz0 : csz x0 ≤ 1048576 := by omega
    have q9 : W6.cell? ⟨w.heap.size, 0, none⟩ = some (.int .i64 x0.kind) := (K0.out.cell 0).trans rfl
    have q10 : W6.cell? ⟨w.heap.size, 1, none⟩ = some (.string x0.pat.rel) := (K0.out.cell 1).trans rfl
    have q11 : W6.cell? ⟨w.heap.size, 2, none⟩ = some (.slice a0 x0.pat.args.length c0) := (K0.out.cell 2).trans rfl
    have q12 : W6.cell? ⟨w.heap.size, 3, none⟩ = some (.string x0.left) := (K0.out.cell 3).trans rfl
    have q13 : W6.cell? ⟨w.heap.size, 4, none⟩ = some (.string x0.right) := (K0.out.cell 4).trans rfl
    go_wp2_with fail
    clear q9 q10 q11 q12 q13
    refine (cto_cond ((M0.out)) hz0).mono ?_
    rintro e W14 ⟨u18, rfl, hN17, b15⟩
    have s16 : W6.heap.size ≤ W14.heap.size := b15.size
    obtain ⟨a19, c20, rfl⟩ := hN17.1.form
    have N17 := Lib.hid hN17
    clear hN17
    replace M0 := Lib.hid (M0.out.up b15)
    replace K0 := Lib.hid (K0.out.up b15)
    replace B := Lib.hid (Up.tr B.out b15)
    clear b15
    have q21 : W14.cell? ⟨w.heap.size, 0, none⟩ = some (.int .i64 x0.kind) := (K0.out.cell 0).trans rfl
    have q22 : W14.cell? ⟨w.heap.size, 1, none⟩ = some (.string x0.pat.rel) := (K0.out.cell 1).trans rfl
    have q23 : W14.cell? ⟨w.heap.size, 2, none⟩ = some (.slice a0 x0.pat.args.length c0) := (K0.out.cell 2).trans rfl
    have q24 : W14.cell? ⟨w.heap.size, 3, none⟩ = some (.string x0.left) := (K0.out.cell 3).trans rfl
    have q25 : W14.cell? ⟨w.heap.size, 4, none⟩ = some (.string x0.right) := (K0.out.cell 4).trans rfl
    go_wp2_with fail
    clear q21 q22 q23 q24 q25
    refine (cIsTestS ((N17.out).ac) hz0).mono ?_
    rintro e W26 ⟨rfl, b27⟩
    have s28 : W14.heap.size ≤ W26.heap.size := b27.size
    clear N17
    replace M0 := Lib.hid (M0.out.up b27)
    replace K0 := Lib.hid (K0.out.up b27)
    replace B := Lib.hid (Up.tr B.out b27)
    clear b27
    have q29 : W26.cell? ⟨w.heap.size, 0, none⟩ = some (.int .i64 x0.kind) := (K0.out.cell 0).trans rfl
    have q30 : W26.cell? ⟨w.heap.size, 1, none⟩ = some (.string x0.pat.rel) := (K0.out.cell 1).trans rfl
    have q31 : W26.cell? ⟨w.heap.size, 2, none⟩ = some (.slice a0 x0.pat.args.length c0) := (K0.out.cell 2).trans rfl
    have q32 : W26.cell? ⟨w.heap.size, 3, none⟩ = some (.string x0.left) := (K0.out.cell 3).trans rfl
    have q33 : W26.cell? ⟨w.heap.size, 4, none⟩ = some (.string x0.right) := (K0.out.cell 4).trans rfl
    go_wp2_with fail
    clear q29 q30 q31 q32 q33
    refine (cto_cond ((M0.out)) hz0).mono ?_
    rintro e W34 ⟨u38, rfl, hN37, b35⟩
    have s36 : W26.heap.size ≤ W34.heap.size := b35.size
    obtain ⟨a39, c40, rfl⟩ := hN37.1.form
    have N37 := Lib.hid hN37
    clear hN37
    replace M0 := Lib.hid (M0.out.up b35)
    replace K0 := Lib.hid (K0.out.up b35)
    replace B := Lib.hid (Up.tr B.out b35)
    clear b35
    go_wp2_with fail
    have b43 : Up W34 (W34.alloc (.cells #[.int .i64 x0.kind, .string x0.pat.rel, .slice a39 x0.pat.args.length c40, .string x0.left, .string x0.right] 31)) := Up.al1 _ _
    have hK41 : Blk (W34.alloc (.cells #[.int .i64 x0.kind, .string x0.pat.rel, .slice a39 x0.pat.args.length c40, .string x0.left, .string x0.right] 31)) W34.heap.size 31 #[.int .i64 x0.kind, .string x0.pat.rel, .slice a39 x0.pat.args.length c40, .string x0.left, .string x0.right] := Blk.new _ _ _
    have s44 : W34.heap.size + 1 ≤ (W34.alloc (.cells #[.int .i64 x0.kind, .string x0.pat.rel, .slice a39 x0.pat.args.length c40, .string x0.left, .string x0.right] 31)).heap.size := by simp
    have K41 := Lib.hid hK41
    clear hK41
    generalize (W34.alloc (.cells #[.int .i64 x0.kind, .string x0.pat.rel, .slice a39 x0.pat.args.length c40, .string x0.left, .string x0.right] 31)) = W42 at *
    replace M0 := Lib.hid (M0.out.up b43)
    replace N37 := Lib.hid (N37.out.up b43)
    replace K0 := Lib.hid (K0.out.up b43)
    replace B := Lib.hid (Up.tr B.out b43)
    clear b43
    refine (cIsTest ((N37.out).ac) hz0).mono ?_
    rintro e W45 ⟨rfl, b46⟩
    have s47 : W42.heap.size ≤ W45.heap.size := b46.size
    replace M0 := Lib.hid (M0.out.up b46)
    replace N37 := Lib.hid (N37.out.up b46)
    replace K0 := Lib.hid (K0.out.up b46)
    replace K41 := Lib.hid (K41.out.up b46)
    replace B := Lib.hid (Up.tr B.out b46)
    clear b46
    go_wp2_with fail
    have q48 : W45.cell? ⟨W34.heap.size, 0, none⟩ = some (.int .i64 x0.kind) := (K41.out.cell 0).trans rfl
    have q49 : W45.cell? ⟨W34.heap.size, 1, none⟩ = some (.string x0.pat.rel) := (K41.out.cell 1).trans rfl
    have q50 : W45.cell? ⟨W34.heap.size, 2, none⟩ = some (.slice a39 x0.pat.args.length c40) := (K41.out.cell 2).trans rfl
    have q51 : W45.cell? ⟨W34.heap.size, 3, none⟩ = some (.string x0.left) := (K41.out.cell 3).trans rfl
    have q52 : W45.cell? ⟨W34.heap.size, 4, none⟩ = some (.string x0.right) := (K41.out.cell 4).trans rfl
    have q53 : W45.cell? ⟨w.heap.size, 0, none⟩ = some (.int .i64 x0.kind) := (K0.out.cell 0).trans rfl
    have q54 : W45.cell? ⟨w.heap.size, 1, none⟩ = some (.string x0.pat.rel) := (K0.out.cell 1).trans rfl
    have q55 : W45.cell? ⟨w.heap.size, 2, none⟩ = some (.slice a0 x0.pat.args.length c0) := (K0.out.cell 2).trans rfl
    have q56 : W45.cell? ⟨w.heap.size, 3, none⟩ = some (.string x0.left) := (K0.out.cell 3).trans rfl
    have q57 : W45.cell? ⟨w.heap.size, 4, none⟩ = some (.string x0.right) := (K0.out.cell 4).trans rfl
    go_region_held3 (fun w' => w'.cell? ⟨W34.heap.size, 0, none⟩ = some (.int .i64 x0.kind) ∧ w'.cell? ⟨W34.heap.size, 1, none⟩ = some (.string x0.pat.rel) ∧ w'.cell? ⟨W34.heap.size, 2, none⟩ = some (.slice a39 x0.pat.args.length c40) ∧ w'.cell? ⟨W34.heap.size, 3, none⟩ = some (.string x0.left) ∧ w'.cell? ⟨W34.heap.size, 4, none⟩ = some (.string x0.right) ∧ w'.cell? ⟨w.heap.size, 0, none⟩ = some (.int .i64 x0.kind) ∧ w'.cell? ⟨w.heap.size, 1, none⟩ = some (.string x0.pat.rel) ∧ w'.cell? ⟨w.heap.size, 2, none⟩ = some (.slice a0 x0.pat.args.length c0) ∧ w'.cell? ⟨w.heap.size, 3, none⟩ = some (.string x0.left) ∧ w'.cell? ⟨w.heap.size, 4, none⟩ = some (.string x0.right) ∧ Up W45 w')
      (first | exact ⟨q48, q49, q50, q51, q52, q53, q54, q55, q56, q57, Up.dr (Up.rf _)⟩ | (have hh := ‹_ ∧ _ ∧ _ ∧ _ ∧ _ ∧ _ ∧ _ ∧ _ ∧ _ ∧ _ ∧ Up W45 _›; have hb := ‹Up _ _›; exact ⟨keepCell hb hh.1, keepCell hb hh.2.1, keepCell hb hh.2.2.1, keepCell hb hh.2.2.2.1, keepCell hb hh.2.2.2.2.1, keepCell hb hh.2.2.2.2.2.1, keepCell hb hh.2.2.2.2.2.2.1, keepCell hb hh.2.2.2.2.2.2.2.1, keepCell hb hh.2.2.2.2.2.2.2.2.1, keepCell hb hh.2.2.2.2.2.2.2.2.2.1, Up.tr hh.2.2.2.2.2.2.2.2.2.2 hb⟩))
      (first
        | (go_at_call 17; (with_reducible refine (cto_cond ((M0.out.up (‹_ ∧ _ ∧ _ ∧ _ ∧ _ ∧ _ ∧ _ ∧ _ ∧ _ ∧ _ ∧ Up W45 _›).2.2.2.2.2.2.2.2.2.2)) hz0).mono ?_); rintro e W58 ⟨u61, rfl, hN60, b59⟩)
        | (go_at_call 19; (with_reducible refine (ceq_cond ((N37.out.up (‹_ ∧ _ ∧ _ ∧ _ ∧ _ ∧ _ ∧ _ ∧ _ ∧ _ ∧ _ ∧ Up W45 _›).2.2.2.2.2.2.2.2.2.2).ac) ((hN60).ac) ).mono ?_); rintro e W62 ⟨rfl, b63⟩))
    have b64 := (‹_ ∧ _ ∧ _ ∧ _ ∧ _ ∧ _ ∧ _ ∧ _ ∧ _ ∧ _ ∧ Up W45 _›).2.2.2.2.2.2.2.2.2.2
    have s65 : W45.heap.size ≤ W58.heap.size := b59.size
    have s66 : W58.heap.size ≤ W62.heap.size := b63.size
    clear M0
    clear N37
    clear K0
    clear K41
    replace B := Lib.hid (Up.tr B.out b64)
    clear q48 q49 q50 q51 q52 q53 q54 q55 q56 q57 b64
    clear hN60
    clear b63 b59
    go_wp2_with fail
    go_ret
    exact ⟨rfl, B.out⟩
  · have hn : szv (1048576) (csz x0) < 0 := by rw [szv_neg (by omega)]; omega
    go_wp2_with fail
    go_ret
    exact ⟨rfl, B.out⟩
end Go.Proofs.Ytpbnglpiadfjpaa
