/- FormatFact and FormatPattern, the program's and the reference's: what is valid is written as a word with its arguments in parentheses; wherever the lengths can be counted. -/
import Derived.Test.YtojgkodffmdnpaaJoin
namespace Go.Proofs.Ytojgkodffmdnpaa
open Go.RowKit
attribute [local go_sem ↓] Go.wp_at_zero Go.wp_at_succ
set_option linter.unusedVariables false
theorem AF.tx8 {w : World} {lo hi n c : Nat} {r : ByteArray} {a : Option Addr} {f : FactV} (h : Ob AF w lo hi (.agg #[.string r, .slice a n c]) f) : Ob TX w lo hi (.slice a n c) f.args := by
  obtain ⟨⟨cs, e1, av, e2, ht⟩, hh⟩ := h
  subst e2
  have e3 : Value.slice a n c = av := by have := e1; simp at this; exact this.2
  subst e3
  exact ⟨ht, hh⟩
set_option maxHeartbeats 1000000 in
theorem cFormF {v : Value} {f : FactV} {lo hi : Nat} {w : World} (h : Ob AF w lo hi v f) (hz : fsz f ≤ 1048576) :
    Calls Try.prog 87 #[v] w fun e w' => e = .returned (.string (formF f)) ∧ Up w w' := by
  obtain ⟨a, cap, rfl⟩ := h.1.form
  have hb0 : Up w (w.alloc (.cells #[.string f.rel, .slice a f.args.length cap] 79)) := Up.al1 _ _
  have HF := Lib.hid (h.up hb0)
  have HT := Lib.hid (AF.tx8 (h.up hb0))
  have HK := Lib.hid (Blk.new w 79 #[.string f.rel, .slice a f.args.length cap])
  have HB := Lib.hid hb0
  clear h hb0
  go_enter Try.func87, Try.ntmps87
  go_wp2_with fail
  generalize (w.alloc (.cells #[.string f.rel, .slice a f.args.length cap] 79)) = W at *
  refine (cIsFact HF.out hz).mono ?_
  rintro e w1 ⟨rfl, b1⟩
  have HB1 := Lib.hid (HB.out.tr b1)
  cases h1 : isFactB f
  · have HE : Hid (formF f = ⟨#[]⟩) := by show _ = _; unfold formF; rw [h1]; rfl
    clear b1
    go_wp2
    go_ret
    exact ⟨ret_str HE.out.symm, HB1.out⟩
  · have HE : Hid (formF f = f.rel ++ ⟨#[40]⟩ ++ joinB f.args ⟨#[44]⟩ ++ ⟨#[41]⟩) := by show _ = _; unfold formF; rw [h1]; rfl
    obtain ⟨z1, z2, z3⟩ := isFact_args h1
    have hj := join_small (sep := ⟨#[44]⟩) z3 z2
    have hjz : (joinB f.args ⟨#[44]⟩).size ≤ 64 := by
      have : (⟨#[44]⟩ : ByteArray).size = 1 := rfl
      omega
    have hl : f.args.length ≤ 4194304 := by omega
    have hjz' : (joinB f.args ⟨#[44]⟩).size ≤ 140737488355328 := by omega
    have s1 : f.rel.size + 1 ≤ 9223372036854775807 := by omega
    have s2 : f.rel.size + 1 + (joinB f.args ⟨#[44]⟩).size ≤ 9223372036854775807 := by omega
    have s3 : f.rel.size + 1 + (joinB f.args ⟨#[44]⟩).size + 1 ≤ 9223372036854775807 := by omega
    have r1 : ∀ W, (Op.stringOp .add f.rel ⟨#[40]⟩).run Try.prog W = .ok (.string (f.rel ++ ⟨#[40]⟩)) W := fun W => run_string_add_sum W _ _ s1
    have r2 : ∀ W, (Op.stringOp .add (f.rel ++ ⟨#[40]⟩) (joinB f.args ⟨#[44]⟩)).run Try.prog W = .ok (.string (f.rel ++ ⟨#[40]⟩ ++ joinB f.args ⟨#[44]⟩)) W := fun W => run_string_add_sum W _ _ (by rw [ByteArray.size_append]; exact s2)
    have r3 : ∀ W, (Op.stringOp .add (f.rel ++ ⟨#[40]⟩ ++ joinB f.args ⟨#[44]⟩) ⟨#[41]⟩).run Try.prog W = .ok (.string (f.rel ++ ⟨#[40]⟩ ++ joinB f.args ⟨#[44]⟩ ++ ⟨#[41]⟩)) W := fun W => run_string_add_sum W _ _ (by rw [ByteArray.size_append, ByteArray.size_append]; exact s3)
    clear s1 s2 s3
    have HT1 := Lib.hid (HT.out.up b1)
    have c0 := (HK.out.up b1).cell0
    have c1 := (HK.out.up b1).cell1
    clear z1 z2 z3 hj b1 hjz
    go_wp2_with fail
    go_region_held3 (fun w' => w'.cell? ⟨w.heap.size, 0, none⟩ = some (.string f.rel) ∧ w'.cell? ⟨w.heap.size, 1, none⟩ = some (.slice a f.args.length cap) ∧ Up w1 w')
      (first | exact ⟨c0, c1, (Up.rf _).dr⟩ | (have hh := ‹_ ∧ _ ∧ _›; have hb := ‹Up _ _›; exact ⟨keepCell hb hh.1, keepCell hb hh.2.1, hh.2.2.tr hb⟩))
      (first | (go_at_call 76; have hh := ‹_ ∧ _ ∧ _›; have b6 := hh.2.2; (with_reducible refine (cJoin (HT1.out.up hh.2.2) hl hjz').mono ?_); clear hh; rintro e w2 ⟨rfl, b2⟩))
    have HB2 := Lib.hid (HB1.out.tr (Up.tr b6 b2))
    clear b6 b2 c0 c1
    go_wp2
    go_ret
    exact ⟨ret_str HE.out.symm, HB2.out⟩
set_option maxHeartbeats 1000000 in
theorem cFormFS {v : Value} {f : FactV} {lo hi : Nat} {w : World} (h : Ob AF w lo hi v f) (hz : fsz f ≤ 1048576) :
    Calls Try.prog 85 #[v] w fun e w' => e = .returned (.string (formF f)) ∧ Up w w' := by
  obtain ⟨a, cap, rfl⟩ := h.1.form
  have hb0 : Up w (w.alloc (.cells #[.string f.rel, .slice a f.args.length cap] 79)) := Up.al1 _ _
  have HF := Lib.hid (h.up hb0)
  have HT := Lib.hid (AF.tx8 (h.up hb0))
  have HK := Lib.hid (Blk.new w 79 #[.string f.rel, .slice a f.args.length cap])
  have HB := Lib.hid hb0
  clear h hb0
  go_enter Try.func85, Try.ntmps85
  go_wp2_with fail
  generalize (w.alloc (.cells #[.string f.rel, .slice a f.args.length cap] 79)) = W at *
  refine (cIsFactS HF.out hz).mono ?_
  rintro e w1 ⟨rfl, b1⟩
  have HB1 := Lib.hid (HB.out.tr b1)
  cases h1 : isFactB f
  · have HE : Hid (formF f = ⟨#[]⟩) := by show _ = _; unfold formF; rw [h1]; rfl
    clear b1
    go_wp2
    go_ret
    exact ⟨ret_str HE.out.symm, HB1.out⟩
  · have HE : Hid (formF f = f.rel ++ ⟨#[40]⟩ ++ joinB f.args ⟨#[44]⟩ ++ ⟨#[41]⟩) := by show _ = _; unfold formF; rw [h1]; rfl
    obtain ⟨z1, z2, z3⟩ := isFact_args h1
    have hj := join_small (sep := ⟨#[44]⟩) z3 z2
    have hjz : (joinB f.args ⟨#[44]⟩).size ≤ 64 := by
      have : (⟨#[44]⟩ : ByteArray).size = 1 := rfl
      omega
    have hl : f.args.length ≤ 4194304 := by omega
    have hjz' : (joinB f.args ⟨#[44]⟩).size ≤ 140737488355328 := by omega
    have s1 : f.rel.size + 1 ≤ 9223372036854775807 := by omega
    have s2 : f.rel.size + 1 + (joinB f.args ⟨#[44]⟩).size ≤ 9223372036854775807 := by omega
    have s3 : f.rel.size + 1 + (joinB f.args ⟨#[44]⟩).size + 1 ≤ 9223372036854775807 := by omega
    have r1 : ∀ W, (Op.stringOp .add f.rel ⟨#[40]⟩).run Try.prog W = .ok (.string (f.rel ++ ⟨#[40]⟩)) W := fun W => run_string_add_sum W _ _ s1
    have r2 : ∀ W, (Op.stringOp .add (f.rel ++ ⟨#[40]⟩) (joinB f.args ⟨#[44]⟩)).run Try.prog W = .ok (.string (f.rel ++ ⟨#[40]⟩ ++ joinB f.args ⟨#[44]⟩)) W := fun W => run_string_add_sum W _ _ (by rw [ByteArray.size_append]; exact s2)
    have r3 : ∀ W, (Op.stringOp .add (f.rel ++ ⟨#[40]⟩ ++ joinB f.args ⟨#[44]⟩) ⟨#[41]⟩).run Try.prog W = .ok (.string (f.rel ++ ⟨#[40]⟩ ++ joinB f.args ⟨#[44]⟩ ++ ⟨#[41]⟩)) W := fun W => run_string_add_sum W _ _ (by rw [ByteArray.size_append, ByteArray.size_append]; exact s3)
    clear s1 s2 s3
    have HT1 := Lib.hid (HT.out.up b1)
    have c0 := (HK.out.up b1).cell0
    have c1 := (HK.out.up b1).cell1
    clear z1 z2 z3 hj b1 hjz
    go_wp2_with fail
    go_region_held3 (fun w' => w'.cell? ⟨w.heap.size, 0, none⟩ = some (.string f.rel) ∧ w'.cell? ⟨w.heap.size, 1, none⟩ = some (.slice a f.args.length cap) ∧ Up w1 w')
      (first | exact ⟨c0, c1, (Up.rf _).dr⟩ | (have hh := ‹_ ∧ _ ∧ _›; have hb := ‹Up _ _›; exact ⟨keepCell hb hh.1, keepCell hb hh.2.1, hh.2.2.tr hb⟩))
      (first | (go_at_call 75; have hh := ‹_ ∧ _ ∧ _›; have b6 := hh.2.2; (with_reducible refine (cJoinS (HT1.out.up hh.2.2) hl hjz').mono ?_); clear hh; rintro e w2 ⟨rfl, b2⟩))
    have HB2 := Lib.hid (HB1.out.tr (Up.tr b6 b2))
    clear b6 b2 c0 c1
    go_wp2
    go_ret
    exact ⟨ret_str HE.out.symm, HB2.out⟩
set_option maxHeartbeats 1000000 in
theorem cFormP {v : Value} {f : FactV} {lo hi : Nat} {w : World} (h : Ob AF w lo hi v f) (hz : fsz f ≤ 1048576) :
    Calls Try.prog 99 #[v] w fun e w' => e = .returned (.string (formP f)) ∧ Up w w' := by
  obtain ⟨a, cap, rfl⟩ := h.1.form
  have hb0 : Up w (w.alloc (.cells #[.string f.rel, .slice a f.args.length cap] 30)) := Up.al1 _ _
  have HF := Lib.hid (h.up hb0)
  have HT := Lib.hid (AF.tx8 (h.up hb0))
  have HK := Lib.hid (Blk.new w 30 #[.string f.rel, .slice a f.args.length cap])
  have HB := Lib.hid hb0
  clear h hb0
  go_enter Try.func99, Try.ntmps99
  go_wp2_with fail
  generalize (w.alloc (.cells #[.string f.rel, .slice a f.args.length cap] 30)) = W at *
  refine (cIsPattern HF.out hz).mono ?_
  rintro e w1 ⟨rfl, b1⟩
  have HB1 := Lib.hid (HB.out.tr b1)
  cases h1 : isPatB f
  · have HE : Hid (formP f = ⟨#[]⟩) := by show _ = _; unfold formP; rw [h1]; rfl
    clear b1
    go_wp2
    go_ret
    exact ⟨ret_str HE.out.symm, HB1.out⟩
  · have HE : Hid (formP f = f.rel ++ ⟨#[40]⟩ ++ joinB f.args ⟨#[44]⟩ ++ ⟨#[41]⟩) := by show _ = _; unfold formP; rw [h1]; rfl
    obtain ⟨z1, z2, z3⟩ := isPat_args h1
    have hj := join_small (sep := ⟨#[44]⟩) z3 z2
    have hjz : (joinB f.args ⟨#[44]⟩).size ≤ 64 := by
      have : (⟨#[44]⟩ : ByteArray).size = 1 := rfl
      omega
    have hl : f.args.length ≤ 4194304 := by omega
    have hjz' : (joinB f.args ⟨#[44]⟩).size ≤ 140737488355328 := by omega
    have s1 : f.rel.size + 1 ≤ 9223372036854775807 := by omega
    have s2 : f.rel.size + 1 + (joinB f.args ⟨#[44]⟩).size ≤ 9223372036854775807 := by omega
    have s3 : f.rel.size + 1 + (joinB f.args ⟨#[44]⟩).size + 1 ≤ 9223372036854775807 := by omega
    have r1 : ∀ W, (Op.stringOp .add f.rel ⟨#[40]⟩).run Try.prog W = .ok (.string (f.rel ++ ⟨#[40]⟩)) W := fun W => run_string_add_sum W _ _ s1
    have r2 : ∀ W, (Op.stringOp .add (f.rel ++ ⟨#[40]⟩) (joinB f.args ⟨#[44]⟩)).run Try.prog W = .ok (.string (f.rel ++ ⟨#[40]⟩ ++ joinB f.args ⟨#[44]⟩)) W := fun W => run_string_add_sum W _ _ (by rw [ByteArray.size_append]; exact s2)
    have r3 : ∀ W, (Op.stringOp .add (f.rel ++ ⟨#[40]⟩ ++ joinB f.args ⟨#[44]⟩) ⟨#[41]⟩).run Try.prog W = .ok (.string (f.rel ++ ⟨#[40]⟩ ++ joinB f.args ⟨#[44]⟩ ++ ⟨#[41]⟩)) W := fun W => run_string_add_sum W _ _ (by rw [ByteArray.size_append, ByteArray.size_append]; exact s3)
    clear s1 s2 s3
    have HT1 := Lib.hid (HT.out.up b1)
    have c0 := (HK.out.up b1).cell0
    have c1 := (HK.out.up b1).cell1
    clear z1 z2 z3 hj b1 hjz
    go_wp2_with fail
    go_region_held3 (fun w' => w'.cell? ⟨w.heap.size, 0, none⟩ = some (.string f.rel) ∧ w'.cell? ⟨w.heap.size, 1, none⟩ = some (.slice a f.args.length cap) ∧ Up w1 w')
      (first | exact ⟨c0, c1, (Up.rf _).dr⟩ | (have hh := ‹_ ∧ _ ∧ _›; have hb := ‹Up _ _›; exact ⟨keepCell hb hh.1, keepCell hb hh.2.1, hh.2.2.tr hb⟩))
      (first | (go_at_call 76; have hh := ‹_ ∧ _ ∧ _›; have b6 := hh.2.2; (with_reducible refine (cJoin (HT1.out.up hh.2.2) hl hjz').mono ?_); clear hh; rintro e w2 ⟨rfl, b2⟩))
    have HB2 := Lib.hid (HB1.out.tr (Up.tr b6 b2))
    clear b6 b2 c0 c1
    go_wp2
    go_ret
    exact ⟨ret_str HE.out.symm, HB2.out⟩
set_option maxHeartbeats 1000000 in
theorem cFormPS {v : Value} {f : FactV} {lo hi : Nat} {w : World} (h : Ob AF w lo hi v f) (hz : fsz f ≤ 1048576) :
    Calls Try.prog 97 #[v] w fun e w' => e = .returned (.string (formP f)) ∧ Up w w' := by
  obtain ⟨a, cap, rfl⟩ := h.1.form
  have hb0 : Up w (w.alloc (.cells #[.string f.rel, .slice a f.args.length cap] 30)) := Up.al1 _ _
  have HF := Lib.hid (h.up hb0)
  have HT := Lib.hid (AF.tx8 (h.up hb0))
  have HK := Lib.hid (Blk.new w 30 #[.string f.rel, .slice a f.args.length cap])
  have HB := Lib.hid hb0
  clear h hb0
  go_enter Try.func97, Try.ntmps97
  go_wp2_with fail
  generalize (w.alloc (.cells #[.string f.rel, .slice a f.args.length cap] 30)) = W at *
  refine (cIsPatternS HF.out hz).mono ?_
  rintro e w1 ⟨rfl, b1⟩
  have HB1 := Lib.hid (HB.out.tr b1)
  cases h1 : isPatB f
  · have HE : Hid (formP f = ⟨#[]⟩) := by show _ = _; unfold formP; rw [h1]; rfl
    clear b1
    go_wp2
    go_ret
    exact ⟨ret_str HE.out.symm, HB1.out⟩
  · have HE : Hid (formP f = f.rel ++ ⟨#[40]⟩ ++ joinB f.args ⟨#[44]⟩ ++ ⟨#[41]⟩) := by show _ = _; unfold formP; rw [h1]; rfl
    obtain ⟨z1, z2, z3⟩ := isPat_args h1
    have hj := join_small (sep := ⟨#[44]⟩) z3 z2
    have hjz : (joinB f.args ⟨#[44]⟩).size ≤ 64 := by
      have : (⟨#[44]⟩ : ByteArray).size = 1 := rfl
      omega
    have hl : f.args.length ≤ 4194304 := by omega
    have hjz' : (joinB f.args ⟨#[44]⟩).size ≤ 140737488355328 := by omega
    have s1 : f.rel.size + 1 ≤ 9223372036854775807 := by omega
    have s2 : f.rel.size + 1 + (joinB f.args ⟨#[44]⟩).size ≤ 9223372036854775807 := by omega
    have s3 : f.rel.size + 1 + (joinB f.args ⟨#[44]⟩).size + 1 ≤ 9223372036854775807 := by omega
    have r1 : ∀ W, (Op.stringOp .add f.rel ⟨#[40]⟩).run Try.prog W = .ok (.string (f.rel ++ ⟨#[40]⟩)) W := fun W => run_string_add_sum W _ _ s1
    have r2 : ∀ W, (Op.stringOp .add (f.rel ++ ⟨#[40]⟩) (joinB f.args ⟨#[44]⟩)).run Try.prog W = .ok (.string (f.rel ++ ⟨#[40]⟩ ++ joinB f.args ⟨#[44]⟩)) W := fun W => run_string_add_sum W _ _ (by rw [ByteArray.size_append]; exact s2)
    have r3 : ∀ W, (Op.stringOp .add (f.rel ++ ⟨#[40]⟩ ++ joinB f.args ⟨#[44]⟩) ⟨#[41]⟩).run Try.prog W = .ok (.string (f.rel ++ ⟨#[40]⟩ ++ joinB f.args ⟨#[44]⟩ ++ ⟨#[41]⟩)) W := fun W => run_string_add_sum W _ _ (by rw [ByteArray.size_append, ByteArray.size_append]; exact s3)
    clear s1 s2 s3
    have HT1 := Lib.hid (HT.out.up b1)
    have c0 := (HK.out.up b1).cell0
    have c1 := (HK.out.up b1).cell1
    clear z1 z2 z3 hj b1 hjz
    go_wp2_with fail
    go_region_held3 (fun w' => w'.cell? ⟨w.heap.size, 0, none⟩ = some (.string f.rel) ∧ w'.cell? ⟨w.heap.size, 1, none⟩ = some (.slice a f.args.length cap) ∧ Up w1 w')
      (first | exact ⟨c0, c1, (Up.rf _).dr⟩ | (have hh := ‹_ ∧ _ ∧ _›; have hb := ‹Up _ _›; exact ⟨keepCell hb hh.1, keepCell hb hh.2.1, hh.2.2.tr hb⟩))
      (first | (go_at_call 75; have hh := ‹_ ∧ _ ∧ _›; have b6 := hh.2.2; (with_reducible refine (cJoinS (HT1.out.up hh.2.2) hl hjz').mono ?_); clear hh; rintro e w2 ⟨rfl, b2⟩))
    have HB2 := Lib.hid (HB1.out.tr (Up.tr b6 b2))
    clear b6 b2 c0 c1
    go_wp2
    go_ret
    exact ⟨ret_str HE.out.symm, HB2.out⟩
end Go.Proofs.Ytojgkodffmdnpaa
