/- FormatAction, the program's and the reference's; wherever the lengths can be counted. -/
import Derived.Test.YtojgkodffmdnpaaForm
import Derived.Test.YtojgkodffmdnpaaCond
namespace Go.Proofs.Ytojgkodffmdnpaa
open Go.RowKit
attribute [local go_sem ↓] Go.wp_at_zero Go.wp_at_succ
set_option linter.unusedVariables false
def formA (x : ActV) : ByteArray := if isActB x then (if x.kind = 1 then ⟨#[97, 100, 100, 32]⟩ ++ formP x.pat else if x.kind = 2 then ⟨#[100, 114, 111, 112, 32]⟩ ++ formP x.pat else ⟨#[115, 116, 111, 112]⟩) else ⟨#[]⟩
theorem formP_size (f : FactV) : (formP f).size ≤ 43 := by
  unfold formP; split
  · exact fmtF_pat ‹_›
  · simp [ByteArray.size]
set_option maxHeartbeats 1000000 in
theorem cFormA {v : Value} {x : ActV} {lo hi : Nat} {w : World} (h : Ob AA w lo hi v x) (hz : asz x ≤ 1048576) :
    Calls Try.prog 39 #[v] w fun e w' => e = .returned (.string (formA x)) ∧ Up w w' := by
  obtain ⟨a, cap, rfl⟩ := h.1.form
  have hb0 : Up w (w.alloc (.cells #[.int .i64 x.kind, .string x.pat.rel, .slice a x.pat.args.length cap] 67)) := Up.al1 _ _
  have HF := Lib.hid (h.up hb0)
  have HP := Lib.hid (Ob.apat (h.up hb0))
  have HK := Lib.hid (Blk.new w 67 #[.int .i64 x.kind, .string x.pat.rel, .slice a x.pat.args.length cap])
  have HB := Lib.hid hb0
  have hz' : fsz x.pat ≤ 1048576 := hz
  have hfs := formP_size x.pat
  have e4 : (⟨#[97, 100, 100, 32]⟩ : ByteArray).size = 4 := rfl
  have e5 : (⟨#[100, 114, 111, 112, 32]⟩ : ByteArray).size = 5 := rfl
  have r1 : ∀ W, (Op.stringOp .add ⟨#[97, 100, 100, 32]⟩ (formP x.pat)).run Try.prog W = .ok (.string (⟨#[97, 100, 100, 32]⟩ ++ formP x.pat)) W := fun W => run_string_add_sum W _ _ (by omega)
  have r2 : ∀ W, (Op.stringOp .add ⟨#[100, 114, 111, 112, 32]⟩ (formP x.pat)).run Try.prog W = .ok (.string (⟨#[100, 114, 111, 112, 32]⟩ ++ formP x.pat)) W := fun W => run_string_add_sum W _ _ (by omega)
  clear h hb0 hfs e4 e5
  go_enter Try.func39, Try.ntmps39
  go_wp2_with fail
  generalize (w.alloc (.cells #[.int .i64 x.kind, .string x.pat.rel, .slice a x.pat.args.length cap] 67)) = W at *
  refine (cIsAction HF.out hz).mono ?_
  rintro e w1 ⟨rfl, b1⟩
  have HB1 := Lib.hid (HB.out.tr b1)
  have HP1 := Lib.hid (HP.out.up b1)
  cases h1 : isActB x
  · have HE : Hid (formA x = ⟨#[]⟩) := by show _ = _; unfold formA; rw [h1]; rfl
    clear b1
    go_wp2
    go_ret
    exact ⟨ret_str HE.out.symm, HB1.out⟩
  · have c0 := (HK.out.up b1).cell 0
    have c1 := (HK.out.up b1).cell 1
    have c2 := (HK.out.up b1).cell 2
    have c0 : w1.cell? ⟨w.heap.size, 0, none⟩ = some (.int .i64 x.kind) := c0
    have c1 : w1.cell? ⟨w.heap.size, 1, none⟩ = some (.string x.pat.rel) := c1
    have c2 : w1.cell? ⟨w.heap.size, 2, none⟩ = some (.slice a x.pat.args.length cap) := c2
    clear b1
    by_cases k1 : x.kind = 1
    · have HE : Hid (formA x = ⟨#[97, 100, 100, 32]⟩ ++ formP x.pat) := by show _ = _; unfold formA; rw [h1, if_pos rfl, if_pos k1]
      have d1 : (x.kind == 1) = true := by simp [k1]
      clear k1 h1
      go_wp2_with fail
      clear c0 c1 c2
      refine (cFormP HP1.out hz').mono ?_
      rintro e w2 ⟨rfl, b2⟩
      have HB2 := Lib.hid (HB1.out.tr b2)
      clear b2
      go_wp2
      go_ret
      exact ⟨ret_str HE.out.symm, HB2.out⟩
    · have d1 : (x.kind == 1) = false := by simp [k1]
      by_cases k2 : x.kind = 2
      · have HE : Hid (formA x = ⟨#[100, 114, 111, 112, 32]⟩ ++ formP x.pat) := by show _ = _; unfold formA; rw [h1, if_pos rfl, if_neg k1, if_pos k2]
        have d2 : (x.kind == 2) = true := by simp [k2]
        clear k1 k2 h1
        go_wp2_with fail
        clear c0 c1 c2
        refine (cFormP HP1.out hz').mono ?_
        rintro e w2 ⟨rfl, b2⟩
        have HB2 := Lib.hid (HB1.out.tr b2)
        clear b2
        go_wp2
        go_ret
        exact ⟨ret_str HE.out.symm, HB2.out⟩
      · have HE : Hid (formA x = ⟨#[115, 116, 111, 112]⟩) := by show _ = _; unfold formA; rw [h1, if_pos rfl, if_neg k1, if_neg k2]
        have d2 : (x.kind == 2) = false := by simp [k2]
        clear k1 k2 h1
        go_wp2
        go_ret
        exact ⟨ret_str HE.out.symm, HB1.out⟩
set_option maxHeartbeats 1000000 in
theorem cFormAS {v : Value} {x : ActV} {lo hi : Nat} {w : World} (h : Ob AA w lo hi v x) (hz : asz x ≤ 1048576) :
    Calls Try.prog 37 #[v] w fun e w' => e = .returned (.string (formA x)) ∧ Up w w' := by
  obtain ⟨a, cap, rfl⟩ := h.1.form
  have hb0 : Up w (w.alloc (.cells #[.int .i64 x.kind, .string x.pat.rel, .slice a x.pat.args.length cap] 67)) := Up.al1 _ _
  have HF := Lib.hid (h.up hb0)
  have HP := Lib.hid (Ob.apat (h.up hb0))
  have HK := Lib.hid (Blk.new w 67 #[.int .i64 x.kind, .string x.pat.rel, .slice a x.pat.args.length cap])
  have HB := Lib.hid hb0
  have hz' : fsz x.pat ≤ 1048576 := hz
  have hfs := formP_size x.pat
  have e4 : (⟨#[97, 100, 100, 32]⟩ : ByteArray).size = 4 := rfl
  have e5 : (⟨#[100, 114, 111, 112, 32]⟩ : ByteArray).size = 5 := rfl
  have r1 : ∀ W, (Op.stringOp .add ⟨#[97, 100, 100, 32]⟩ (formP x.pat)).run Try.prog W = .ok (.string (⟨#[97, 100, 100, 32]⟩ ++ formP x.pat)) W := fun W => run_string_add_sum W _ _ (by omega)
  have r2 : ∀ W, (Op.stringOp .add ⟨#[100, 114, 111, 112, 32]⟩ (formP x.pat)).run Try.prog W = .ok (.string (⟨#[100, 114, 111, 112, 32]⟩ ++ formP x.pat)) W := fun W => run_string_add_sum W _ _ (by omega)
  clear h hb0 hfs e4 e5
  go_enter Try.func37, Try.ntmps37
  go_wp2_with fail
  generalize (w.alloc (.cells #[.int .i64 x.kind, .string x.pat.rel, .slice a x.pat.args.length cap] 67)) = W at *
  refine (cIsActionS HF.out hz).mono ?_
  rintro e w1 ⟨rfl, b1⟩
  have HB1 := Lib.hid (HB.out.tr b1)
  have HP1 := Lib.hid (HP.out.up b1)
  cases h1 : isActB x
  · have HE : Hid (formA x = ⟨#[]⟩) := by show _ = _; unfold formA; rw [h1]; rfl
    clear b1
    go_wp2
    go_ret
    exact ⟨ret_str HE.out.symm, HB1.out⟩
  · have c0 := (HK.out.up b1).cell 0
    have c1 := (HK.out.up b1).cell 1
    have c2 := (HK.out.up b1).cell 2
    have c0 : w1.cell? ⟨w.heap.size, 0, none⟩ = some (.int .i64 x.kind) := c0
    have c1 : w1.cell? ⟨w.heap.size, 1, none⟩ = some (.string x.pat.rel) := c1
    have c2 : w1.cell? ⟨w.heap.size, 2, none⟩ = some (.slice a x.pat.args.length cap) := c2
    clear b1
    by_cases k1 : x.kind = 1
    · have HE : Hid (formA x = ⟨#[97, 100, 100, 32]⟩ ++ formP x.pat) := by show _ = _; unfold formA; rw [h1, if_pos rfl, if_pos k1]
      have d1 : (x.kind == 1) = true := by simp [k1]
      clear k1 h1
      go_wp2_with fail
      clear c0 c1 c2
      refine (cFormPS HP1.out hz').mono ?_
      rintro e w2 ⟨rfl, b2⟩
      have HB2 := Lib.hid (HB1.out.tr b2)
      clear b2
      go_wp2
      go_ret
      exact ⟨ret_str HE.out.symm, HB2.out⟩
    · have d1 : (x.kind == 1) = false := by simp [k1]
      by_cases k2 : x.kind = 2
      · have HE : Hid (formA x = ⟨#[100, 114, 111, 112, 32]⟩ ++ formP x.pat) := by show _ = _; unfold formA; rw [h1, if_pos rfl, if_neg k1, if_pos k2]
        have d2 : (x.kind == 2) = true := by simp [k2]
        clear k1 k2 h1
        go_wp2_with fail
        clear c0 c1 c2
        refine (cFormPS HP1.out hz').mono ?_
        rintro e w2 ⟨rfl, b2⟩
        have HB2 := Lib.hid (HB1.out.tr b2)
        clear b2
        go_wp2
        go_ret
        exact ⟨ret_str HE.out.symm, HB2.out⟩
      · have HE : Hid (formA x = ⟨#[115, 116, 111, 112]⟩) := by show _ = _; unfold formA; rw [h1, if_pos rfl, if_neg k1, if_neg k2]
        have d2 : (x.kind == 2) = false := by simp [k2]
        clear k1 k2 h1
        go_wp2
        go_ret
        exact ⟨ret_str HE.out.symm, HB1.out⟩
end Go.Proofs.Ytojgkodffmdnpaa
