/- Extend, the program's and the reference's: one plain function of the binding, the variable and the value; wherever the lengths can be counted. -/
import Derived.Test.YtjaifoeagocapaaDoorIns
namespace Go.Proofs.YtjaifoeagocapaaDoor
open Go.RowKit
attribute [local go_sem ↓] Go.wp_at_zero Go.wp_at_succ
set_option linter.unusedVariables false
theorem extV_bad1 {x : Prs} {v u : ByteArray} (h : isBindB x = false) : extV x v u = none := by unfold extV; rw [h]; rfl
theorem extV_bad2 {x : Prs} {v u : ByteArray} (h : isVarB v = false) : extV x v u = none := by unfold extV; rw [h]; simp
theorem extV_bad3 {x : Prs} {v u : ByteArray} (h : isAtomB u = false) : extV x v u = none := by unfold extV; rw [h]; simp
theorem extV_old {x : Prs} {v u : ByteArray} (h1 : isBindB x = true) (h2 : isVarB v = true) (h3 : isAtomB u = true) (h4 : valOk x v = true) (h5 : ((valS x v).toList == u.toList) = true) : extV x v u = some x := by
  unfold extV; rw [h1, h2, h3, h4, str_eq_t h5]; simp
theorem extV_diff {x : Prs} {v u : ByteArray} (h1 : isBindB x = true) (h2 : isVarB v = true) (h3 : isAtomB u = true) (h4 : valOk x v = true) (h5 : ((valS x v).toList == u.toList) = false) : extV x v u = none := by
  unfold extV; rw [h1, h2, h3, h4]; simp [str_eq_f h5]
theorem extV_full {x : Prs} {v u : ByteArray} (h1 : isBindB x = true) (h2 : isVarB v = true) (h3 : isAtomB u = true) (h4 : valOk x v = false) (h5 : ¬ x.length < 6) : extV x v u = none := by
  unfold extV; rw [h1, h2, h3, h4]; simp [h5]
theorem extV_new {x : Prs} {v u : ByteArray} (h1 : isBindB x = true) (h2 : isVarB v = true) (h3 : isAtomB u = true) (h4 : valOk x v = false) (h5 : x.length < 6) : extV x v u = some (insP x v u) := by
  unfold extV; rw [h1, h2, h3, h4]; simp [h5]
theorem oL_ext_psz (b : Prs) (v u : ByteArray) : psz (oL (extV b v u)) ≤ 126 := by
  cases h : extV b v u with
  | none => simp [oL, psz, psum]
  | some c => have := extV_psz h; simp [oL]; omega
theorem PO.none_ {E : TypeId} {w : World} {lo : Nat} {o : Option Prs} (h : o = none) : Ob (PO E) w lo w.heap.size (.slice none 0 0) (oL o) := by rw [h]; exact ⟨PO.nil_ _ _ _ _, Nat.le_refl _⟩
theorem PO.emp_ {E : TypeId} {w : World} {lo : Nat} {o : Option Prs} (h : o = none) (hl : lo ≤ w.heap.size) : Ob (PO E) (w.alloc (.cells #[] E)) lo (w.alloc (.cells #[] E)).heap.size (.slice (some ⟨w.heap.size, 0, none⟩) 0 0) (oL o) := by
  rw [h]; exact ⟨(PO.made_ E w).mono hl (Nat.le_refl _), Nat.le_refl _⟩
theorem ret_pb {v : Value} {b b' : Bool} (h : b = b') : Ending.returned (.tuple #[v, .bool b]) = .returned (.tuple #[v, .bool b']) := by rw [h]
end Go.Proofs.YtjaifoeagocapaaDoor
