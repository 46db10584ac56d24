/- The contracts of ValueOf, the program's and the reference's: both return the same plain functions of the pairs and the term; wherever the lengths can be counted. -/
import Derived.Test.YtjaifoeagocapaaDoorIsBind
namespace Go.Proofs.YtjaifoeagocapaaDoor
open Go.RowKit
attribute [local go_sem ↓] Go.wp_at_zero Go.wp_at_succ
def findP (b : List (ByteArray × ByteArray)) (t : ByteArray) : Option ByteArray := (b.find? fun p => decide (p.1 = t)).map (·.2)
def valueB (b : List (ByteArray × ByteArray)) (t : ByteArray) : Option ByteArray := if isAtomB t then some t else if isVarB t then findP b t else none
def valS (b : List (ByteArray × ByteArray)) (t : ByteArray) : ByteArray := (valueB b t).getD ⟨#[]⟩
def valOk (b : List (ByteArray × ByteArray)) (t : ByteArray) : Bool := (valueB b t).isSome
def noneTo (b : List (ByteArray × ByteArray)) (t : ByteArray) (k : Nat) : Prop := findP (b.take k) t = none
theorem find_take_none {α : Type} {b : List α} {p : α → Bool} {k : Nat} (h : (b.take k).find? p = none) (hk : k < b.length) (h' : p b[k] = false) : (b.take (k+1)).find? p = none := by
  rw [List.take_succ_eq_append_getElem hk, List.find?_append, h]; simp [h']
theorem find_take_some {α : Type} {b : List α} {p : α → Bool} {k : Nat} (h : (b.take k).find? p = none) (hk : k < b.length) (h' : p b[k] = true) : b.find? p = some b[k] := by
  conv => lhs; rw [← List.take_append_drop k b]
  rw [List.find?_append, h, List.drop_eq_getElem_cons hk, List.find?_cons, h']; rfl
theorem noneTo_succ {b : List (ByteArray × ByteArray)} {t : ByteArray} {k : Nat} (h : noneTo b t k) (hk : k < b.length) (h' : (b[k].1.toList == t.toList) = false) : noneTo b t (k+1) := by
  unfold noneTo findP at *
  rw [Option.map_eq_none_iff] at *
  exact find_take_none h hk (by simpa using str_eq_f h')
theorem noneTo_some {b : List (ByteArray × ByteArray)} {t : ByteArray} {k : Nat} (h : noneTo b t k) (hk : k < b.length) (h' : (b[k].1.toList == t.toList) = true) : findP b t = some b[k].2 := by
  unfold noneTo findP at *
  rw [Option.map_eq_none_iff] at h
  rw [find_take_some h hk (by simpa using str_eq_t h')]; rfl
theorem noneTo_all {b : List (ByteArray × ByteArray)} {t : ByteArray} {k : Nat} (h : noneTo b t k) (hk : b.length ≤ k) : findP b t = none := by
  unfold noneTo at h; rwa [List.take_of_length_le hk] at h
theorem ret_sb {a a' : ByteArray} {b b' : Bool} (h : a = a') (h' : b = b') : Ending.returned (.tuple #[.string a, .bool b]) = .returned (.tuple #[.string a', .bool b']) := by rw [h, h']
theorem val_atom {b : List (ByteArray × ByteArray)} {t : ByteArray} (h : isAtomB t = true) : t = valS b t ∧ true = valOk b t := by unfold valS valOk valueB; simp [h]
theorem val_no {b : List (ByteArray × ByteArray)} {t : ByteArray} (h : isAtomB t = false) (h' : isVarB t = false) : (⟨#[]⟩ : ByteArray) = valS b t ∧ false = valOk b t := by unfold valS valOk valueB; simp [h, h']
theorem val_some {b : List (ByteArray × ByteArray)} {t s : ByteArray} (h : isAtomB t = false) (h' : isVarB t = true) (hf : findP b t = some s) : s = valS b t ∧ true = valOk b t := by unfold valS valOk valueB; simp [h, h', hf]
theorem val_none {b : List (ByteArray × ByteArray)} {t : ByteArray} (h : isAtomB t = false) (hf : findP b t = none) : (⟨#[]⟩ : ByteArray) = valS b t ∧ false = valOk b t := by unfold valS valOk valueB; simp [h, hf]
end Go.Proofs.YtjaifoeagocapaaDoor
