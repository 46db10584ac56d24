/- The contracts of the functions that tell whether two lists of texts are equal, the program's and the reference's: both return whether the lists are equal. -/
import Derived.Test.YtojgkodffmdnpaaText
namespace Go.Proofs.Ytojgkodffmdnpaa
open Go.RowKit
theorem str_inj {a b : ByteArray} (h : a.toList = b.toList) : a = b := by
  rw [ByteArray.toList_eq, ByteArray.toList_eq] at h
  cases a; cases b; simp at h; rw [h]
theorem str_eq_t {a b : ByteArray} (h : (a.toList == b.toList) = true) : a = b := str_inj (by simpa using h)
theorem str_eq_f {a b : ByteArray} (h : (a.toList == b.toList) = false) : a ≠ b := by rintro rfl; simp at h
def sameTB (A B : List ByteArray) : Bool := decide (A = B)
theorem sameTB_len {A B : List ByteArray} (h : A.length ≠ B.length) : sameTB A B = false := by
  unfold sameTB; rw [decide_eq_false_iff_not]; intro e; exact h (by rw [e])
theorem sameTB_at {A B : List ByteArray} {k : Nat} (ha : k < A.length) (hb : k < B.length) (h : (A[k].toList == B[k].toList) = false) : sameTB A B = false := by
  unfold sameTB; rw [decide_eq_false_iff_not]; intro e; subst e; simp at h
theorem take_eq_succ {α : Type} {A B : List α} {k : Nat} (ha : k < A.length) (hb : k < B.length) (h : A.take k = B.take k) (e : A[k] = B[k]) : A.take (k+1) = B.take (k+1) := by
  rw [List.take_succ_eq_append_getElem ha, List.take_succ_eq_append_getElem hb, h, e]
theorem sameTB_all {A B : List ByteArray} {k : Nat} (ha : A.length ≤ k) (hb : B.length ≤ k) (h : A.take k = B.take k) : sameTB A B = true := by
  rw [List.take_of_length_le ha, List.take_of_length_le hb] at h
  unfold sameTB; rw [h]; simp
attribute [local go_sem ↓] Go.wp_at_zero Go.wp_at_succ
end Go.Proofs.Ytojgkodffmdnpaa
