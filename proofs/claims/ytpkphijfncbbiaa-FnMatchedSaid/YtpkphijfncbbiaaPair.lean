/- The contracts of the laws' own functions on pairs and lists of pairs: size, copy, equality, marks; wherever the lengths can be counted. -/
import Derived.Test.YtpkphijfncbbiaaC1
namespace Go.Proofs.Ytpkphijfncbbiaa
open Go.RowKit
attribute [local go_sem ↓] Go.wp_at_zero Go.wp_at_succ
def psz1 (p : ByteArray × ByteArray) : Nat := p.1.size + p.2.size
def psum : List (ByteArray × ByteArray) → Nat
  | [] => 0
  | p :: r => psz1 p + psum r
def psz (L : List (ByteArray × ByteArray)) : Nat := L.length + psum L
theorem psum_append (A B : List (ByteArray × ByteArray)) : psum (A ++ B) = psum A + psum B := by
  induction A with
  | nil => simp [psum]
  | cons a A ih => simp [psum, ih]; omega
theorem psum_take_succ (L : List (ByteArray × ByteArray)) (k : Nat) (h : k < L.length) : psum (L.take (k + 1)) = psum (L.take k) + psz1 L[k] := by
  rw [List.take_succ_eq_append_getElem h, psum_append]; simp [psum]
theorem psum_take_le (L : List (ByteArray × ByteArray)) (k : Nat) : psum (L.take k) ≤ psum L := by
  conv => rhs; rw [← List.take_append_drop k L]
  rw [psum_append]; omega
def okPs (L : List (ByteArray × ByteArray)) : Prop := ∀ p ∈ L, okP p
theorem Try.infoPair : (Try.prog.info? 47).map (fun i => (i.zero, i.size, i.bytes)) = some (some (.agg #[.string ByteArray.empty, .string ByteArray.empty]), 2, 32) := by kernel_rfl
end Go.Proofs.Ytpkphijfncbbiaa
