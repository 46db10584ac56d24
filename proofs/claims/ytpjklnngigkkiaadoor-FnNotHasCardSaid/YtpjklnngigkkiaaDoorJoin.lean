/- Join, the program's and the reference's: the texts with another one between them; wherever the lengths can be counted. -/
import Derived.Test.YtpjklnngigkkiaaDoorShelf
import Derived.Test.YtpjklnngigkkiaaDoorApp
import Derived.Test.YtpjklnngigkkiaaDoorPl5
namespace Go.Proofs.YtpjklnngigkkiaaDoor
open Go.RowKit
attribute [local go_sem ↓] Go.wp_at_zero Go.wp_at_succ
set_option linter.unusedVariables false
theorem joinB_succ' (L : List ByteArray) (sep : ByteArray) (k : Nat) (h : k < L.length) : joinB (L.take (k + 1)) sep = if k = 0 then joinB (L.take k) sep ++ L[k] else joinB (L.take k) sep ++ sep ++ L[k] := by
  cases k with
  | zero =>
    rw [List.take_succ_eq_append_getElem h]
    simp [joinB_one, joinB_nil]
  | succ k => rw [joinB_succ L sep k h]; simp
theorem lj_len {L : List ByteArray} (h : tsz L ≤ 4194304) : L.length ≤ 4194304 := by unfold tsz at h; omega
theorem lj_sz {L : List ByteArray} {sep : ByteArray} (h : tsz L ≤ 1048576) (hs : sep.size ≤ 1048576) : (joinB L sep).size ≤ 140737488355328 := by
  rw [joinB_size, tlen_tsum]
  unfold tsz at h
  have h1 : (L.length - 1) * sep.size ≤ 1048576 * 1048576 := Nat.mul_le_mul (by omega) hs
  omega
end Go.Proofs.YtpjklnngigkkiaaDoor
