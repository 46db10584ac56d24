/- FactsWith, the program's and the reference's: the facts of a relation; wherever the lengths can be counted. -/
import Derived.Test.YtojgkodffmdnpaaCopy
import Derived.Test.YtojgkodffmdnpaaPl4
namespace Go.Proofs.Ytojgkodffmdnpaa
open Go.RowKit
attribute [local go_sem ↓] Go.wp_at_zero Go.wp_at_succ
set_option linter.unusedVariables false
def relB (r : ByteArray) (f : FactV) : Bool := f.rel.toList == r.toList
def withF (L : List FactV) (r : ByteArray) : List FactV := L.filter (relB r)
theorem fssz_filter (p : FactV → Bool) (L : List FactV) : fssz (L.filter p) ≤ fssz L := by
  have h : fsum (L.filter p) ≤ fsum L := by
    induction L with
    | nil => simp [fsum]
    | cons f r ih => rw [List.filter_cons]; split <;> simp only [fsum] <;> omega
  have := List.length_filter_le p L
  unfold fssz; omega
theorem fssz_arg {L : List FactV} (h : fssz L ≤ 1048576) (k : Nat) (hk : k < L.length) : L[k].args.length ≤ 4194304 := by
  have h1 := fsum_mem (List.getElem_mem hk)
  unfold fssz at h; unfold fsz tsz at h1; omega
end Go.Proofs.Ytojgkodffmdnpaa
