/- The walks of the laws on constants and on IsAtom, IsName, IsVar and IsTerm: for every input the call returns true and nothing that was there has turned. -/
import Derived.Test.YtojgkodffmdnpaaAtom
import Derived.Test.YtojgkodffmdnpaaRep
namespace Go.Proofs.Ytojgkodffmdnpaa
open Go.RowKit
theorem okS.max {s : ByteArray} (h : okS s) : s.size ≤ maxLen := by unfold okS at h; unfold maxLen; omega
end Go.Proofs.Ytojgkodffmdnpaa
