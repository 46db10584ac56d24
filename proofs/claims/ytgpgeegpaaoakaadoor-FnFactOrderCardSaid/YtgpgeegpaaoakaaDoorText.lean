/- The contracts of the laws' own functions on texts and lists of texts: their size, their copy, their equality, their marks; wherever the lengths are small enough to be counted. -/
import Derived.Test.YtgpgeegpaaoakaaDoorProg
import Derived.Test.YtgpgeegpaaoakaaDoorBase
namespace Go.Proofs.YtgpgeegpaaoakaaDoor
open Go.RowKit
attribute [local go_sem ↓] Go.wp_at_zero Go.wp_at_succ
theorem Tryd.infoStr : (Tryd.prog.info? 9).map (fun i => (i.zero, i.size, i.bytes)) = some (some (.string ByteArray.empty), 1, 16) := by kernel_rfl
end Go.Proofs.YtgpgeegpaaoakaaDoor
