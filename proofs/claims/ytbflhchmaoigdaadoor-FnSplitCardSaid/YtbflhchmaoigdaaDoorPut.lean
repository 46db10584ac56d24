/- A text put into ascending ones, the reference's way; the reference's SortedTexts; wherever the lengths can be counted. -/
import Derived.Test.YtbflhchmaoigdaaDoorApp
import Derived.Test.YtbflhchmaoigdaaDoorPl3
import Derived.Test.YtbflhchmaoigdaaDoorPl4
namespace Go.Proofs.YtbflhchmaoigdaaDoor
open Go.RowKit
attribute [local go_sem ↓] Go.wp_at_zero Go.wp_at_succ
set_option linter.unusedVariables false
end Go.Proofs.YtbflhchmaoigdaaDoor
