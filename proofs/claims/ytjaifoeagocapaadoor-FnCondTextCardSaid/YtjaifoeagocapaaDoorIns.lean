/- A pair put into a binding, the reference's way (l3Set); Extend, the program's and the reference's; wherever the lengths can be counted. -/
import Derived.Test.YtjaifoeagocapaaDoorCopy
import Derived.Test.YtjaifoeagocapaaDoorPl4
namespace Go.Proofs.YtjaifoeagocapaaDoor
open Go.RowKit
attribute [local go_sem ↓] Go.wp_at_zero Go.wp_at_succ
set_option linter.unusedVariables false
end Go.Proofs.YtjaifoeagocapaaDoor
