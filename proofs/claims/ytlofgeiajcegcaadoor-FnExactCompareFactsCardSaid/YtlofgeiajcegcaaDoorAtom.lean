/- The contracts of IsAtom, IsName, IsVar and IsTerm, the program's and the reference's: each pair returns the same plain function of the text, at every text that fits a machine. -/
import Derived.Test.YtlofgeiajcegcaaDoorProg
import Derived.Test.YtlofgeiajcegcaaDoorBase
namespace Go.Proofs.YtlofgeiajcegcaaDoor
open Go.RowKit
theorem in_any (x a b : Int) (w : World) :
    Calls Tryd.prog 18 #[.int .i64 x, .int .i64 a, .int .i64 b] w fun e w' => e = .returned (.bool (inB x a b)) ∧ w = w' := by
  go_enter Tryd.func18, Tryd.ntmps18
  go_wp2
  all_goals (go_ret; exact ⟨ret_bool (by unfold inB; grind), rfl⟩)
end Go.Proofs.YtlofgeiajcegcaaDoor
