/- The contracts of IsAtom, IsName, IsVar and IsTerm, the program's and the reference's: each pair returns the same plain function of the text, at every text that fits a machine. -/
import Derived.Test.YtgpgeegpaaoakaaDoorProg
import Derived.Test.YtgpgeegpaaoakaaDoorBase
namespace Go.Proofs.YtgpgeegpaaoakaaDoor
open Go.RowKit
theorem in_any (x a b : Int) (w : World) :
    Calls Tryd.prog 54 #[.int .i64 x, .int .i64 a, .int .i64 b] w fun e w' => e = .returned (.bool (inB x a b)) ∧ w = w' := by
  go_enter Tryd.func54, Tryd.ntmps54
  go_wp2
  all_goals (go_ret; exact ⟨ret_bool (by unfold inB; grind), rfl⟩)
end Go.Proofs.YtgpgeegpaaoakaaDoor
