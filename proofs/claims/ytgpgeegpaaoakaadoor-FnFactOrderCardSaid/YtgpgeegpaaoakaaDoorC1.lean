/- The contracts of the laws' own functions on texts, facts and patterns, said of things with their blocks; wherever the lengths can be counted. -/
import Derived.Test.YtgpgeegpaaoakaaDoorFact
namespace Go.Proofs.YtgpgeegpaaoakaaDoor
open Go.RowKit
theorem cSameFactS {v v' : Value} {x y : FactV} {lo hi lo' hi' : Nat} {w : World} (h : Ob AF w lo hi v x) (h' : Ob AF w lo' hi' v' y) :
    Calls Tryd.prog 15 #[v, v'] w fun e w' => e = .returned (.bool (sameFB x y)) ∧ Up w w' := sameFS_any v v' x y lo hi lo' hi' w h.1 h'.1 h.2 h'.2
end Go.Proofs.YtgpgeegpaaoakaaDoor
