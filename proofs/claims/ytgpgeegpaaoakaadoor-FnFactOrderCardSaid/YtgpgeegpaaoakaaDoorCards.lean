/-
  DERIVED. GIVEN WITH THE SEED: THE CARDS: each row of YtgpgeegpaaoakaaDoorRows.lean that lists a variable, with what it lists TIED to the program's text (the seventh form; the later family's looks); each row that meets fmt, with fmt's text TOLD by the authors' own Lean function (tested against real Go, not proved from fmt's source: count such statements apart). THE CARD IS WHAT COUNTS. Prove the row's statement (the work); the ties are given (YtgpgeegpaaoakaaDoorTie.lean); close each card by the builder's one call (the guide's Derived/Test/ToyasCard.lean, 'card_holds'). Laid BY PROGRAM, IN A SANDBOX (cutbox-door.mjs). By AI agents, Wed Nov 11 2026. No macro, syntax, notation, axiom, sorry.
-/
import Derived.Test.YtgpgeegpaaoakaaDoorRows
import GoSem.ClaimSeven
namespace Go.Proofs.YtgpgeegpaaoakaaDoor
namespace Rows

/-- THE TIED CARD OF 'laws.FnFactOrder'. -/
def fnFactOrderCard : Claim7 := { stood := { row := fnFactOrderRow, standIns := [], harness := (true, "0909e895e9af6cd3a6b4a42280d467e07155f5fb7377f6acb805fe5d3f3bbaf0"), looks := true }, kinds := [], alts := [], laidByText := true, laidKinds := [.data, .data, .data, .sentinel, .sentinel], laidTests := true, laidLooks := .later }
def FnFactOrderCardSaid : Prop := Claim7.holds Tryd.pinned (.plain (OpenSpec.ofChange fnFactOrderSpec)) fnFactOrderCard

/-- THE SECOND FORM's CARD OF 'laws.FnFactOrder'. -/
def fnFactOrderUptoCard : Claim7 := { stood := { row := fnFactOrderUptoRow, standIns := [], harness := (true, "0909e895e9af6cd3a6b4a42280d467e07155f5fb7377f6acb805fe5d3f3bbaf0"), looks := true }, kinds := [], alts := [], laidByText := true, laidKinds := [.data, .data, .data, .sentinel, .sentinel], laidTests := true, laidLooks := .later }
def FnFactOrderUptoCardSaid : Prop := Claim7.holds Tryd.pinned (.plain (OpenSpec.upto fnFactOrderSpec)) fnFactOrderUptoCard
end Rows
end Go.Proofs.YtgpgeegpaaoakaaDoor
