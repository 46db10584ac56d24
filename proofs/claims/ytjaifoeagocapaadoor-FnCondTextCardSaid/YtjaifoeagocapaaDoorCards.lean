/-
  DERIVED. GIVEN WITH THE SEED: THE CARDS: each row of YtjaifoeagocapaaDoorRows.lean that lists a variable, with what it lists TIED to the program's text (the seventh form; the later family's looks); each row that meets fmt, with fmt's text TOLD by the authors' own Lean function (tested against real Go, not proved from fmt's source: count such statements apart). THE CARD IS WHAT COUNTS. Prove the row's statement (the work); the ties are given (YtjaifoeagocapaaDoorTie.lean); close each card by the builder's one call (the guide's Derived/Test/ToyasCard.lean, 'card_holds'). Laid BY PROGRAM, IN A SANDBOX (cutbox-door.mjs). By AI agents, Wed Nov 11 2026. No macro, syntax, notation, axiom, sorry.
-/
import Derived.Test.YtjaifoeagocapaaDoorRows
import GoSem.ClaimSeven
namespace Go.Proofs.YtjaifoeagocapaaDoor
namespace Rows

/-- THE TIED CARD OF 'laws.FnCondText'. -/
def fnCondTextCard : Claim7 := { stood := { row := fnCondTextRow, standIns := [], harness := (true, "233bf4fa559b71ae31c4196035ccf05cb88a610c4801abfa22ece64ba5c0e032"), looks := false }, kinds := [], alts := [], laidByText := true, laidKinds := [.data, .data, .pinned], laidTests := true, laidLooks := .later }
def FnCondTextCardSaid : Prop := Claim7.holds Tryd.pinned (.plain (OpenSpec.ofChange fnCondTextSpec)) fnCondTextCard

/-- THE TIED CARD OF 'laws.FnFactText'. -/
def fnFactTextCard : Claim7 := { stood := { row := fnFactTextRow, standIns := [], harness := (true, "233bf4fa559b71ae31c4196035ccf05cb88a610c4801abfa22ece64ba5c0e032"), looks := false }, kinds := [], alts := [], laidByText := true, laidKinds := [.data, .pinned], laidTests := true, laidLooks := .later }
def FnFactTextCardSaid : Prop := Claim7.holds Tryd.pinned (.plain (OpenSpec.ofChange fnFactTextSpec)) fnFactTextCard

/-- THE SECOND FORM's CARD OF 'laws.FnCondText'. -/
def fnCondTextUptoCard : Claim7 := { stood := { row := fnCondTextUptoRow, standIns := [], harness := (true, "233bf4fa559b71ae31c4196035ccf05cb88a610c4801abfa22ece64ba5c0e032"), looks := false }, kinds := [], alts := [], laidByText := true, laidKinds := [.data, .data, .pinned], laidTests := true, laidLooks := .later }
def FnCondTextUptoCardSaid : Prop := Claim7.holds Tryd.pinned (.plain (OpenSpec.upto fnCondTextSpec)) fnCondTextUptoCard

/-- THE SECOND FORM's CARD OF 'laws.FnFactText'. -/
def fnFactTextUptoCard : Claim7 := { stood := { row := fnFactTextUptoRow, standIns := [], harness := (true, "233bf4fa559b71ae31c4196035ccf05cb88a610c4801abfa22ece64ba5c0e032"), looks := false }, kinds := [], alts := [], laidByText := true, laidKinds := [.data, .pinned], laidTests := true, laidLooks := .later }
def FnFactTextUptoCardSaid : Prop := Claim7.holds Tryd.pinned (.plain (OpenSpec.upto fnFactTextSpec)) fnFactTextUptoCard
end Rows
end Go.Proofs.YtjaifoeagocapaaDoor
