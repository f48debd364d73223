/-
  DERIVED. GIVEN WITH THE SEED: THE CARDS: each row of YtdeogmbfgkepeaaGreatDoorRows.lean that lists a variable, with what it lists TIED to the program's text (the seventh form; the later family's looks); each row that meets fmt, with fmt's text TOLD by the authors' own Lean function (tested against real Go, not proved from fmt's source: count such statements apart). THE CARD IS WHAT COUNTS. Prove the row's statement (the work); the ties are given (YtdeogmbfgkepeaaGreatDoorTie.lean); close each card by the builder's one call (the guide's Derived/Test/ToyasCard.lean, 'card_holds'). Laid BY PROGRAM, IN A SANDBOX (cutbox-door.mjs). By AI agents, Wed Nov 11 2026. No macro, syntax, notation, axiom, sorry.
-/
import Derived.Test.YtdeogmbfgkepeaaGreatDoorRows
import GoSem.ClaimSeven
namespace Go.Proofs.YtdeogmbfgkepeaaGreatDoor
namespace Rows

/-- THE TIED CARD OF 'hoistwaytop.WholeDelivers'. -/
def wholeDeliversCard : Claim7 := { stood := { row := wholeDeliversRow, standIns := [], harness := (true, "effb8f79289d991ef78c13da504b1039318cf5ded8461841bee84f48e052e86a"), looks := false }, kinds := [], alts := [], laidByText := true, laidKinds := [.data, .data, .pinned], laidTests := true, laidLooks := .later }
def WholeDeliversCardSaid : Prop := Claim7.holds Tryz.pinned (.plain (OpenSpec.ofChange wholeDeliversSpec)) wholeDeliversCard

/-- THE TIED CARD OF 'hoistwaytop.WholeBins'. -/
def wholeBinsCard : Claim7 := { stood := { row := wholeBinsRow, standIns := [], harness := (true, "effb8f79289d991ef78c13da504b1039318cf5ded8461841bee84f48e052e86a"), looks := false }, kinds := [], alts := [], laidByText := true, laidKinds := [.data, .data, .pinned], laidTests := true, laidLooks := .later }
def WholeBinsCardSaid : Prop := Claim7.holds Tryz.pinned (.plain (OpenSpec.ofChange wholeBinsSpec)) wholeBinsCard

/-- THE SECOND FORM's CARD OF 'hoistwaytop.WholeDelivers'. -/
def wholeDeliversUptoCard : Claim7 := { stood := { row := wholeDeliversUptoRow, standIns := [], harness := (true, "effb8f79289d991ef78c13da504b1039318cf5ded8461841bee84f48e052e86a"), looks := false }, kinds := [], alts := [], laidByText := true, laidKinds := [.data, .data, .pinned], laidTests := true, laidLooks := .later }
def WholeDeliversUptoCardSaid : Prop := Claim7.holds Tryz.pinned (.plain (OpenSpec.upto wholeDeliversSpec)) wholeDeliversUptoCard

/-- THE SECOND FORM's CARD OF 'hoistwaytop.WholeBins'. -/
def wholeBinsUptoCard : Claim7 := { stood := { row := wholeBinsUptoRow, standIns := [], harness := (true, "effb8f79289d991ef78c13da504b1039318cf5ded8461841bee84f48e052e86a"), looks := false }, kinds := [], alts := [], laidByText := true, laidKinds := [.data, .data, .pinned], laidTests := true, laidLooks := .later }
def WholeBinsUptoCardSaid : Prop := Claim7.holds Tryz.pinned (.plain (OpenSpec.upto wholeBinsSpec)) wholeBinsUptoCard
end Rows
end Go.Proofs.YtdeogmbfgkepeaaGreatDoor
