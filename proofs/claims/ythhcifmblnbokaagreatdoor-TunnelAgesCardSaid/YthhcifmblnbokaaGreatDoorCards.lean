/-
  DERIVED. GIVEN WITH THE SEED: THE CARDS: each row of YthhcifmblnbokaaGreatDoorRows.lean that lists a variable, with what it lists TIED to the program's text (the seventh form; the later family's looks); each row that meets fmt, with fmt's text TOLD by the authors' own Lean function (tested against real Go, not proved from fmt's source: count such statements apart). THE CARD IS WHAT COUNTS. Prove the row's statement (the work); the ties are given (YthhcifmblnbokaaGreatDoorTie.lean); close each card by the builder's one call (the guide's Derived/Test/ToyasCard.lean, 'card_holds'). Laid BY PROGRAM, IN A SANDBOX (cutbox-door.mjs). By AI agents, Wed Nov 11 2026. No macro, syntax, notation, axiom, sorry.
-/
import Derived.Test.YthhcifmblnbokaaGreatDoorRows
import GoSem.ClaimSeven
namespace Go.Proofs.YthhcifmblnbokaaGreatDoor
namespace Rows

/-- THE TIED CARD OF 'causewaylaw26.TunnelAges'. -/
def tunnelAgesCard : Claim7 := { stood := { row := tunnelAgesRow, standIns := [], harness := (true, "1bd5c497bee201b6ef0f6640963bf713dee711368b7b9265915fc585d6116965"), looks := true }, kinds := [], alts := [], laidByText := true, laidKinds := [.data, .data, .data, .data, .sentinel, .sentinel, .pinned], laidTests := true, laidLooks := .later }
def TunnelAgesCardSaid : Prop := Claim7.holds Tryz.pinned (.plain (OpenSpec.ofChange tunnelAgesSpec)) tunnelAgesCard

/-- THE SECOND FORM's CARD OF 'causewaylaw26.TunnelAges'. -/
def tunnelAgesUptoCard : Claim7 := { stood := { row := tunnelAgesUptoRow, standIns := [], harness := (true, "1bd5c497bee201b6ef0f6640963bf713dee711368b7b9265915fc585d6116965"), looks := true }, kinds := [], alts := [], laidByText := true, laidKinds := [.data, .data, .data, .data, .sentinel, .sentinel, .pinned], laidTests := true, laidLooks := .later }
def TunnelAgesUptoCardSaid : Prop := Claim7.holds Tryz.pinned (.plain (OpenSpec.upto tunnelAgesSpec)) tunnelAgesUptoCard
end Rows
end Go.Proofs.YthhcifmblnbokaaGreatDoor
