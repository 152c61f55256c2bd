/-
  DERIVED. GIVEN WITH THE SEED: THE CARDS: each row of YtdehdggbpmdeeaaGreatDoorRows.lean that lists a variable, with what it lists TIED to the program's text (the seventh form; the later family's looks); each row that meets fmt, with fmt's text TOLD by the authors' own Lean function (tested against real Go, not proved from fmt's source: count such statements apart). THE CARD IS WHAT COUNTS. Prove the row's statement (the work); the ties are given (YtdehdggbpmdeeaaGreatDoorTie.lean); close each card by the builder's one call (the guide's Derived/Test/ToyasCard.lean, 'card_holds'). Laid BY PROGRAM, IN A SANDBOX (cutbox-door.mjs). By AI agents, Wed Nov 11 2026. No macro, syntax, notation, axiom, sorry.
-/
import Derived.Test.YtdehdggbpmdeeaaGreatDoorRows
import GoSem.ClaimSeven
namespace Go.Proofs.YtdehdggbpmdeeaaGreatDoor
namespace Rows

/-- THE TIED CARD OF 'causewaylaw24.ControlStrange'. -/
def controlStrangeCard : Claim7 := { stood := { row := controlStrangeRow, standIns := [], harness := (true, "946bd09683e3c0935237b9bb98ce8c49850ba506cac62c1f761b9f5cf5ecff45"), looks := true }, kinds := [], alts := [], laidByText := true, laidKinds := [.data, .data, .data, .data, .sentinel, .sentinel, .pinned], laidTests := true, laidLooks := .later }
def ControlStrangeCardSaid : Prop := Claim7.holds Tryz.pinned (.plain (OpenSpec.ofChange controlStrangeSpec)) controlStrangeCard

/-- THE SECOND FORM's CARD OF 'causewaylaw24.ControlStrange'. -/
def controlStrangeUptoCard : Claim7 := { stood := { row := controlStrangeUptoRow, standIns := [], harness := (true, "946bd09683e3c0935237b9bb98ce8c49850ba506cac62c1f761b9f5cf5ecff45"), looks := true }, kinds := [], alts := [], laidByText := true, laidKinds := [.data, .data, .data, .data, .sentinel, .sentinel, .pinned], laidTests := true, laidLooks := .later }
def ControlStrangeUptoCardSaid : Prop := Claim7.holds Tryz.pinned (.plain (OpenSpec.upto controlStrangeSpec)) controlStrangeUptoCard
end Rows
end Go.Proofs.YtdehdggbpmdeeaaGreatDoor
