/-
  DERIVED. GIVEN WITH THE SEED: THE CARDS: each row of YtipbempkngfdbaaGreatDoorRows.lean that lists a variable, with what it lists TIED to the program's text (the seventh form; the later family's looks); each row that meets fmt, with fmt's text TOLD by the authors' own Lean function (tested against real Go, not proved from fmt's source: count such statements apart). THE CARD IS WHAT COUNTS. Prove the row's statement (the work); the ties are given (YtipbempkngfdbaaGreatDoorTie.lean); close each card by the builder's one call (the guide's Derived/Test/ToyasCard.lean, 'card_holds'). Laid BY PROGRAM, IN A SANDBOX (cutbox-door.mjs). By AI agents, Wed Nov 11 2026. No macro, syntax, notation, axiom, sorry.
-/
import Derived.Test.YtipbempkngfdbaaGreatDoorRows
import GoSem.ClaimSeven
namespace Go.Proofs.YtipbempkngfdbaaGreatDoor
namespace Rows

/-- THE TIED CARD OF 'dipworkslaw01.TideTells'. -/
def tideTellsCard : Claim7 := { stood := { row := tideTellsRow, standIns := [], harness := (true, "f2913a7a756f7621a991091317b368d7dc2365136506ff481679ea1e465fa2c6"), looks := true }, kinds := [], alts := [], laidByText := true, laidKinds := [.data, .data], laidTests := true, laidLooks := .later }
def TideTellsCardSaid : Prop := Claim7.holds Tryz.pinned (.plain (OpenSpec.ofChange tideTellsSpec)) tideTellsCard

/-- THE SECOND FORM's CARD OF 'dipworkslaw01.TideTells'. -/
def tideTellsUptoCard : Claim7 := { stood := { row := tideTellsUptoRow, standIns := [], harness := (true, "f2913a7a756f7621a991091317b368d7dc2365136506ff481679ea1e465fa2c6"), looks := true }, kinds := [], alts := [], laidByText := true, laidKinds := [.data, .data], laidTests := true, laidLooks := .later }
def TideTellsUptoCardSaid : Prop := Claim7.holds Tryz.pinned (.plain (OpenSpec.upto tideTellsSpec)) tideTellsUptoCard
end Rows
end Go.Proofs.YtipbempkngfdbaaGreatDoor
