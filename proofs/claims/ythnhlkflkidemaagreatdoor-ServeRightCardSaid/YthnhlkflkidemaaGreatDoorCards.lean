/-
  DERIVED. GIVEN WITH THE SEED: THE CARDS: each row of YthnhlkflkidemaaGreatDoorRows.lean that lists a variable, with what it lists TIED to the program's text (the seventh form; the later family's looks); each row that meets fmt, with fmt's text TOLD by the authors' own Lean function (tested against real Go, not proved from fmt's source: count such statements apart). THE CARD IS WHAT COUNTS. Prove the row's statement (the work); the ties are given (YthnhlkflkidemaaGreatDoorTie.lean); close each card by the builder's one call (the guide's Derived/Test/ToyasCard.lean, 'card_holds'). Laid BY PROGRAM, IN A SANDBOX (cutbox-door.mjs). By AI agents, Wed Nov 11 2026. No macro, syntax, notation, axiom, sorry.
-/
import Derived.Test.YthnhlkflkidemaaGreatDoorRows
import GoSem.ClaimSeven
namespace Go.Proofs.YthnhlkflkidemaaGreatDoor
namespace Rows

/-- THE TIED CARD OF 'dipworkslaw08.ServeReads'. -/
def serveReadsCard : Claim7 := { stood := { row := serveReadsRow, standIns := [], harness := (true, "3a28094ae399f64d3565bc845e28862c35646844f1266910d7e6c3b64bd95358"), looks := true }, kinds := [], alts := [], laidByText := true, laidKinds := [.data, .data], laidTests := true, laidLooks := .later }
def ServeReadsCardSaid : Prop := Claim7.holds Tryz.pinned (.plain (OpenSpec.ofChange serveReadsSpec)) serveReadsCard

/-- THE TIED CARD OF 'dipworkslaw08.ServeLooks'. -/
def serveLooksCard : Claim7 := { stood := { row := serveLooksRow, standIns := [], harness := (true, "3a28094ae399f64d3565bc845e28862c35646844f1266910d7e6c3b64bd95358"), looks := true }, kinds := [], alts := [], laidByText := true, laidKinds := [.data, .data], laidTests := true, laidLooks := .later }
def ServeLooksCardSaid : Prop := Claim7.holds Tryz.pinned (.plain (OpenSpec.ofChange serveLooksSpec)) serveLooksCard

/-- THE TIED CARD OF 'dipworkslaw08.ServeDrops'. -/
def serveDropsCard : Claim7 := { stood := { row := serveDropsRow, standIns := [], harness := (true, "3a28094ae399f64d3565bc845e28862c35646844f1266910d7e6c3b64bd95358"), looks := true }, kinds := [], alts := [], laidByText := true, laidKinds := [.data, .data], laidTests := true, laidLooks := .later }
def ServeDropsCardSaid : Prop := Claim7.holds Tryz.pinned (.plain (OpenSpec.ofChange serveDropsSpec)) serveDropsCard

/-- THE TIED CARD OF 'dipworkslaw08.ServeTrue'. -/
def serveTrueCard : Claim7 := { stood := { row := serveTrueRow, standIns := [], harness := (true, "3a28094ae399f64d3565bc845e28862c35646844f1266910d7e6c3b64bd95358"), looks := true }, kinds := [], alts := [], laidByText := true, laidKinds := [.data, .data], laidTests := true, laidLooks := .later }
def ServeTrueCardSaid : Prop := Claim7.holds Tryz.pinned (.plain (OpenSpec.ofChange serveTrueSpec)) serveTrueCard

/-- THE TIED CARD OF 'dipworkslaw08.ServeDrop'. -/
def serveDropCard : Claim7 := { stood := { row := serveDropRow, standIns := [], harness := (true, "3a28094ae399f64d3565bc845e28862c35646844f1266910d7e6c3b64bd95358"), looks := true }, kinds := [], alts := [], laidByText := true, laidKinds := [.data, .data], laidTests := true, laidLooks := .later }
def ServeDropCardSaid : Prop := Claim7.holds Tryz.pinned (.plain (OpenSpec.ofChange serveDropSpec)) serveDropCard

/-- THE TIED CARD OF 'dipworkslaw08.ServeCount'. -/
def serveCountCard : Claim7 := { stood := { row := serveCountRow, standIns := [], harness := (true, "3a28094ae399f64d3565bc845e28862c35646844f1266910d7e6c3b64bd95358"), looks := true }, kinds := [], alts := [], laidByText := true, laidKinds := [.data, .data], laidTests := true, laidLooks := .later }
def ServeCountCardSaid : Prop := Claim7.holds Tryz.pinned (.plain (OpenSpec.ofChange serveCountSpec)) serveCountCard

/-- THE TIED CARD OF 'dipworkslaw08.ServeMore'. -/
def serveMoreCard : Claim7 := { stood := { row := serveMoreRow, standIns := [], harness := (true, "3a28094ae399f64d3565bc845e28862c35646844f1266910d7e6c3b64bd95358"), looks := true }, kinds := [], alts := [], laidByText := true, laidKinds := [.data, .data], laidTests := true, laidLooks := .later }
def ServeMoreCardSaid : Prop := Claim7.holds Tryz.pinned (.plain (OpenSpec.ofChange serveMoreSpec)) serveMoreCard

/-- THE TIED CARD OF 'dipworkslaw08.ServeTurned'. -/
def serveTurnedCard : Claim7 := { stood := { row := serveTurnedRow, standIns := [], harness := (true, "3a28094ae399f64d3565bc845e28862c35646844f1266910d7e6c3b64bd95358"), looks := true }, kinds := [], alts := [], laidByText := true, laidKinds := [.data, .data], laidTests := true, laidLooks := .later }
def ServeTurnedCardSaid : Prop := Claim7.holds Tryz.pinned (.plain (OpenSpec.ofChange serveTurnedSpec)) serveTurnedCard

/-- THE TIED CARD OF 'dipworkslaw08.ServeRight'. -/
def serveRightCard : Claim7 := { stood := { row := serveRightRow, standIns := [], harness := (true, "3a28094ae399f64d3565bc845e28862c35646844f1266910d7e6c3b64bd95358"), looks := true }, kinds := [], alts := [], laidByText := true, laidKinds := [.data, .data], laidTests := true, laidLooks := .later }
def ServeRightCardSaid : Prop := Claim7.holds Tryz.pinned (.plain (OpenSpec.ofChange serveRightSpec)) serveRightCard

/-- THE TIED CARD OF 'dipworkslaw08.ServeBest'. -/
def serveBestCard : Claim7 := { stood := { row := serveBestRow, standIns := [], harness := (true, "3a28094ae399f64d3565bc845e28862c35646844f1266910d7e6c3b64bd95358"), looks := true }, kinds := [], alts := [], laidByText := true, laidKinds := [.data, .data], laidTests := true, laidLooks := .later }
def ServeBestCardSaid : Prop := Claim7.holds Tryz.pinned (.plain (OpenSpec.ofChange serveBestSpec)) serveBestCard

/-- THE TIED CARD OF 'dipworkstop.TopServed'. -/
def topServedCard : Claim7 := { stood := { row := topServedRow, standIns := [], harness := (true, "3a28094ae399f64d3565bc845e28862c35646844f1266910d7e6c3b64bd95358"), looks := true }, kinds := [], alts := [], laidByText := true, laidKinds := [.data, .data, .data], laidTests := true, laidLooks := .later }
def TopServedCardSaid : Prop := Claim7.holds Tryz.pinned (.plain (OpenSpec.ofChange topServedSpec)) topServedCard

/-- THE SECOND FORM's CARD OF 'dipworkslaw08.ServeReads'. -/
def serveReadsUptoCard : Claim7 := { stood := { row := serveReadsUptoRow, standIns := [], harness := (true, "3a28094ae399f64d3565bc845e28862c35646844f1266910d7e6c3b64bd95358"), looks := true }, kinds := [], alts := [], laidByText := true, laidKinds := [.data, .data], laidTests := true, laidLooks := .later }
def ServeReadsUptoCardSaid : Prop := Claim7.holds Tryz.pinned (.plain (OpenSpec.upto serveReadsSpec)) serveReadsUptoCard

/-- THE SECOND FORM's CARD OF 'dipworkslaw08.ServeLooks'. -/
def serveLooksUptoCard : Claim7 := { stood := { row := serveLooksUptoRow, standIns := [], harness := (true, "3a28094ae399f64d3565bc845e28862c35646844f1266910d7e6c3b64bd95358"), looks := true }, kinds := [], alts := [], laidByText := true, laidKinds := [.data, .data], laidTests := true, laidLooks := .later }
def ServeLooksUptoCardSaid : Prop := Claim7.holds Tryz.pinned (.plain (OpenSpec.upto serveLooksSpec)) serveLooksUptoCard

/-- THE SECOND FORM's CARD OF 'dipworkslaw08.ServeDrops'. -/
def serveDropsUptoCard : Claim7 := { stood := { row := serveDropsUptoRow, standIns := [], harness := (true, "3a28094ae399f64d3565bc845e28862c35646844f1266910d7e6c3b64bd95358"), looks := true }, kinds := [], alts := [], laidByText := true, laidKinds := [.data, .data], laidTests := true, laidLooks := .later }
def ServeDropsUptoCardSaid : Prop := Claim7.holds Tryz.pinned (.plain (OpenSpec.upto serveDropsSpec)) serveDropsUptoCard

/-- THE SECOND FORM's CARD OF 'dipworkslaw08.ServeTrue'. -/
def serveTrueUptoCard : Claim7 := { stood := { row := serveTrueUptoRow, standIns := [], harness := (true, "3a28094ae399f64d3565bc845e28862c35646844f1266910d7e6c3b64bd95358"), looks := true }, kinds := [], alts := [], laidByText := true, laidKinds := [.data, .data], laidTests := true, laidLooks := .later }
def ServeTrueUptoCardSaid : Prop := Claim7.holds Tryz.pinned (.plain (OpenSpec.upto serveTrueSpec)) serveTrueUptoCard

/-- THE SECOND FORM's CARD OF 'dipworkslaw08.ServeDrop'. -/
def serveDropUptoCard : Claim7 := { stood := { row := serveDropUptoRow, standIns := [], harness := (true, "3a28094ae399f64d3565bc845e28862c35646844f1266910d7e6c3b64bd95358"), looks := true }, kinds := [], alts := [], laidByText := true, laidKinds := [.data, .data], laidTests := true, laidLooks := .later }
def ServeDropUptoCardSaid : Prop := Claim7.holds Tryz.pinned (.plain (OpenSpec.upto serveDropSpec)) serveDropUptoCard

/-- THE SECOND FORM's CARD OF 'dipworkslaw08.ServeCount'. -/
def serveCountUptoCard : Claim7 := { stood := { row := serveCountUptoRow, standIns := [], harness := (true, "3a28094ae399f64d3565bc845e28862c35646844f1266910d7e6c3b64bd95358"), looks := true }, kinds := [], alts := [], laidByText := true, laidKinds := [.data, .data], laidTests := true, laidLooks := .later }
def ServeCountUptoCardSaid : Prop := Claim7.holds Tryz.pinned (.plain (OpenSpec.upto serveCountSpec)) serveCountUptoCard

/-- THE SECOND FORM's CARD OF 'dipworkslaw08.ServeMore'. -/
def serveMoreUptoCard : Claim7 := { stood := { row := serveMoreUptoRow, standIns := [], harness := (true, "3a28094ae399f64d3565bc845e28862c35646844f1266910d7e6c3b64bd95358"), looks := true }, kinds := [], alts := [], laidByText := true, laidKinds := [.data, .data], laidTests := true, laidLooks := .later }
def ServeMoreUptoCardSaid : Prop := Claim7.holds Tryz.pinned (.plain (OpenSpec.upto serveMoreSpec)) serveMoreUptoCard

/-- THE SECOND FORM's CARD OF 'dipworkslaw08.ServeTurned'. -/
def serveTurnedUptoCard : Claim7 := { stood := { row := serveTurnedUptoRow, standIns := [], harness := (true, "3a28094ae399f64d3565bc845e28862c35646844f1266910d7e6c3b64bd95358"), looks := true }, kinds := [], alts := [], laidByText := true, laidKinds := [.data, .data], laidTests := true, laidLooks := .later }
def ServeTurnedUptoCardSaid : Prop := Claim7.holds Tryz.pinned (.plain (OpenSpec.upto serveTurnedSpec)) serveTurnedUptoCard

/-- THE SECOND FORM's CARD OF 'dipworkslaw08.ServeRight'. -/
def serveRightUptoCard : Claim7 := { stood := { row := serveRightUptoRow, standIns := [], harness := (true, "3a28094ae399f64d3565bc845e28862c35646844f1266910d7e6c3b64bd95358"), looks := true }, kinds := [], alts := [], laidByText := true, laidKinds := [.data, .data], laidTests := true, laidLooks := .later }
def ServeRightUptoCardSaid : Prop := Claim7.holds Tryz.pinned (.plain (OpenSpec.upto serveRightSpec)) serveRightUptoCard

/-- THE SECOND FORM's CARD OF 'dipworkslaw08.ServeBest'. -/
def serveBestUptoCard : Claim7 := { stood := { row := serveBestUptoRow, standIns := [], harness := (true, "3a28094ae399f64d3565bc845e28862c35646844f1266910d7e6c3b64bd95358"), looks := true }, kinds := [], alts := [], laidByText := true, laidKinds := [.data, .data], laidTests := true, laidLooks := .later }
def ServeBestUptoCardSaid : Prop := Claim7.holds Tryz.pinned (.plain (OpenSpec.upto serveBestSpec)) serveBestUptoCard

/-- THE SECOND FORM's CARD OF 'dipworkstop.TopServed'. -/
def topServedUptoCard : Claim7 := { stood := { row := topServedUptoRow, standIns := [], harness := (true, "3a28094ae399f64d3565bc845e28862c35646844f1266910d7e6c3b64bd95358"), looks := true }, kinds := [], alts := [], laidByText := true, laidKinds := [.data, .data, .data], laidTests := true, laidLooks := .later }
def TopServedUptoCardSaid : Prop := Claim7.holds Tryz.pinned (.plain (OpenSpec.upto topServedSpec)) topServedUptoCard
end Rows
end Go.Proofs.YthnhlkflkidemaaGreatDoor
