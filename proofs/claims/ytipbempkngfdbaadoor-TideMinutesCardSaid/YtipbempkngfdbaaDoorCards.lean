/-
  DERIVED. GIVEN WITH THE SEED: THE CARDS: each row of YtipbempkngfdbaaDoorRows.lean that lists a variable, with what it lists TIED to the program's text (the seventh form; the later family's looks); each row that meets fmt, with fmt's text TOLD by the authors' own Lean function (tested against real Go, not proved from fmt's source: count such statements apart). THE CARD IS WHAT COUNTS. Prove the row's statement (the work); the ties are given (YtipbempkngfdbaaDoorTie.lean); close each card by the builder's one call (the guide's Derived/Test/ToyasCard.lean, 'card_holds'). Laid BY PROGRAM, IN A SANDBOX (cutbox-door.mjs). By AI agents, Wed Nov 11 2026. No macro, syntax, notation, axiom, sorry.
-/
import Derived.Test.YtipbempkngfdbaaDoorRows
import GoSem.ClaimSeven
namespace Go.Proofs.YtipbempkngfdbaaDoor
namespace Rows

/-- THE TIED CARD OF 'dipworkslaw01.TideMinutes'. -/
def tideMinutesCard : Claim7 := { stood := { row := tideMinutesRow, standIns := [], harness := (true, "234f6a70f98c927c5c69ece9908cfc10b62e43ab49cdf735fcffb8e05695a68a"), looks := true }, kinds := [], alts := [], laidByText := true, laidKinds := [.data, .data], laidTests := true, laidLooks := .later }
def TideMinutesCardSaid : Prop := Claim7.holds Tryd.pinned (.plain (OpenSpec.ofChange tideMinutesSpec)) tideMinutesCard

/-- THE TIED CARD OF 'dipworkslaw01.TideClashes'. -/
def tideClashesCard : Claim7 := { stood := { row := tideClashesRow, standIns := [], harness := (true, "234f6a70f98c927c5c69ece9908cfc10b62e43ab49cdf735fcffb8e05695a68a"), looks := true }, kinds := [], alts := [], laidByText := true, laidKinds := [.data, .data], laidTests := true, laidLooks := .later }
def TideClashesCardSaid : Prop := Claim7.holds Tryd.pinned (.plain (OpenSpec.ofChange tideClashesSpec)) tideClashesCard

/-- THE TIED CARD OF 'dipworkslaw01.TideNames'. -/
def tideNamesCard : Claim7 := { stood := { row := tideNamesRow, standIns := [], harness := (true, "234f6a70f98c927c5c69ece9908cfc10b62e43ab49cdf735fcffb8e05695a68a"), looks := true }, kinds := [], alts := [], laidByText := true, laidKinds := [.data, .data], laidTests := true, laidLooks := .later }
def TideNamesCardSaid : Prop := Claim7.holds Tryd.pinned (.plain (OpenSpec.ofChange tideNamesSpec)) tideNamesCard

/-- THE TIED CARD OF 'dipworkslaw01.TideTrue'. -/
def tideTrueCard : Claim7 := { stood := { row := tideTrueRow, standIns := [], harness := (true, "234f6a70f98c927c5c69ece9908cfc10b62e43ab49cdf735fcffb8e05695a68a"), looks := true }, kinds := [], alts := [], laidByText := true, laidKinds := [.data, .data], laidTests := true, laidLooks := .later }
def TideTrueCardSaid : Prop := Claim7.holds Tryd.pinned (.plain (OpenSpec.ofChange tideTrueSpec)) tideTrueCard

/-- THE TIED CARD OF 'dipworkslaw01.TideEnds'. -/
def tideEndsCard : Claim7 := { stood := { row := tideEndsRow, standIns := [], harness := (true, "234f6a70f98c927c5c69ece9908cfc10b62e43ab49cdf735fcffb8e05695a68a"), looks := true }, kinds := [], alts := [], laidByText := true, laidKinds := [.data, .data], laidTests := true, laidLooks := .later }
def TideEndsCardSaid : Prop := Claim7.holds Tryd.pinned (.plain (OpenSpec.ofChange tideEndsSpec)) tideEndsCard

/-- THE TIED CARD OF 'dipworkslaw01.TideServed'. -/
def tideServedCard : Claim7 := { stood := { row := tideServedRow, standIns := [], harness := (true, "234f6a70f98c927c5c69ece9908cfc10b62e43ab49cdf735fcffb8e05695a68a"), looks := true }, kinds := [], alts := [], laidByText := true, laidKinds := [.data, .data], laidTests := true, laidLooks := .later }
def TideServedCardSaid : Prop := Claim7.holds Tryd.pinned (.plain (OpenSpec.ofChange tideServedSpec)) tideServedCard

/-- THE TIED CARD OF 'dipworkslaw01.TideMoves'. -/
def tideMovesCard : Claim7 := { stood := { row := tideMovesRow, standIns := [], harness := (true, "234f6a70f98c927c5c69ece9908cfc10b62e43ab49cdf735fcffb8e05695a68a"), looks := true }, kinds := [], alts := [], laidByText := true, laidKinds := [.data, .data], laidTests := true, laidLooks := .later }
def TideMovesCardSaid : Prop := Claim7.holds Tryd.pinned (.plain (OpenSpec.ofChange tideMovesSpec)) tideMovesCard

/-- THE TIED CARD OF 'dipworkslaw01.TideNext'. -/
def tideNextCard : Claim7 := { stood := { row := tideNextRow, standIns := [], harness := (true, "234f6a70f98c927c5c69ece9908cfc10b62e43ab49cdf735fcffb8e05695a68a"), looks := true }, kinds := [], alts := [], laidByText := true, laidKinds := [.data, .data], laidTests := true, laidLooks := .later }
def TideNextCardSaid : Prop := Claim7.holds Tryd.pinned (.plain (OpenSpec.ofChange tideNextSpec)) tideNextCard

/-- THE TIED CARD OF 'dipworkslaw01.TideClash'. -/
def tideClashCard : Claim7 := { stood := { row := tideClashRow, standIns := [], harness := (true, "234f6a70f98c927c5c69ece9908cfc10b62e43ab49cdf735fcffb8e05695a68a"), looks := true }, kinds := [], alts := [], laidByText := true, laidKinds := [.data, .data], laidTests := true, laidLooks := .later }
def TideClashCardSaid : Prop := Claim7.holds Tryd.pinned (.plain (OpenSpec.ofChange tideClashSpec)) tideClashCard

/-- THE TIED CARD OF 'dipworkslaw01.TideMore'. -/
def tideMoreCard : Claim7 := { stood := { row := tideMoreRow, standIns := [], harness := (true, "234f6a70f98c927c5c69ece9908cfc10b62e43ab49cdf735fcffb8e05695a68a"), looks := true }, kinds := [], alts := [], laidByText := true, laidKinds := [.data, .data], laidTests := true, laidLooks := .later }
def TideMoreCardSaid : Prop := Claim7.holds Tryd.pinned (.plain (OpenSpec.ofChange tideMoreSpec)) tideMoreCard

/-- THE SECOND FORM's CARD OF 'dipworkslaw01.TideMinutes'. -/
def tideMinutesUptoCard : Claim7 := { stood := { row := tideMinutesUptoRow, standIns := [], harness := (true, "234f6a70f98c927c5c69ece9908cfc10b62e43ab49cdf735fcffb8e05695a68a"), looks := true }, kinds := [], alts := [], laidByText := true, laidKinds := [.data, .data], laidTests := true, laidLooks := .later }
def TideMinutesUptoCardSaid : Prop := Claim7.holds Tryd.pinned (.plain (OpenSpec.upto tideMinutesSpec)) tideMinutesUptoCard

/-- THE SECOND FORM's CARD OF 'dipworkslaw01.TideClashes'. -/
def tideClashesUptoCard : Claim7 := { stood := { row := tideClashesUptoRow, standIns := [], harness := (true, "234f6a70f98c927c5c69ece9908cfc10b62e43ab49cdf735fcffb8e05695a68a"), looks := true }, kinds := [], alts := [], laidByText := true, laidKinds := [.data, .data], laidTests := true, laidLooks := .later }
def TideClashesUptoCardSaid : Prop := Claim7.holds Tryd.pinned (.plain (OpenSpec.upto tideClashesSpec)) tideClashesUptoCard

/-- THE SECOND FORM's CARD OF 'dipworkslaw01.TideNames'. -/
def tideNamesUptoCard : Claim7 := { stood := { row := tideNamesUptoRow, standIns := [], harness := (true, "234f6a70f98c927c5c69ece9908cfc10b62e43ab49cdf735fcffb8e05695a68a"), looks := true }, kinds := [], alts := [], laidByText := true, laidKinds := [.data, .data], laidTests := true, laidLooks := .later }
def TideNamesUptoCardSaid : Prop := Claim7.holds Tryd.pinned (.plain (OpenSpec.upto tideNamesSpec)) tideNamesUptoCard

/-- THE SECOND FORM's CARD OF 'dipworkslaw01.TideTrue'. -/
def tideTrueUptoCard : Claim7 := { stood := { row := tideTrueUptoRow, standIns := [], harness := (true, "234f6a70f98c927c5c69ece9908cfc10b62e43ab49cdf735fcffb8e05695a68a"), looks := true }, kinds := [], alts := [], laidByText := true, laidKinds := [.data, .data], laidTests := true, laidLooks := .later }
def TideTrueUptoCardSaid : Prop := Claim7.holds Tryd.pinned (.plain (OpenSpec.upto tideTrueSpec)) tideTrueUptoCard

/-- THE SECOND FORM's CARD OF 'dipworkslaw01.TideEnds'. -/
def tideEndsUptoCard : Claim7 := { stood := { row := tideEndsUptoRow, standIns := [], harness := (true, "234f6a70f98c927c5c69ece9908cfc10b62e43ab49cdf735fcffb8e05695a68a"), looks := true }, kinds := [], alts := [], laidByText := true, laidKinds := [.data, .data], laidTests := true, laidLooks := .later }
def TideEndsUptoCardSaid : Prop := Claim7.holds Tryd.pinned (.plain (OpenSpec.upto tideEndsSpec)) tideEndsUptoCard

/-- THE SECOND FORM's CARD OF 'dipworkslaw01.TideServed'. -/
def tideServedUptoCard : Claim7 := { stood := { row := tideServedUptoRow, standIns := [], harness := (true, "234f6a70f98c927c5c69ece9908cfc10b62e43ab49cdf735fcffb8e05695a68a"), looks := true }, kinds := [], alts := [], laidByText := true, laidKinds := [.data, .data], laidTests := true, laidLooks := .later }
def TideServedUptoCardSaid : Prop := Claim7.holds Tryd.pinned (.plain (OpenSpec.upto tideServedSpec)) tideServedUptoCard

/-- THE SECOND FORM's CARD OF 'dipworkslaw01.TideMoves'. -/
def tideMovesUptoCard : Claim7 := { stood := { row := tideMovesUptoRow, standIns := [], harness := (true, "234f6a70f98c927c5c69ece9908cfc10b62e43ab49cdf735fcffb8e05695a68a"), looks := true }, kinds := [], alts := [], laidByText := true, laidKinds := [.data, .data], laidTests := true, laidLooks := .later }
def TideMovesUptoCardSaid : Prop := Claim7.holds Tryd.pinned (.plain (OpenSpec.upto tideMovesSpec)) tideMovesUptoCard

/-- THE SECOND FORM's CARD OF 'dipworkslaw01.TideNext'. -/
def tideNextUptoCard : Claim7 := { stood := { row := tideNextUptoRow, standIns := [], harness := (true, "234f6a70f98c927c5c69ece9908cfc10b62e43ab49cdf735fcffb8e05695a68a"), looks := true }, kinds := [], alts := [], laidByText := true, laidKinds := [.data, .data], laidTests := true, laidLooks := .later }
def TideNextUptoCardSaid : Prop := Claim7.holds Tryd.pinned (.plain (OpenSpec.upto tideNextSpec)) tideNextUptoCard

/-- THE SECOND FORM's CARD OF 'dipworkslaw01.TideClash'. -/
def tideClashUptoCard : Claim7 := { stood := { row := tideClashUptoRow, standIns := [], harness := (true, "234f6a70f98c927c5c69ece9908cfc10b62e43ab49cdf735fcffb8e05695a68a"), looks := true }, kinds := [], alts := [], laidByText := true, laidKinds := [.data, .data], laidTests := true, laidLooks := .later }
def TideClashUptoCardSaid : Prop := Claim7.holds Tryd.pinned (.plain (OpenSpec.upto tideClashSpec)) tideClashUptoCard

/-- THE SECOND FORM's CARD OF 'dipworkslaw01.TideMore'. -/
def tideMoreUptoCard : Claim7 := { stood := { row := tideMoreUptoRow, standIns := [], harness := (true, "234f6a70f98c927c5c69ece9908cfc10b62e43ab49cdf735fcffb8e05695a68a"), looks := true }, kinds := [], alts := [], laidByText := true, laidKinds := [.data, .data], laidTests := true, laidLooks := .later }
def TideMoreUptoCardSaid : Prop := Claim7.holds Tryd.pinned (.plain (OpenSpec.upto tideMoreSpec)) tideMoreUptoCard
end Rows
end Go.Proofs.YtipbempkngfdbaaDoor
