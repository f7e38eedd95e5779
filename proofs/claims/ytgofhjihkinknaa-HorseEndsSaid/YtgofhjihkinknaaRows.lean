/-
  No cell of these rows narrows 'for every input' (looked for: loops, veiled, ifaces, maps, wideKeys, modest, calm, conditions, laid).
  DERIVED. THE GIVEN ROWS OF THIS SEAT. 11 by the template 'for every input the law returns true; each argument reads behind the call as it read before'; 0 by the template 'total and deterministic' (their statements: YtgofhjihkinknaaTotals.lean).
  GIVEN WITH THE SEED: the statements are not yours to turn. If you find one false, say at which input.
  Laid BY PROGRAM, IN A SANDBOX (cutbox-rows.mjs): the forced cells as the released guide's own fill.sh prints them over the translation 38e8d294e40c5fed… (all of the seat's roots in one cut). By AI agents, Wed Nov 11 2026. No macro, syntax, notation, axiom, sorry.
-/
import Derived.Test.YtgofhjihkinknaaChecked
import GoSem.Claim
import GoSem.ClaimJoined
import GoSem.ClaimMapViews
import Derived.JoinedTies
import Derived.KernelRfl
namespace Go.Proofs.Ytgofhjihkinknaa
/- THE CELL 'sum', in the pinned program and in every row, IS THE sha256 OF THE DUMP (.gsa) THAT YtgofhjihkinknaaProg.lean LOADS. Nothing in Lean hashes anything: it is a label: what it is worth is what the hold of that sum in a sandbox is worth. -/
noncomputable def Try.pinned : Pinned := { name := "ytgofhjihkinknaa", sum := "38e8d294e40c5fedb06579bf98cd2bef45942305f20bc1856e877ab6133e6672", checked := Try.checked }
namespace Rows
def none {H : Type} : Left H := { results := [], args := [] }

/-- 'dipworkslaw02.HorseReads': WHATEVER THE INPUT: true; the input reads as it did. -/
def horseReadsSpec : ChangeSpec := { name := "horseReads", fn := fun _ => fun
  | [d1, d2, d3, d4, d5, d6] => { results := [.lit (.bool true)], args := [d1, d2, d3, d4, d5, d6] }
  | _ => none }
def horseReadsRow : OpenClaim := { program := "ytgofhjihkinknaa", sum := "38e8d294e40c5fedb06579bf98cd2bef45942305f20bc1856e877ab6133e6672", func := "dipworks/dipworkslaw02.HorseReads", spec := "horseReads", unfollowed := true, recurses := true, plainKeys := false, apart := false }
def HorseReadsSaid : Prop := horseReadsRow.holds Try.pinned (OpenSpec.ofChange horseReadsSpec)

/-- ITS FALSE NEIGHBOUR: 'it returns false'. Refute it at one input. -/
def horseReadsWrong : ChangeSpec := { name := "horseReads", fn := fun _ => fun
  | [d1, d2, d3, d4, d5, d6] => { results := [.lit (.bool false)], args := [d1, d2, d3, d4, d5, d6] }
  | _ => none }
def HorseReadsWrongFalsely : Prop := horseReadsRow.holds Try.pinned (OpenSpec.ofChange horseReadsWrong)

/-- 'dipworkslaw02.HorseLooks': WHATEVER THE INPUT: true; the input reads as it did. -/
def horseLooksSpec : ChangeSpec := { name := "horseLooks", fn := fun _ => fun
  | [d1, d2] => { results := [.lit (.bool true)], args := [d1, d2] }
  | _ => none }
def horseLooksRow : OpenClaim := { program := "ytgofhjihkinknaa", sum := "38e8d294e40c5fedb06579bf98cd2bef45942305f20bc1856e877ab6133e6672", func := "dipworks/dipworkslaw02.HorseLooks", spec := "horseLooks", unfollowed := true, recurses := true, plainKeys := false, apart := false }
def HorseLooksSaid : Prop := horseLooksRow.holds Try.pinned (OpenSpec.ofChange horseLooksSpec)

/-- ITS FALSE NEIGHBOUR: 'it returns false'. Refute it at one input. -/
def horseLooksWrong : ChangeSpec := { name := "horseLooks", fn := fun _ => fun
  | [d1, d2] => { results := [.lit (.bool false)], args := [d1, d2] }
  | _ => none }
def HorseLooksWrongFalsely : Prop := horseLooksRow.holds Try.pinned (OpenSpec.ofChange horseLooksWrong)

/-- 'dipworkslaw02.HorseLeaves': WHATEVER THE INPUT: true; the input reads as it did. -/
def horseLeavesSpec : ChangeSpec := { name := "horseLeaves", fn := fun _ => fun
  | [d1, d2, d3] => { results := [.lit (.bool true)], args := [d1, d2, d3] }
  | _ => none }
def horseLeavesRow : OpenClaim := { program := "ytgofhjihkinknaa", sum := "38e8d294e40c5fedb06579bf98cd2bef45942305f20bc1856e877ab6133e6672", func := "dipworks/dipworkslaw02.HorseLeaves", spec := "horseLeaves", unfollowed := true, recurses := true, plainKeys := false, apart := false }
def HorseLeavesSaid : Prop := horseLeavesRow.holds Try.pinned (OpenSpec.ofChange horseLeavesSpec)

/-- ITS FALSE NEIGHBOUR: 'it returns false'. Refute it at one input. -/
def horseLeavesWrong : ChangeSpec := { name := "horseLeaves", fn := fun _ => fun
  | [d1, d2, d3] => { results := [.lit (.bool false)], args := [d1, d2, d3] }
  | _ => none }
def HorseLeavesWrongFalsely : Prop := horseLeavesRow.holds Try.pinned (OpenSpec.ofChange horseLeavesWrong)

/-- 'dipworkslaw02.HorseTrue': WHATEVER THE INPUT: true; the input reads as it did. -/
def horseTrueSpec : ChangeSpec := { name := "horseTrue", fn := fun _ => fun
  | [d1, d2, d3, d4] => { results := [.lit (.bool true)], args := [d1, d2, d3, d4] }
  | _ => none }
def horseTrueRow : OpenClaim := { program := "ytgofhjihkinknaa", sum := "38e8d294e40c5fedb06579bf98cd2bef45942305f20bc1856e877ab6133e6672", func := "dipworks/dipworkslaw02.HorseTrue", spec := "horseTrue", unfollowed := true, recurses := true, plainKeys := false, apart := false }
def HorseTrueSaid : Prop := horseTrueRow.holds Try.pinned (OpenSpec.ofChange horseTrueSpec)

/-- ITS FALSE NEIGHBOUR: 'it returns false'. Refute it at one input. -/
def horseTrueWrong : ChangeSpec := { name := "horseTrue", fn := fun _ => fun
  | [d1, d2, d3, d4] => { results := [.lit (.bool false)], args := [d1, d2, d3, d4] }
  | _ => none }
def HorseTrueWrongFalsely : Prop := horseTrueRow.holds Try.pinned (OpenSpec.ofChange horseTrueWrong)

/-- 'dipworkslaw02.HorseEnds': WHATEVER THE INPUT: true; the input reads as it did. -/
def horseEndsSpec : ChangeSpec := { name := "horseEnds", fn := fun _ => fun
  | [d1, d2, d3] => { results := [.lit (.bool true)], args := [d1, d2, d3] }
  | _ => none }
def horseEndsRow : OpenClaim := { program := "ytgofhjihkinknaa", sum := "38e8d294e40c5fedb06579bf98cd2bef45942305f20bc1856e877ab6133e6672", func := "dipworks/dipworkslaw02.HorseEnds", spec := "horseEnds", unfollowed := true, recurses := true, plainKeys := false, apart := false }
def HorseEndsSaid : Prop := horseEndsRow.holds Try.pinned (OpenSpec.ofChange horseEndsSpec)

/-- ITS FALSE NEIGHBOUR: 'it returns false'. Refute it at one input. -/
def horseEndsWrong : ChangeSpec := { name := "horseEnds", fn := fun _ => fun
  | [d1, d2, d3] => { results := [.lit (.bool false)], args := [d1, d2, d3] }
  | _ => none }
def HorseEndsWrongFalsely : Prop := horseEndsRow.holds Try.pinned (OpenSpec.ofChange horseEndsWrong)

/-- 'dipworkslaw02.HorseFewest': WHATEVER THE INPUT: true; the input reads as it did. -/
def horseFewestSpec : ChangeSpec := { name := "horseFewest", fn := fun _ => fun
  | [d1, d2, d3] => { results := [.lit (.bool true)], args := [d1, d2, d3] }
  | _ => none }
def horseFewestRow : OpenClaim := { program := "ytgofhjihkinknaa", sum := "38e8d294e40c5fedb06579bf98cd2bef45942305f20bc1856e877ab6133e6672", func := "dipworks/dipworkslaw02.HorseFewest", spec := "horseFewest", unfollowed := true, recurses := true, plainKeys := false, apart := false }
def HorseFewestSaid : Prop := horseFewestRow.holds Try.pinned (OpenSpec.ofChange horseFewestSpec)

/-- ITS FALSE NEIGHBOUR: 'it returns false'. Refute it at one input. -/
def horseFewestWrong : ChangeSpec := { name := "horseFewest", fn := fun _ => fun
  | [d1, d2, d3] => { results := [.lit (.bool false)], args := [d1, d2, d3] }
  | _ => none }
def HorseFewestWrongFalsely : Prop := horseFewestRow.holds Try.pinned (OpenSpec.ofChange horseFewestWrong)

/-- 'dipworkslaw02.HorseCheck': WHATEVER THE INPUT: true; the input reads as it did. -/
def horseCheckSpec : ChangeSpec := { name := "horseCheck", fn := fun _ => fun
  | [d1, d2, d3] => { results := [.lit (.bool true)], args := [d1, d2, d3] }
  | _ => none }
def horseCheckRow : OpenClaim := { program := "ytgofhjihkinknaa", sum := "38e8d294e40c5fedb06579bf98cd2bef45942305f20bc1856e877ab6133e6672", func := "dipworks/dipworkslaw02.HorseCheck", spec := "horseCheck", unfollowed := true, recurses := true, plainKeys := false, apart := false }
def HorseCheckSaid : Prop := horseCheckRow.holds Try.pinned (OpenSpec.ofChange horseCheckSpec)

/-- ITS FALSE NEIGHBOUR: 'it returns false'. Refute it at one input. -/
def horseCheckWrong : ChangeSpec := { name := "horseCheck", fn := fun _ => fun
  | [d1, d2, d3] => { results := [.lit (.bool false)], args := [d1, d2, d3] }
  | _ => none }
def HorseCheckWrongFalsely : Prop := horseCheckRow.holds Try.pinned (OpenSpec.ofChange horseCheckWrong)

/-- 'dipworkslaw02.HorseProof': WHATEVER THE INPUT: true; the input reads as it did. -/
def horseProofSpec : ChangeSpec := { name := "horseProof", fn := fun _ => fun
  | [d1, d2, d3, d4] => { results := [.lit (.bool true)], args := [d1, d2, d3, d4] }
  | _ => none }
def horseProofRow : OpenClaim := { program := "ytgofhjihkinknaa", sum := "38e8d294e40c5fedb06579bf98cd2bef45942305f20bc1856e877ab6133e6672", func := "dipworks/dipworkslaw02.HorseProof", spec := "horseProof", unfollowed := true, recurses := true, plainKeys := false, apart := false }
def HorseProofSaid : Prop := horseProofRow.holds Try.pinned (OpenSpec.ofChange horseProofSpec)

/-- ITS FALSE NEIGHBOUR: 'it returns false'. Refute it at one input. -/
def horseProofWrong : ChangeSpec := { name := "horseProof", fn := fun _ => fun
  | [d1, d2, d3, d4] => { results := [.lit (.bool false)], args := [d1, d2, d3, d4] }
  | _ => none }
def HorseProofWrongFalsely : Prop := horseProofRow.holds Try.pinned (OpenSpec.ofChange horseProofWrong)

/-- 'dipworkslaw02.HorseLeave': WHATEVER THE INPUT: true; the input reads as it did. -/
def horseLeaveSpec : ChangeSpec := { name := "horseLeave", fn := fun _ => fun
  | [d1, d2, d3, d4] => { results := [.lit (.bool true)], args := [d1, d2, d3, d4] }
  | _ => none }
def horseLeaveRow : OpenClaim := { program := "ytgofhjihkinknaa", sum := "38e8d294e40c5fedb06579bf98cd2bef45942305f20bc1856e877ab6133e6672", func := "dipworks/dipworkslaw02.HorseLeave", spec := "horseLeave", unfollowed := true, recurses := true, plainKeys := false, apart := false }
def HorseLeaveSaid : Prop := horseLeaveRow.holds Try.pinned (OpenSpec.ofChange horseLeaveSpec)

/-- ITS FALSE NEIGHBOUR: 'it returns false'. Refute it at one input. -/
def horseLeaveWrong : ChangeSpec := { name := "horseLeave", fn := fun _ => fun
  | [d1, d2, d3, d4] => { results := [.lit (.bool false)], args := [d1, d2, d3, d4] }
  | _ => none }
def HorseLeaveWrongFalsely : Prop := horseLeaveRow.holds Try.pinned (OpenSpec.ofChange horseLeaveWrong)

/-- 'dipworkslaw02.HorseMore': WHATEVER THE INPUT: true; the input reads as it did. -/
def horseMoreSpec : ChangeSpec := { name := "horseMore", fn := fun _ => fun
  | [d1, d2, d3, d4] => { results := [.lit (.bool true)], args := [d1, d2, d3, d4] }
  | _ => none }
def horseMoreRow : OpenClaim := { program := "ytgofhjihkinknaa", sum := "38e8d294e40c5fedb06579bf98cd2bef45942305f20bc1856e877ab6133e6672", func := "dipworks/dipworkslaw02.HorseMore", spec := "horseMore", unfollowed := true, recurses := true, plainKeys := false, apart := false }
def HorseMoreSaid : Prop := horseMoreRow.holds Try.pinned (OpenSpec.ofChange horseMoreSpec)

/-- ITS FALSE NEIGHBOUR: 'it returns false'. Refute it at one input. -/
def horseMoreWrong : ChangeSpec := { name := "horseMore", fn := fun _ => fun
  | [d1, d2, d3, d4] => { results := [.lit (.bool false)], args := [d1, d2, d3, d4] }
  | _ => none }
def HorseMoreWrongFalsely : Prop := horseMoreRow.holds Try.pinned (OpenSpec.ofChange horseMoreWrong)

/-- 'dipworkslaw02.HorseTurned': WHATEVER THE INPUT: true; the input reads as it did. -/
def horseTurnedSpec : ChangeSpec := { name := "horseTurned", fn := fun _ => fun
  | [d1, d2, d3, d4] => { results := [.lit (.bool true)], args := [d1, d2, d3, d4] }
  | _ => none }
def horseTurnedRow : OpenClaim := { program := "ytgofhjihkinknaa", sum := "38e8d294e40c5fedb06579bf98cd2bef45942305f20bc1856e877ab6133e6672", func := "dipworks/dipworkslaw02.HorseTurned", spec := "horseTurned", unfollowed := true, recurses := true, plainKeys := false, apart := false }
def HorseTurnedSaid : Prop := horseTurnedRow.holds Try.pinned (OpenSpec.ofChange horseTurnedSpec)

/-- ITS FALSE NEIGHBOUR: 'it returns false'. Refute it at one input. -/
def horseTurnedWrong : ChangeSpec := { name := "horseTurned", fn := fun _ => fun
  | [d1, d2, d3, d4] => { results := [.lit (.bool false)], args := [d1, d2, d3, d4] }
  | _ => none }
def HorseTurnedWrongFalsely : Prop := horseTurnedRow.holds Try.pinned (OpenSpec.ofChange horseTurnedWrong)

/- THE SECOND FORM. 'bulk': how many values and letters a reading holds, each counted each time it is reached (what is shared counts as often as it is met; a slice's spare places count too). A statement '..UptoSaid' is the law's where the arguments, and the package variables that the reading takes, are together of bulk at most 1048576: NARROWER than '..Said'. Prove '..Said' where nothing that the law and all that it calls make is longer than what came in: it says more and counts as full. Else prove '..UptoSaid'. A law counts once. -/
mutual
def uptoBulk {H : Type} : DataW H → Nat
  | .lit (.string bytes) => bytes.length + 1
  | .lit _ => 1
  | .nil => 1
  | .ptr d => uptoBulk d + 1
  | .slice elems spare => uptoBulkAll elems + uptoBulkAll spare + 1
  | .agg parts => uptoBulkAll parts + 1
  | .iface _ d => uptoBulk d + 1
  | .map entries => uptoBulkEntries entries + 1
  | .held _ => 1
def uptoBulkAll {H : Type} : List (DataW H) → Nat
  | [] => 0
  | d :: r => uptoBulk d + uptoBulkAll r
def uptoBulkEntries {H : Type} : List (Lit × DataW H) → Nat
  | [] => 0
  | x :: r => uptoBulkEntry x + uptoBulkEntries r
def uptoBulkEntry {H : Type} : Lit × DataW H → Nat
  | (.string bytes, d) => bytes.length + uptoBulk d + 1
  | (_, d) => uptoBulk d + 1
 end
def uptoSmall : (H : Type) → List (DataW H) → Bool := fun _ ds => decide (uptoBulkAll ds ≤ 1048576)
def OpenSpec.upto (s : _root_.Go.ChangeSpec) : _root_.Go.OpenSpec := { _root_.Go.OpenSpec.ofChange s with cond := some uptoSmall }

/-- 'dipworkslaw02.HorseReads', WHERE WHAT IT READS IS OF BULK AT MOST 1048576: true; the input reads as it did. -/
def horseReadsUptoRow : OpenClaim := { program := "ytgofhjihkinknaa", sum := "38e8d294e40c5fedb06579bf98cd2bef45942305f20bc1856e877ab6133e6672", func := "dipworks/dipworkslaw02.HorseReads", spec := "horseReads", unfollowed := true, recurses := true, plainKeys := false, apart := false, narrowed := true }
def HorseReadsUptoSaid : Prop := horseReadsUptoRow.holds Try.pinned (OpenSpec.upto horseReadsSpec)

/-- 'dipworkslaw02.HorseLooks', WHERE WHAT IT READS IS OF BULK AT MOST 1048576: true; the input reads as it did. -/
def horseLooksUptoRow : OpenClaim := { program := "ytgofhjihkinknaa", sum := "38e8d294e40c5fedb06579bf98cd2bef45942305f20bc1856e877ab6133e6672", func := "dipworks/dipworkslaw02.HorseLooks", spec := "horseLooks", unfollowed := true, recurses := true, plainKeys := false, apart := false, narrowed := true }
def HorseLooksUptoSaid : Prop := horseLooksUptoRow.holds Try.pinned (OpenSpec.upto horseLooksSpec)

/-- 'dipworkslaw02.HorseLeaves', WHERE WHAT IT READS IS OF BULK AT MOST 1048576: true; the input reads as it did. -/
def horseLeavesUptoRow : OpenClaim := { program := "ytgofhjihkinknaa", sum := "38e8d294e40c5fedb06579bf98cd2bef45942305f20bc1856e877ab6133e6672", func := "dipworks/dipworkslaw02.HorseLeaves", spec := "horseLeaves", unfollowed := true, recurses := true, plainKeys := false, apart := false, narrowed := true }
def HorseLeavesUptoSaid : Prop := horseLeavesUptoRow.holds Try.pinned (OpenSpec.upto horseLeavesSpec)

/-- 'dipworkslaw02.HorseTrue', WHERE WHAT IT READS IS OF BULK AT MOST 1048576: true; the input reads as it did. -/
def horseTrueUptoRow : OpenClaim := { program := "ytgofhjihkinknaa", sum := "38e8d294e40c5fedb06579bf98cd2bef45942305f20bc1856e877ab6133e6672", func := "dipworks/dipworkslaw02.HorseTrue", spec := "horseTrue", unfollowed := true, recurses := true, plainKeys := false, apart := false, narrowed := true }
def HorseTrueUptoSaid : Prop := horseTrueUptoRow.holds Try.pinned (OpenSpec.upto horseTrueSpec)

/-- 'dipworkslaw02.HorseEnds', WHERE WHAT IT READS IS OF BULK AT MOST 1048576: true; the input reads as it did. -/
def horseEndsUptoRow : OpenClaim := { program := "ytgofhjihkinknaa", sum := "38e8d294e40c5fedb06579bf98cd2bef45942305f20bc1856e877ab6133e6672", func := "dipworks/dipworkslaw02.HorseEnds", spec := "horseEnds", unfollowed := true, recurses := true, plainKeys := false, apart := false, narrowed := true }
def HorseEndsUptoSaid : Prop := horseEndsUptoRow.holds Try.pinned (OpenSpec.upto horseEndsSpec)

/-- 'dipworkslaw02.HorseFewest', WHERE WHAT IT READS IS OF BULK AT MOST 1048576: true; the input reads as it did. -/
def horseFewestUptoRow : OpenClaim := { program := "ytgofhjihkinknaa", sum := "38e8d294e40c5fedb06579bf98cd2bef45942305f20bc1856e877ab6133e6672", func := "dipworks/dipworkslaw02.HorseFewest", spec := "horseFewest", unfollowed := true, recurses := true, plainKeys := false, apart := false, narrowed := true }
def HorseFewestUptoSaid : Prop := horseFewestUptoRow.holds Try.pinned (OpenSpec.upto horseFewestSpec)

/-- 'dipworkslaw02.HorseCheck', WHERE WHAT IT READS IS OF BULK AT MOST 1048576: true; the input reads as it did. -/
def horseCheckUptoRow : OpenClaim := { program := "ytgofhjihkinknaa", sum := "38e8d294e40c5fedb06579bf98cd2bef45942305f20bc1856e877ab6133e6672", func := "dipworks/dipworkslaw02.HorseCheck", spec := "horseCheck", unfollowed := true, recurses := true, plainKeys := false, apart := false, narrowed := true }
def HorseCheckUptoSaid : Prop := horseCheckUptoRow.holds Try.pinned (OpenSpec.upto horseCheckSpec)

/-- 'dipworkslaw02.HorseProof', WHERE WHAT IT READS IS OF BULK AT MOST 1048576: true; the input reads as it did. -/
def horseProofUptoRow : OpenClaim := { program := "ytgofhjihkinknaa", sum := "38e8d294e40c5fedb06579bf98cd2bef45942305f20bc1856e877ab6133e6672", func := "dipworks/dipworkslaw02.HorseProof", spec := "horseProof", unfollowed := true, recurses := true, plainKeys := false, apart := false, narrowed := true }
def HorseProofUptoSaid : Prop := horseProofUptoRow.holds Try.pinned (OpenSpec.upto horseProofSpec)

/-- 'dipworkslaw02.HorseLeave', WHERE WHAT IT READS IS OF BULK AT MOST 1048576: true; the input reads as it did. -/
def horseLeaveUptoRow : OpenClaim := { program := "ytgofhjihkinknaa", sum := "38e8d294e40c5fedb06579bf98cd2bef45942305f20bc1856e877ab6133e6672", func := "dipworks/dipworkslaw02.HorseLeave", spec := "horseLeave", unfollowed := true, recurses := true, plainKeys := false, apart := false, narrowed := true }
def HorseLeaveUptoSaid : Prop := horseLeaveUptoRow.holds Try.pinned (OpenSpec.upto horseLeaveSpec)

/-- 'dipworkslaw02.HorseMore', WHERE WHAT IT READS IS OF BULK AT MOST 1048576: true; the input reads as it did. -/
def horseMoreUptoRow : OpenClaim := { program := "ytgofhjihkinknaa", sum := "38e8d294e40c5fedb06579bf98cd2bef45942305f20bc1856e877ab6133e6672", func := "dipworks/dipworkslaw02.HorseMore", spec := "horseMore", unfollowed := true, recurses := true, plainKeys := false, apart := false, narrowed := true }
def HorseMoreUptoSaid : Prop := horseMoreUptoRow.holds Try.pinned (OpenSpec.upto horseMoreSpec)

/-- 'dipworkslaw02.HorseTurned', WHERE WHAT IT READS IS OF BULK AT MOST 1048576: true; the input reads as it did. -/
def horseTurnedUptoRow : OpenClaim := { program := "ytgofhjihkinknaa", sum := "38e8d294e40c5fedb06579bf98cd2bef45942305f20bc1856e877ab6133e6672", func := "dipworks/dipworkslaw02.HorseTurned", spec := "horseTurned", unfollowed := true, recurses := true, plainKeys := false, apart := false, narrowed := true }
def HorseTurnedUptoSaid : Prop := horseTurnedUptoRow.holds Try.pinned (OpenSpec.upto horseTurnedSpec)

end Rows
end Go.Proofs.Ytgofhjihkinknaa
