/-
  No cell of these rows narrows 'for every input' (looked for: loops, veiled, ifaces, maps, wideKeys, modest, calm, conditions, laid).
  DERIVED. THE GIVEN ROWS OF THIS SEAT. 9 by the template 'for every input the law returns true; each argument reads behind the call as it read before'; 0 by the template 'total and deterministic' (their statements: YtioajogaghgipaaTotals.lean).
  GIVEN WITH THE SEED: the statements are not yours to turn. If you find one false, say at which input.
  Laid BY PROGRAM, IN A SANDBOX (cutbox-rows.mjs): the forced cells as the released guide's own fill.sh prints them over the translation e8fe2b42544128f2… (all of the seat's roots in one cut). By AI agents, Wed Nov 11 2026. No macro, syntax, notation, axiom, sorry.
-/
import Derived.Test.YtioajogaghgipaaChecked
import GoSem.Claim
import GoSem.ClaimJoined
import GoSem.ClaimMapViews
import Derived.JoinedTies
import Derived.KernelRfl
namespace Go.Proofs.Ytioajogaghgipaa
/- THE CELL 'sum', in the pinned program and in every row, IS THE sha256 OF THE DUMP (.gsa) THAT YtioajogaghgipaaProg.lean LOADS. Nothing in Lean hashes anything: it is a label: what it is worth is what the hold of that sum in a sandbox is worth. -/
noncomputable def Try.pinned : Pinned := { name := "ytioajogaghgipaa", sum := "e8fe2b42544128f28a6e8cad311c5aae73e8ee84e064f0848d688b012aa08948", checked := Try.checked }
namespace Rows
def none {H : Type} : Left H := { results := [], args := [] }

/-- 'dipworkslaw03.TicketTells': WHATEVER THE INPUT: true; the input reads as it did. -/
def ticketTellsSpec : ChangeSpec := { name := "ticketTells", fn := fun _ => fun
  | [d1, d2, d3, d4] => { results := [.lit (.bool true)], args := [d1, d2, d3, d4] }
  | _ => none }
def ticketTellsRow : OpenClaim := { program := "ytioajogaghgipaa", sum := "e8fe2b42544128f28a6e8cad311c5aae73e8ee84e064f0848d688b012aa08948", func := "dipworks/dipworkslaw03.TicketTells", spec := "ticketTells", unfollowed := true, recurses := true, plainKeys := false, apart := false }
def TicketTellsSaid : Prop := ticketTellsRow.holds Try.pinned (OpenSpec.ofChange ticketTellsSpec)

/-- ITS FALSE NEIGHBOUR: 'it returns false'. Refute it at one input. -/
def ticketTellsWrong : ChangeSpec := { name := "ticketTells", fn := fun _ => fun
  | [d1, d2, d3, d4] => { results := [.lit (.bool false)], args := [d1, d2, d3, d4] }
  | _ => none }
def TicketTellsWrongFalsely : Prop := ticketTellsRow.holds Try.pinned (OpenSpec.ofChange ticketTellsWrong)

/-- 'dipworkslaw03.TicketSums': WHATEVER THE INPUT: true; the input reads as it did. -/
def ticketSumsSpec : ChangeSpec := { name := "ticketSums", fn := fun _ => fun
  | [d] => { results := [.lit (.bool true)], args := [d] }
  | _ => none }
def ticketSumsRow : OpenClaim := { program := "ytioajogaghgipaa", sum := "e8fe2b42544128f28a6e8cad311c5aae73e8ee84e064f0848d688b012aa08948", func := "dipworks/dipworkslaw03.TicketSums", spec := "ticketSums", unfollowed := true, recurses := true, plainKeys := false, apart := false }
def TicketSumsSaid : Prop := ticketSumsRow.holds Try.pinned (OpenSpec.ofChange ticketSumsSpec)

/-- ITS FALSE NEIGHBOUR: 'it returns false'. Refute it at one input. -/
def ticketSumsWrong : ChangeSpec := { name := "ticketSums", fn := fun _ => fun
  | [d] => { results := [.lit (.bool false)], args := [d] }
  | _ => none }
def TicketSumsWrongFalsely : Prop := ticketSumsRow.holds Try.pinned (OpenSpec.ofChange ticketSumsWrong)

/-- 'dipworkslaw03.TicketNames': WHATEVER THE INPUT: true; the input reads as it did. -/
def ticketNamesSpec : ChangeSpec := { name := "ticketNames", fn := fun _ => fun
  | [] => { results := [.lit (.bool true)], args := [] }
  | _ => none }
def ticketNamesRow : OpenClaim := { program := "ytioajogaghgipaa", sum := "e8fe2b42544128f28a6e8cad311c5aae73e8ee84e064f0848d688b012aa08948", func := "dipworks/dipworkslaw03.TicketNames", spec := "ticketNames", unfollowed := true, recurses := true, plainKeys := false, apart := false }
def TicketNamesSaid : Prop := ticketNamesRow.holds Try.pinned (OpenSpec.ofChange ticketNamesSpec)

/-- ITS FALSE NEIGHBOUR: 'it returns false'. Refute it at one input. -/
def ticketNamesWrong : ChangeSpec := { name := "ticketNames", fn := fun _ => fun
  | [] => { results := [.lit (.bool false)], args := [] }
  | _ => none }
def TicketNamesWrongFalsely : Prop := ticketNamesRow.holds Try.pinned (OpenSpec.ofChange ticketNamesWrong)

/-- 'dipworkslaw03.TicketTrue': WHATEVER THE INPUT: true; the input reads as it did. -/
def ticketTrueSpec : ChangeSpec := { name := "ticketTrue", fn := fun _ => fun
  | [d] => { results := [.lit (.bool true)], args := [d] }
  | _ => none }
def ticketTrueRow : OpenClaim := { program := "ytioajogaghgipaa", sum := "e8fe2b42544128f28a6e8cad311c5aae73e8ee84e064f0848d688b012aa08948", func := "dipworks/dipworkslaw03.TicketTrue", spec := "ticketTrue", unfollowed := true, recurses := true, plainKeys := false, apart := false }
def TicketTrueSaid : Prop := ticketTrueRow.holds Try.pinned (OpenSpec.ofChange ticketTrueSpec)

/-- ITS FALSE NEIGHBOUR: 'it returns false'. Refute it at one input. -/
def ticketTrueWrong : ChangeSpec := { name := "ticketTrue", fn := fun _ => fun
  | [d] => { results := [.lit (.bool false)], args := [d] }
  | _ => none }
def TicketTrueWrongFalsely : Prop := ticketTrueRow.holds Try.pinned (OpenSpec.ofChange ticketTrueWrong)

/-- 'dipworkslaw03.TicketEnds': WHATEVER THE INPUT: true; the input reads as it did. -/
def ticketEndsSpec : ChangeSpec := { name := "ticketEnds", fn := fun _ => fun
  | [d1, d2] => { results := [.lit (.bool true)], args := [d1, d2] }
  | _ => none }
def ticketEndsRow : OpenClaim := { program := "ytioajogaghgipaa", sum := "e8fe2b42544128f28a6e8cad311c5aae73e8ee84e064f0848d688b012aa08948", func := "dipworks/dipworkslaw03.TicketEnds", spec := "ticketEnds", unfollowed := true, recurses := true, plainKeys := false, apart := false }
def TicketEndsSaid : Prop := ticketEndsRow.holds Try.pinned (OpenSpec.ofChange ticketEndsSpec)

/-- ITS FALSE NEIGHBOUR: 'it returns false'. Refute it at one input. -/
def ticketEndsWrong : ChangeSpec := { name := "ticketEnds", fn := fun _ => fun
  | [d1, d2] => { results := [.lit (.bool false)], args := [d1, d2] }
  | _ => none }
def TicketEndsWrongFalsely : Prop := ticketEndsRow.holds Try.pinned (OpenSpec.ofChange ticketEndsWrong)

/-- 'dipworkslaw03.TicketTurns': WHATEVER THE INPUT: true; the input reads as it did. -/
def ticketTurnsSpec : ChangeSpec := { name := "ticketTurns", fn := fun _ => fun
  | [d1, d2] => { results := [.lit (.bool true)], args := [d1, d2] }
  | _ => none }
def ticketTurnsRow : OpenClaim := { program := "ytioajogaghgipaa", sum := "e8fe2b42544128f28a6e8cad311c5aae73e8ee84e064f0848d688b012aa08948", func := "dipworks/dipworkslaw03.TicketTurns", spec := "ticketTurns", unfollowed := true, recurses := true, plainKeys := false, apart := false }
def TicketTurnsSaid : Prop := ticketTurnsRow.holds Try.pinned (OpenSpec.ofChange ticketTurnsSpec)

/-- ITS FALSE NEIGHBOUR: 'it returns false'. Refute it at one input. -/
def ticketTurnsWrong : ChangeSpec := { name := "ticketTurns", fn := fun _ => fun
  | [d1, d2] => { results := [.lit (.bool false)], args := [d1, d2] }
  | _ => none }
def TicketTurnsWrongFalsely : Prop := ticketTurnsRow.holds Try.pinned (OpenSpec.ofChange ticketTurnsWrong)

/-- 'dipworkslaw03.TicketFree': WHATEVER THE INPUT: true; the input reads as it did. -/
def ticketFreeSpec : ChangeSpec := { name := "ticketFree", fn := fun _ => fun
  | [d1, d2, d3] => { results := [.lit (.bool true)], args := [d1, d2, d3] }
  | _ => none }
def ticketFreeRow : OpenClaim := { program := "ytioajogaghgipaa", sum := "e8fe2b42544128f28a6e8cad311c5aae73e8ee84e064f0848d688b012aa08948", func := "dipworks/dipworkslaw03.TicketFree", spec := "ticketFree", unfollowed := true, recurses := true, plainKeys := false, apart := false }
def TicketFreeSaid : Prop := ticketFreeRow.holds Try.pinned (OpenSpec.ofChange ticketFreeSpec)

/-- ITS FALSE NEIGHBOUR: 'it returns false'. Refute it at one input. -/
def ticketFreeWrong : ChangeSpec := { name := "ticketFree", fn := fun _ => fun
  | [d1, d2, d3] => { results := [.lit (.bool false)], args := [d1, d2, d3] }
  | _ => none }
def TicketFreeWrongFalsely : Prop := ticketFreeRow.holds Try.pinned (OpenSpec.ofChange ticketFreeWrong)

/-- 'dipworkslaw03.TicketClash': WHATEVER THE INPUT: true; the input reads as it did. -/
def ticketClashSpec : ChangeSpec := { name := "ticketClash", fn := fun _ => fun
  | [d1, d2] => { results := [.lit (.bool true)], args := [d1, d2] }
  | _ => none }
def ticketClashRow : OpenClaim := { program := "ytioajogaghgipaa", sum := "e8fe2b42544128f28a6e8cad311c5aae73e8ee84e064f0848d688b012aa08948", func := "dipworks/dipworkslaw03.TicketClash", spec := "ticketClash", unfollowed := true, recurses := true, plainKeys := false, apart := false }
def TicketClashSaid : Prop := ticketClashRow.holds Try.pinned (OpenSpec.ofChange ticketClashSpec)

/-- ITS FALSE NEIGHBOUR: 'it returns false'. Refute it at one input. -/
def ticketClashWrong : ChangeSpec := { name := "ticketClash", fn := fun _ => fun
  | [d1, d2] => { results := [.lit (.bool false)], args := [d1, d2] }
  | _ => none }
def TicketClashWrongFalsely : Prop := ticketClashRow.holds Try.pinned (OpenSpec.ofChange ticketClashWrong)

/-- 'dipworkslaw03.TicketMore': WHATEVER THE INPUT: true; the input reads as it did. -/
def ticketMoreSpec : ChangeSpec := { name := "ticketMore", fn := fun _ => fun
  | [d1, d2, d3, d4] => { results := [.lit (.bool true)], args := [d1, d2, d3, d4] }
  | _ => none }
def ticketMoreRow : OpenClaim := { program := "ytioajogaghgipaa", sum := "e8fe2b42544128f28a6e8cad311c5aae73e8ee84e064f0848d688b012aa08948", func := "dipworks/dipworkslaw03.TicketMore", spec := "ticketMore", unfollowed := true, recurses := true, plainKeys := false, apart := false }
def TicketMoreSaid : Prop := ticketMoreRow.holds Try.pinned (OpenSpec.ofChange ticketMoreSpec)

/-- ITS FALSE NEIGHBOUR: 'it returns false'. Refute it at one input. -/
def ticketMoreWrong : ChangeSpec := { name := "ticketMore", fn := fun _ => fun
  | [d1, d2, d3, d4] => { results := [.lit (.bool false)], args := [d1, d2, d3, d4] }
  | _ => none }
def TicketMoreWrongFalsely : Prop := ticketMoreRow.holds Try.pinned (OpenSpec.ofChange ticketMoreWrong)

/- THE SECOND FORM. 'bulk': how many values and letters a reading holds, each counted each time it is reached (what is shared counts as often as it is met; a slice's spare places count too). A statement '..UptoSaid' is the law's where the arguments, and the package variables that the reading takes, are together of bulk at most 1048576: NARROWER than '..Said'. Prove '..Said' where nothing that the law and all that it calls make is longer than what came in: it says more and counts as full. Else prove '..UptoSaid'. A law counts once. -/
mutual
def uptoBulk {H : Type} : DataW H → Nat
  | .lit (.string bytes) => bytes.length + 1
  | .lit _ => 1
  | .nil => 1
  | .ptr d => uptoBulk d + 1
  | .slice elems spare => uptoBulkAll elems + uptoBulkAll spare + 1
  | .agg parts => uptoBulkAll parts + 1
  | .iface _ d => uptoBulk d + 1
  | .map entries => uptoBulkEntries entries + 1
  | .held _ => 1
def uptoBulkAll {H : Type} : List (DataW H) → Nat
  | [] => 0
  | d :: r => uptoBulk d + uptoBulkAll r
def uptoBulkEntries {H : Type} : List (Lit × DataW H) → Nat
  | [] => 0
  | x :: r => uptoBulkEntry x + uptoBulkEntries r
def uptoBulkEntry {H : Type} : Lit × DataW H → Nat
  | (.string bytes, d) => bytes.length + uptoBulk d + 1
  | (_, d) => uptoBulk d + 1
 end
def uptoSmall : (H : Type) → List (DataW H) → Bool := fun _ ds => decide (uptoBulkAll ds ≤ 1048576)
def OpenSpec.upto (s : _root_.Go.ChangeSpec) : _root_.Go.OpenSpec := { _root_.Go.OpenSpec.ofChange s with cond := some uptoSmall }

/-- 'dipworkslaw03.TicketTells', WHERE WHAT IT READS IS OF BULK AT MOST 1048576: true; the input reads as it did. -/
def ticketTellsUptoRow : OpenClaim := { program := "ytioajogaghgipaa", sum := "e8fe2b42544128f28a6e8cad311c5aae73e8ee84e064f0848d688b012aa08948", func := "dipworks/dipworkslaw03.TicketTells", spec := "ticketTells", unfollowed := true, recurses := true, plainKeys := false, apart := false, narrowed := true }
def TicketTellsUptoSaid : Prop := ticketTellsUptoRow.holds Try.pinned (OpenSpec.upto ticketTellsSpec)

/-- 'dipworkslaw03.TicketSums', WHERE WHAT IT READS IS OF BULK AT MOST 1048576: true; the input reads as it did. -/
def ticketSumsUptoRow : OpenClaim := { program := "ytioajogaghgipaa", sum := "e8fe2b42544128f28a6e8cad311c5aae73e8ee84e064f0848d688b012aa08948", func := "dipworks/dipworkslaw03.TicketSums", spec := "ticketSums", unfollowed := true, recurses := true, plainKeys := false, apart := false, narrowed := true }
def TicketSumsUptoSaid : Prop := ticketSumsUptoRow.holds Try.pinned (OpenSpec.upto ticketSumsSpec)

/-- 'dipworkslaw03.TicketNames', WHERE WHAT IT READS IS OF BULK AT MOST 1048576: true; the input reads as it did. -/
def ticketNamesUptoRow : OpenClaim := { program := "ytioajogaghgipaa", sum := "e8fe2b42544128f28a6e8cad311c5aae73e8ee84e064f0848d688b012aa08948", func := "dipworks/dipworkslaw03.TicketNames", spec := "ticketNames", unfollowed := true, recurses := true, plainKeys := false, apart := false, narrowed := true }
def TicketNamesUptoSaid : Prop := ticketNamesUptoRow.holds Try.pinned (OpenSpec.upto ticketNamesSpec)

/-- 'dipworkslaw03.TicketTrue', WHERE WHAT IT READS IS OF BULK AT MOST 1048576: true; the input reads as it did. -/
def ticketTrueUptoRow : OpenClaim := { program := "ytioajogaghgipaa", sum := "e8fe2b42544128f28a6e8cad311c5aae73e8ee84e064f0848d688b012aa08948", func := "dipworks/dipworkslaw03.TicketTrue", spec := "ticketTrue", unfollowed := true, recurses := true, plainKeys := false, apart := false, narrowed := true }
def TicketTrueUptoSaid : Prop := ticketTrueUptoRow.holds Try.pinned (OpenSpec.upto ticketTrueSpec)

/-- 'dipworkslaw03.TicketEnds', WHERE WHAT IT READS IS OF BULK AT MOST 1048576: true; the input reads as it did. -/
def ticketEndsUptoRow : OpenClaim := { program := "ytioajogaghgipaa", sum := "e8fe2b42544128f28a6e8cad311c5aae73e8ee84e064f0848d688b012aa08948", func := "dipworks/dipworkslaw03.TicketEnds", spec := "ticketEnds", unfollowed := true, recurses := true, plainKeys := false, apart := false, narrowed := true }
def TicketEndsUptoSaid : Prop := ticketEndsUptoRow.holds Try.pinned (OpenSpec.upto ticketEndsSpec)

/-- 'dipworkslaw03.TicketTurns', WHERE WHAT IT READS IS OF BULK AT MOST 1048576: true; the input reads as it did. -/
def ticketTurnsUptoRow : OpenClaim := { program := "ytioajogaghgipaa", sum := "e8fe2b42544128f28a6e8cad311c5aae73e8ee84e064f0848d688b012aa08948", func := "dipworks/dipworkslaw03.TicketTurns", spec := "ticketTurns", unfollowed := true, recurses := true, plainKeys := false, apart := false, narrowed := true }
def TicketTurnsUptoSaid : Prop := ticketTurnsUptoRow.holds Try.pinned (OpenSpec.upto ticketTurnsSpec)

/-- 'dipworkslaw03.TicketFree', WHERE WHAT IT READS IS OF BULK AT MOST 1048576: true; the input reads as it did. -/
def ticketFreeUptoRow : OpenClaim := { program := "ytioajogaghgipaa", sum := "e8fe2b42544128f28a6e8cad311c5aae73e8ee84e064f0848d688b012aa08948", func := "dipworks/dipworkslaw03.TicketFree", spec := "ticketFree", unfollowed := true, recurses := true, plainKeys := false, apart := false, narrowed := true }
def TicketFreeUptoSaid : Prop := ticketFreeUptoRow.holds Try.pinned (OpenSpec.upto ticketFreeSpec)

/-- 'dipworkslaw03.TicketClash', WHERE WHAT IT READS IS OF BULK AT MOST 1048576: true; the input reads as it did. -/
def ticketClashUptoRow : OpenClaim := { program := "ytioajogaghgipaa", sum := "e8fe2b42544128f28a6e8cad311c5aae73e8ee84e064f0848d688b012aa08948", func := "dipworks/dipworkslaw03.TicketClash", spec := "ticketClash", unfollowed := true, recurses := true, plainKeys := false, apart := false, narrowed := true }
def TicketClashUptoSaid : Prop := ticketClashUptoRow.holds Try.pinned (OpenSpec.upto ticketClashSpec)

/-- 'dipworkslaw03.TicketMore', WHERE WHAT IT READS IS OF BULK AT MOST 1048576: true; the input reads as it did. -/
def ticketMoreUptoRow : OpenClaim := { program := "ytioajogaghgipaa", sum := "e8fe2b42544128f28a6e8cad311c5aae73e8ee84e064f0848d688b012aa08948", func := "dipworks/dipworkslaw03.TicketMore", spec := "ticketMore", unfollowed := true, recurses := true, plainKeys := false, apart := false, narrowed := true }
def TicketMoreUptoSaid : Prop := ticketMoreUptoRow.holds Try.pinned (OpenSpec.upto ticketMoreSpec)

end Rows
end Go.Proofs.Ytioajogaghgipaa
