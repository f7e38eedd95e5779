/-
  NARROWER THAN 'FOR EVERY INPUT', by the rows' own cells (each row's printed sentence says how): ServeReads: laid · ServeLooks: laid · ServeDrops: laid · ServeTrue: laid · ServeDrop: laid · ServeCount: laid · ServeMore: laid · ServeTurned: laid · ServeRight: laid · ServeBest: laid · TopServed: laid.
  DERIVED. THE GIVEN ROWS OF THIS SEAT. 11 by the template 'for every input the law returns true; each argument reads behind the call as it read before'; 0 by the template 'total and deterministic' (their statements: YthnhlkflkidemaaGreatDoorTotals.lean).
  GIVEN WITH THE SEED: the statements are not yours to turn. If you find one false, say at which input.
  Laid BY PROGRAM, IN A SANDBOX (cutbox-rows.mjs): the forced cells as the released guide's own fill.sh prints them over the translation 9a52b3b68404ea5d… (all of the seat's roots in one cut). By AI agents, Wed Nov 11 2026. No macro, syntax, notation, axiom, sorry.
-/
import Derived.Test.YthnhlkflkidemaaGreatDoorChecked
import GoSem.Claim
import GoSem.ClaimJoined
import GoSem.ClaimMapViews
import Derived.JoinedTies
import Derived.KernelRfl
namespace Go.Proofs.YthnhlkflkidemaaGreatDoor
/- THE CELL 'sum', in the pinned program and in every row, IS THE sha256 OF THE DUMP (.gsa) THAT YthnhlkflkidemaaGreatDoorProg.lean LOADS. Nothing in Lean hashes anything: it is a label: what it is worth is what the hold of that sum in a sandbox is worth. -/
noncomputable def Tryz.pinned : Pinned := { name := "ythnhlkflkidemaagreatdoor", sum := "9a52b3b68404ea5dd4b56c26f8fe4a97fa6b5cbcb407a89112d2bd1a76861ff9", checked := Tryz.checked }
namespace Rows
def none {H : Type} : Left H := { results := [], args := [] }

/- WHAT THE LISTED PACKAGE-LEVEL VARIABLES READ AS WHEN THE CALL BEGINS. Each datum BY PROGRAM (the guide's laid-datum.mjs) off the statement by which the dump's own 'gosem.cut.vars' lays the variable. In a bare row this is a premise. The card (YthnhlkflkidemaaGreatDoorCards.lean) ties it to the program's text. -/
def laid_math_bits_deBruijn64tab {H : Type} : DataW H := .agg [.lit (.int .u8 0), .lit (.int .u8 1), .lit (.int .u8 56), .lit (.int .u8 2), .lit (.int .u8 57), .lit (.int .u8 49), .lit (.int .u8 28), .lit (.int .u8 3), .lit (.int .u8 61), .lit (.int .u8 58), .lit (.int .u8 42), .lit (.int .u8 50), .lit (.int .u8 38), .lit (.int .u8 29), .lit (.int .u8 17), .lit (.int .u8 4), .lit (.int .u8 62), .lit (.int .u8 47), .lit (.int .u8 59), .lit (.int .u8 36), .lit (.int .u8 45), .lit (.int .u8 43), .lit (.int .u8 51), .lit (.int .u8 22), .lit (.int .u8 53), .lit (.int .u8 39), .lit (.int .u8 33), .lit (.int .u8 30), .lit (.int .u8 24), .lit (.int .u8 18), .lit (.int .u8 12), .lit (.int .u8 5), .lit (.int .u8 63), .lit (.int .u8 55), .lit (.int .u8 48), .lit (.int .u8 27), .lit (.int .u8 60), .lit (.int .u8 41), .lit (.int .u8 37), .lit (.int .u8 16), .lit (.int .u8 46), .lit (.int .u8 35), .lit (.int .u8 44), .lit (.int .u8 21), .lit (.int .u8 52), .lit (.int .u8 32), .lit (.int .u8 23), .lit (.int .u8 11), .lit (.int .u8 54), .lit (.int .u8 26), .lit (.int .u8 40), .lit (.int .u8 15), .lit (.int .u8 34), .lit (.int .u8 20), .lit (.int .u8 31), .lit (.int .u8 10), .lit (.int .u8 25), .lit (.int .u8 14), .lit (.int .u8 19), .lit (.int .u8 9), .lit (.int .u8 13), .lit (.int .u8 8), .lit (.int .u8 7), .lit (.int .u8 6)]
def laid_dipworks_tide_done {H : Type} : DataW H := .agg [.lit (.int .i64 0), .lit (.int .i64 1), .lit (.int .i64 3), .lit (.int .i64 6), .lit (.int .i64 9), .lit (.int .i64 11), .lit (.int .i64 12)]
def laid_math_bits_deBruijn32tab {H : Type} : DataW H := .agg [.lit (.int .u8 0), .lit (.int .u8 1), .lit (.int .u8 28), .lit (.int .u8 2), .lit (.int .u8 29), .lit (.int .u8 14), .lit (.int .u8 24), .lit (.int .u8 3), .lit (.int .u8 30), .lit (.int .u8 22), .lit (.int .u8 20), .lit (.int .u8 15), .lit (.int .u8 25), .lit (.int .u8 17), .lit (.int .u8 4), .lit (.int .u8 8), .lit (.int .u8 31), .lit (.int .u8 27), .lit (.int .u8 13), .lit (.int .u8 23), .lit (.int .u8 21), .lit (.int .u8 19), .lit (.int .u8 16), .lit (.int .u8 7), .lit (.int .u8 26), .lit (.int .u8 12), .lit (.int .u8 18), .lit (.int .u8 6), .lit (.int .u8 11), .lit (.int .u8 5), .lit (.int .u8 10), .lit (.int .u8 9)]

/-- 'dipworkslaw08.ServeReads': WHATEVER THE INPUT: true; the input reads as it did. -/
def serveReadsSpec : ChangeSpec := { name := "serveReads", fn := fun _ => fun
  | [d1, d2, d3] => { results := [.lit (.bool true)], args := [d1, d2, d3] }
  | _ => none }
def serveReadsRow : OpenClaim := { program := "ythnhlkflkidemaagreatdoor", sum := "9a52b3b68404ea5dd4b56c26f8fe4a97fa6b5cbcb407a89112d2bd1a76861ff9", func := "dipworks/dipworkslaw08.ServeReads", spec := "serveReads", unfollowed := true, recurses := true, named := ["dipworks/tide.done", "math/bits.deBruijn64tab"], plainKeys := false, apart := false, laid := [("math/bits.deBruijn64tab", laid_math_bits_deBruijn64tab), ("dipworks/tide.done", laid_dipworks_tide_done)] }
def ServeReadsSaid : Prop := serveReadsRow.holds Tryz.pinned (OpenSpec.ofChange serveReadsSpec)

/-- ITS FALSE NEIGHBOUR: 'it returns false'. Refute it at one input. -/
def serveReadsWrong : ChangeSpec := { name := "serveReads", fn := fun _ => fun
  | [d1, d2, d3] => { results := [.lit (.bool false)], args := [d1, d2, d3] }
  | _ => none }
def ServeReadsWrongFalsely : Prop := serveReadsRow.holds Tryz.pinned (OpenSpec.ofChange serveReadsWrong)

/-- 'dipworkslaw08.ServeLooks': WHATEVER THE INPUT: true; the input reads as it did. -/
def serveLooksSpec : ChangeSpec := { name := "serveLooks", fn := fun _ => fun
  | [d] => { results := [.lit (.bool true)], args := [d] }
  | _ => none }
def serveLooksRow : OpenClaim := { program := "ythnhlkflkidemaagreatdoor", sum := "9a52b3b68404ea5dd4b56c26f8fe4a97fa6b5cbcb407a89112d2bd1a76861ff9", func := "dipworks/dipworkslaw08.ServeLooks", spec := "serveLooks", unfollowed := true, recurses := true, named := ["dipworks/tide.done", "math/bits.deBruijn64tab"], plainKeys := false, apart := false, laid := [("math/bits.deBruijn64tab", laid_math_bits_deBruijn64tab), ("dipworks/tide.done", laid_dipworks_tide_done)] }
def ServeLooksSaid : Prop := serveLooksRow.holds Tryz.pinned (OpenSpec.ofChange serveLooksSpec)

/-- ITS FALSE NEIGHBOUR: 'it returns false'. Refute it at one input. -/
def serveLooksWrong : ChangeSpec := { name := "serveLooks", fn := fun _ => fun
  | [d] => { results := [.lit (.bool false)], args := [d] }
  | _ => none }
def ServeLooksWrongFalsely : Prop := serveLooksRow.holds Tryz.pinned (OpenSpec.ofChange serveLooksWrong)

/-- 'dipworkslaw08.ServeDrops': WHATEVER THE INPUT: true; the input reads as it did. -/
def serveDropsSpec : ChangeSpec := { name := "serveDrops", fn := fun _ => fun
  | [d] => { results := [.lit (.bool true)], args := [d] }
  | _ => none }
def serveDropsRow : OpenClaim := { program := "ythnhlkflkidemaagreatdoor", sum := "9a52b3b68404ea5dd4b56c26f8fe4a97fa6b5cbcb407a89112d2bd1a76861ff9", func := "dipworks/dipworkslaw08.ServeDrops", spec := "serveDrops", unfollowed := true, recurses := true, named := ["dipworks/tide.done", "math/bits.deBruijn64tab"], plainKeys := false, apart := false, laid := [("math/bits.deBruijn64tab", laid_math_bits_deBruijn64tab), ("dipworks/tide.done", laid_dipworks_tide_done)] }
def ServeDropsSaid : Prop := serveDropsRow.holds Tryz.pinned (OpenSpec.ofChange serveDropsSpec)

/-- ITS FALSE NEIGHBOUR: 'it returns false'. Refute it at one input. -/
def serveDropsWrong : ChangeSpec := { name := "serveDrops", fn := fun _ => fun
  | [d] => { results := [.lit (.bool false)], args := [d] }
  | _ => none }
def ServeDropsWrongFalsely : Prop := serveDropsRow.holds Tryz.pinned (OpenSpec.ofChange serveDropsWrong)

/-- 'dipworkslaw08.ServeTrue': WHATEVER THE INPUT: true; the input reads as it did. -/
def serveTrueSpec : ChangeSpec := { name := "serveTrue", fn := fun _ => fun
  | [d1, d2, d3, d4] => { results := [.lit (.bool true)], args := [d1, d2, d3, d4] }
  | _ => none }
def serveTrueRow : OpenClaim := { program := "ythnhlkflkidemaagreatdoor", sum := "9a52b3b68404ea5dd4b56c26f8fe4a97fa6b5cbcb407a89112d2bd1a76861ff9", func := "dipworks/dipworkslaw08.ServeTrue", spec := "serveTrue", unfollowed := true, recurses := true, named := ["dipworks/tide.done", "math/bits.deBruijn64tab"], plainKeys := false, apart := false, laid := [("math/bits.deBruijn64tab", laid_math_bits_deBruijn64tab), ("dipworks/tide.done", laid_dipworks_tide_done)] }
def ServeTrueSaid : Prop := serveTrueRow.holds Tryz.pinned (OpenSpec.ofChange serveTrueSpec)

/-- ITS FALSE NEIGHBOUR: 'it returns false'. Refute it at one input. -/
def serveTrueWrong : ChangeSpec := { name := "serveTrue", fn := fun _ => fun
  | [d1, d2, d3, d4] => { results := [.lit (.bool false)], args := [d1, d2, d3, d4] }
  | _ => none }
def ServeTrueWrongFalsely : Prop := serveTrueRow.holds Tryz.pinned (OpenSpec.ofChange serveTrueWrong)

/-- 'dipworkslaw08.ServeDrop': WHATEVER THE INPUT: true; the input reads as it did. -/
def serveDropSpec : ChangeSpec := { name := "serveDrop", fn := fun _ => fun
  | [d1, d2] => { results := [.lit (.bool true)], args := [d1, d2] }
  | _ => none }
def serveDropRow : OpenClaim := { program := "ythnhlkflkidemaagreatdoor", sum := "9a52b3b68404ea5dd4b56c26f8fe4a97fa6b5cbcb407a89112d2bd1a76861ff9", func := "dipworks/dipworkslaw08.ServeDrop", spec := "serveDrop", unfollowed := true, recurses := true, named := ["dipworks/tide.done", "math/bits.deBruijn64tab"], plainKeys := false, apart := false, laid := [("math/bits.deBruijn64tab", laid_math_bits_deBruijn64tab), ("dipworks/tide.done", laid_dipworks_tide_done)] }
def ServeDropSaid : Prop := serveDropRow.holds Tryz.pinned (OpenSpec.ofChange serveDropSpec)

/-- ITS FALSE NEIGHBOUR: 'it returns false'. Refute it at one input. -/
def serveDropWrong : ChangeSpec := { name := "serveDrop", fn := fun _ => fun
  | [d1, d2] => { results := [.lit (.bool false)], args := [d1, d2] }
  | _ => none }
def ServeDropWrongFalsely : Prop := serveDropRow.holds Tryz.pinned (OpenSpec.ofChange serveDropWrong)

/-- 'dipworkslaw08.ServeCount': WHATEVER THE INPUT: true; the input reads as it did. -/
def serveCountSpec : ChangeSpec := { name := "serveCount", fn := fun _ => fun
  | [d1, d2] => { results := [.lit (.bool true)], args := [d1, d2] }
  | _ => none }
def serveCountRow : OpenClaim := { program := "ythnhlkflkidemaagreatdoor", sum := "9a52b3b68404ea5dd4b56c26f8fe4a97fa6b5cbcb407a89112d2bd1a76861ff9", func := "dipworks/dipworkslaw08.ServeCount", spec := "serveCount", unfollowed := true, recurses := true, named := ["dipworks/tide.done", "math/bits.deBruijn64tab"], plainKeys := false, apart := false, laid := [("math/bits.deBruijn64tab", laid_math_bits_deBruijn64tab), ("dipworks/tide.done", laid_dipworks_tide_done)] }
def ServeCountSaid : Prop := serveCountRow.holds Tryz.pinned (OpenSpec.ofChange serveCountSpec)

/-- ITS FALSE NEIGHBOUR: 'it returns false'. Refute it at one input. -/
def serveCountWrong : ChangeSpec := { name := "serveCount", fn := fun _ => fun
  | [d1, d2] => { results := [.lit (.bool false)], args := [d1, d2] }
  | _ => none }
def ServeCountWrongFalsely : Prop := serveCountRow.holds Tryz.pinned (OpenSpec.ofChange serveCountWrong)

/-- 'dipworkslaw08.ServeMore': WHATEVER THE INPUT: true; the input reads as it did. -/
def serveMoreSpec : ChangeSpec := { name := "serveMore", fn := fun _ => fun
  | [d1, d2, d3, d4] => { results := [.lit (.bool true)], args := [d1, d2, d3, d4] }
  | _ => none }
def serveMoreRow : OpenClaim := { program := "ythnhlkflkidemaagreatdoor", sum := "9a52b3b68404ea5dd4b56c26f8fe4a97fa6b5cbcb407a89112d2bd1a76861ff9", func := "dipworks/dipworkslaw08.ServeMore", spec := "serveMore", unfollowed := true, recurses := true, named := ["dipworks/tide.done", "math/bits.deBruijn64tab"], plainKeys := false, apart := false, laid := [("math/bits.deBruijn64tab", laid_math_bits_deBruijn64tab), ("dipworks/tide.done", laid_dipworks_tide_done)] }
def ServeMoreSaid : Prop := serveMoreRow.holds Tryz.pinned (OpenSpec.ofChange serveMoreSpec)

/-- ITS FALSE NEIGHBOUR: 'it returns false'. Refute it at one input. -/
def serveMoreWrong : ChangeSpec := { name := "serveMore", fn := fun _ => fun
  | [d1, d2, d3, d4] => { results := [.lit (.bool false)], args := [d1, d2, d3, d4] }
  | _ => none }
def ServeMoreWrongFalsely : Prop := serveMoreRow.holds Tryz.pinned (OpenSpec.ofChange serveMoreWrong)

/-- 'dipworkslaw08.ServeTurned': WHATEVER THE INPUT: true; the input reads as it did. -/
def serveTurnedSpec : ChangeSpec := { name := "serveTurned", fn := fun _ => fun
  | [d1, d2] => { results := [.lit (.bool true)], args := [d1, d2] }
  | _ => none }
def serveTurnedRow : OpenClaim := { program := "ythnhlkflkidemaagreatdoor", sum := "9a52b3b68404ea5dd4b56c26f8fe4a97fa6b5cbcb407a89112d2bd1a76861ff9", func := "dipworks/dipworkslaw08.ServeTurned", spec := "serveTurned", unfollowed := true, recurses := true, named := ["dipworks/tide.done", "math/bits.deBruijn64tab"], plainKeys := false, apart := false, laid := [("math/bits.deBruijn64tab", laid_math_bits_deBruijn64tab), ("dipworks/tide.done", laid_dipworks_tide_done)] }
def ServeTurnedSaid : Prop := serveTurnedRow.holds Tryz.pinned (OpenSpec.ofChange serveTurnedSpec)

/-- ITS FALSE NEIGHBOUR: 'it returns false'. Refute it at one input. -/
def serveTurnedWrong : ChangeSpec := { name := "serveTurned", fn := fun _ => fun
  | [d1, d2] => { results := [.lit (.bool false)], args := [d1, d2] }
  | _ => none }
def ServeTurnedWrongFalsely : Prop := serveTurnedRow.holds Tryz.pinned (OpenSpec.ofChange serveTurnedWrong)

/-- 'dipworkslaw08.ServeRight': WHATEVER THE INPUT: true; the input reads as it did. -/
def serveRightSpec : ChangeSpec := { name := "serveRight", fn := fun _ => fun
  | [d1, d2, d3] => { results := [.lit (.bool true)], args := [d1, d2, d3] }
  | _ => none }
def serveRightRow : OpenClaim := { program := "ythnhlkflkidemaagreatdoor", sum := "9a52b3b68404ea5dd4b56c26f8fe4a97fa6b5cbcb407a89112d2bd1a76861ff9", func := "dipworks/dipworkslaw08.ServeRight", spec := "serveRight", unfollowed := true, recurses := true, named := ["dipworks/tide.done", "math/bits.deBruijn64tab"], plainKeys := false, apart := false, laid := [("math/bits.deBruijn64tab", laid_math_bits_deBruijn64tab), ("dipworks/tide.done", laid_dipworks_tide_done)] }
def ServeRightSaid : Prop := serveRightRow.holds Tryz.pinned (OpenSpec.ofChange serveRightSpec)

/-- ITS FALSE NEIGHBOUR: 'it returns false'. Refute it at one input. -/
def serveRightWrong : ChangeSpec := { name := "serveRight", fn := fun _ => fun
  | [d1, d2, d3] => { results := [.lit (.bool false)], args := [d1, d2, d3] }
  | _ => none }
def ServeRightWrongFalsely : Prop := serveRightRow.holds Tryz.pinned (OpenSpec.ofChange serveRightWrong)

/-- 'dipworkslaw08.ServeBest': WHATEVER THE INPUT: true; the input reads as it did. -/
def serveBestSpec : ChangeSpec := { name := "serveBest", fn := fun _ => fun
  | [d1, d2] => { results := [.lit (.bool true)], args := [d1, d2] }
  | _ => none }
def serveBestRow : OpenClaim := { program := "ythnhlkflkidemaagreatdoor", sum := "9a52b3b68404ea5dd4b56c26f8fe4a97fa6b5cbcb407a89112d2bd1a76861ff9", func := "dipworks/dipworkslaw08.ServeBest", spec := "serveBest", unfollowed := true, recurses := true, named := ["dipworks/tide.done", "math/bits.deBruijn64tab"], plainKeys := false, apart := false, laid := [("math/bits.deBruijn64tab", laid_math_bits_deBruijn64tab), ("dipworks/tide.done", laid_dipworks_tide_done)] }
def ServeBestSaid : Prop := serveBestRow.holds Tryz.pinned (OpenSpec.ofChange serveBestSpec)

/-- ITS FALSE NEIGHBOUR: 'it returns false'. Refute it at one input. -/
def serveBestWrong : ChangeSpec := { name := "serveBest", fn := fun _ => fun
  | [d1, d2] => { results := [.lit (.bool false)], args := [d1, d2] }
  | _ => none }
def ServeBestWrongFalsely : Prop := serveBestRow.holds Tryz.pinned (OpenSpec.ofChange serveBestWrong)

/-- 'dipworkstop.TopServed': WHATEVER THE INPUT: true; the input reads as it did. -/
def topServedSpec : ChangeSpec := { name := "topServed", fn := fun _ => fun
  | [d1, d2, d3] => { results := [.lit (.bool true)], args := [d1, d2, d3] }
  | _ => none }
def topServedRow : OpenClaim := { program := "ythnhlkflkidemaagreatdoor", sum := "9a52b3b68404ea5dd4b56c26f8fe4a97fa6b5cbcb407a89112d2bd1a76861ff9", func := "dipworks/dipworkstop.TopServed", spec := "topServed", unfollowed := true, recurses := true, named := ["dipworks/tide.done", "math/bits.deBruijn64tab", "math/bits.deBruijn32tab"], plainKeys := false, apart := false, laid := [("math/bits.deBruijn32tab", laid_math_bits_deBruijn32tab), ("math/bits.deBruijn64tab", laid_math_bits_deBruijn64tab), ("dipworks/tide.done", laid_dipworks_tide_done)] }
def TopServedSaid : Prop := topServedRow.holds Tryz.pinned (OpenSpec.ofChange topServedSpec)

/-- ITS FALSE NEIGHBOUR: 'it returns false'. Refute it at one input. -/
def topServedWrong : ChangeSpec := { name := "topServed", fn := fun _ => fun
  | [d1, d2, d3] => { results := [.lit (.bool false)], args := [d1, d2, d3] }
  | _ => none }
def TopServedWrongFalsely : Prop := topServedRow.holds Tryz.pinned (OpenSpec.ofChange topServedWrong)

/- THE SECOND FORM. 'bulk': how many values and letters a reading holds, each counted each time it is reached (what is shared counts as often as it is met; a slice's spare places count too). A statement '..UptoSaid' is the law's where the arguments, and the package variables that the reading takes, are together of bulk at most 1048576: NARROWER than '..Said'. Prove '..Said' where nothing that the law and all that it calls make is longer than what came in: it says more and counts as full. Else prove '..UptoSaid'. A law counts once. -/
mutual
def uptoBulk {H : Type} : DataW H → Nat
  | .lit (.string bytes) => bytes.length + 1
  | .lit _ => 1
  | .nil => 1
  | .ptr d => uptoBulk d + 1
  | .slice elems spare => uptoBulkAll elems + uptoBulkAll spare + 1
  | .agg parts => uptoBulkAll parts + 1
  | .iface _ d => uptoBulk d + 1
  | .map entries => uptoBulkEntries entries + 1
  | .held _ => 1
def uptoBulkAll {H : Type} : List (DataW H) → Nat
  | [] => 0
  | d :: r => uptoBulk d + uptoBulkAll r
def uptoBulkEntries {H : Type} : List (Lit × DataW H) → Nat
  | [] => 0
  | x :: r => uptoBulkEntry x + uptoBulkEntries r
def uptoBulkEntry {H : Type} : Lit × DataW H → Nat
  | (.string bytes, d) => bytes.length + uptoBulk d + 1
  | (_, d) => uptoBulk d + 1
 end
def uptoSmall : (H : Type) → List (DataW H) → Bool := fun _ ds => decide (uptoBulkAll ds ≤ 1048576)
def OpenSpec.upto (s : _root_.Go.ChangeSpec) : _root_.Go.OpenSpec := { _root_.Go.OpenSpec.ofChange s with cond := some uptoSmall }

/-- 'dipworkslaw08.ServeReads', WHERE WHAT IT READS IS OF BULK AT MOST 1048576: true; the input reads as it did. -/
def serveReadsUptoRow : OpenClaim := { program := "ythnhlkflkidemaagreatdoor", sum := "9a52b3b68404ea5dd4b56c26f8fe4a97fa6b5cbcb407a89112d2bd1a76861ff9", func := "dipworks/dipworkslaw08.ServeReads", spec := "serveReads", unfollowed := true, recurses := true, named := ["dipworks/tide.done", "math/bits.deBruijn64tab"], plainKeys := false, apart := false, laid := [("math/bits.deBruijn64tab", laid_math_bits_deBruijn64tab), ("dipworks/tide.done", laid_dipworks_tide_done)], narrowed := true }
def ServeReadsUptoSaid : Prop := serveReadsUptoRow.holds Tryz.pinned (OpenSpec.upto serveReadsSpec)

/-- 'dipworkslaw08.ServeLooks', WHERE WHAT IT READS IS OF BULK AT MOST 1048576: true; the input reads as it did. -/
def serveLooksUptoRow : OpenClaim := { program := "ythnhlkflkidemaagreatdoor", sum := "9a52b3b68404ea5dd4b56c26f8fe4a97fa6b5cbcb407a89112d2bd1a76861ff9", func := "dipworks/dipworkslaw08.ServeLooks", spec := "serveLooks", unfollowed := true, recurses := true, named := ["dipworks/tide.done", "math/bits.deBruijn64tab"], plainKeys := false, apart := false, laid := [("math/bits.deBruijn64tab", laid_math_bits_deBruijn64tab), ("dipworks/tide.done", laid_dipworks_tide_done)], narrowed := true }
def ServeLooksUptoSaid : Prop := serveLooksUptoRow.holds Tryz.pinned (OpenSpec.upto serveLooksSpec)

/-- 'dipworkslaw08.ServeDrops', WHERE WHAT IT READS IS OF BULK AT MOST 1048576: true; the input reads as it did. -/
def serveDropsUptoRow : OpenClaim := { program := "ythnhlkflkidemaagreatdoor", sum := "9a52b3b68404ea5dd4b56c26f8fe4a97fa6b5cbcb407a89112d2bd1a76861ff9", func := "dipworks/dipworkslaw08.ServeDrops", spec := "serveDrops", unfollowed := true, recurses := true, named := ["dipworks/tide.done", "math/bits.deBruijn64tab"], plainKeys := false, apart := false, laid := [("math/bits.deBruijn64tab", laid_math_bits_deBruijn64tab), ("dipworks/tide.done", laid_dipworks_tide_done)], narrowed := true }
def ServeDropsUptoSaid : Prop := serveDropsUptoRow.holds Tryz.pinned (OpenSpec.upto serveDropsSpec)

/-- 'dipworkslaw08.ServeTrue', WHERE WHAT IT READS IS OF BULK AT MOST 1048576: true; the input reads as it did. -/
def serveTrueUptoRow : OpenClaim := { program := "ythnhlkflkidemaagreatdoor", sum := "9a52b3b68404ea5dd4b56c26f8fe4a97fa6b5cbcb407a89112d2bd1a76861ff9", func := "dipworks/dipworkslaw08.ServeTrue", spec := "serveTrue", unfollowed := true, recurses := true, named := ["dipworks/tide.done", "math/bits.deBruijn64tab"], plainKeys := false, apart := false, laid := [("math/bits.deBruijn64tab", laid_math_bits_deBruijn64tab), ("dipworks/tide.done", laid_dipworks_tide_done)], narrowed := true }
def ServeTrueUptoSaid : Prop := serveTrueUptoRow.holds Tryz.pinned (OpenSpec.upto serveTrueSpec)

/-- 'dipworkslaw08.ServeDrop', WHERE WHAT IT READS IS OF BULK AT MOST 1048576: true; the input reads as it did. -/
def serveDropUptoRow : OpenClaim := { program := "ythnhlkflkidemaagreatdoor", sum := "9a52b3b68404ea5dd4b56c26f8fe4a97fa6b5cbcb407a89112d2bd1a76861ff9", func := "dipworks/dipworkslaw08.ServeDrop", spec := "serveDrop", unfollowed := true, recurses := true, named := ["dipworks/tide.done", "math/bits.deBruijn64tab"], plainKeys := false, apart := false, laid := [("math/bits.deBruijn64tab", laid_math_bits_deBruijn64tab), ("dipworks/tide.done", laid_dipworks_tide_done)], narrowed := true }
def ServeDropUptoSaid : Prop := serveDropUptoRow.holds Tryz.pinned (OpenSpec.upto serveDropSpec)

/-- 'dipworkslaw08.ServeCount', WHERE WHAT IT READS IS OF BULK AT MOST 1048576: true; the input reads as it did. -/
def serveCountUptoRow : OpenClaim := { program := "ythnhlkflkidemaagreatdoor", sum := "9a52b3b68404ea5dd4b56c26f8fe4a97fa6b5cbcb407a89112d2bd1a76861ff9", func := "dipworks/dipworkslaw08.ServeCount", spec := "serveCount", unfollowed := true, recurses := true, named := ["dipworks/tide.done", "math/bits.deBruijn64tab"], plainKeys := false, apart := false, laid := [("math/bits.deBruijn64tab", laid_math_bits_deBruijn64tab), ("dipworks/tide.done", laid_dipworks_tide_done)], narrowed := true }
def ServeCountUptoSaid : Prop := serveCountUptoRow.holds Tryz.pinned (OpenSpec.upto serveCountSpec)

/-- 'dipworkslaw08.ServeMore', WHERE WHAT IT READS IS OF BULK AT MOST 1048576: true; the input reads as it did. -/
def serveMoreUptoRow : OpenClaim := { program := "ythnhlkflkidemaagreatdoor", sum := "9a52b3b68404ea5dd4b56c26f8fe4a97fa6b5cbcb407a89112d2bd1a76861ff9", func := "dipworks/dipworkslaw08.ServeMore", spec := "serveMore", unfollowed := true, recurses := true, named := ["dipworks/tide.done", "math/bits.deBruijn64tab"], plainKeys := false, apart := false, laid := [("math/bits.deBruijn64tab", laid_math_bits_deBruijn64tab), ("dipworks/tide.done", laid_dipworks_tide_done)], narrowed := true }
def ServeMoreUptoSaid : Prop := serveMoreUptoRow.holds Tryz.pinned (OpenSpec.upto serveMoreSpec)

/-- 'dipworkslaw08.ServeTurned', WHERE WHAT IT READS IS OF BULK AT MOST 1048576: true; the input reads as it did. -/
def serveTurnedUptoRow : OpenClaim := { program := "ythnhlkflkidemaagreatdoor", sum := "9a52b3b68404ea5dd4b56c26f8fe4a97fa6b5cbcb407a89112d2bd1a76861ff9", func := "dipworks/dipworkslaw08.ServeTurned", spec := "serveTurned", unfollowed := true, recurses := true, named := ["dipworks/tide.done", "math/bits.deBruijn64tab"], plainKeys := false, apart := false, laid := [("math/bits.deBruijn64tab", laid_math_bits_deBruijn64tab), ("dipworks/tide.done", laid_dipworks_tide_done)], narrowed := true }
def ServeTurnedUptoSaid : Prop := serveTurnedUptoRow.holds Tryz.pinned (OpenSpec.upto serveTurnedSpec)

/-- 'dipworkslaw08.ServeRight', WHERE WHAT IT READS IS OF BULK AT MOST 1048576: true; the input reads as it did. -/
def serveRightUptoRow : OpenClaim := { program := "ythnhlkflkidemaagreatdoor", sum := "9a52b3b68404ea5dd4b56c26f8fe4a97fa6b5cbcb407a89112d2bd1a76861ff9", func := "dipworks/dipworkslaw08.ServeRight", spec := "serveRight", unfollowed := true, recurses := true, named := ["dipworks/tide.done", "math/bits.deBruijn64tab"], plainKeys := false, apart := false, laid := [("math/bits.deBruijn64tab", laid_math_bits_deBruijn64tab), ("dipworks/tide.done", laid_dipworks_tide_done)], narrowed := true }
def ServeRightUptoSaid : Prop := serveRightUptoRow.holds Tryz.pinned (OpenSpec.upto serveRightSpec)

/-- 'dipworkslaw08.ServeBest', WHERE WHAT IT READS IS OF BULK AT MOST 1048576: true; the input reads as it did. -/
def serveBestUptoRow : OpenClaim := { program := "ythnhlkflkidemaagreatdoor", sum := "9a52b3b68404ea5dd4b56c26f8fe4a97fa6b5cbcb407a89112d2bd1a76861ff9", func := "dipworks/dipworkslaw08.ServeBest", spec := "serveBest", unfollowed := true, recurses := true, named := ["dipworks/tide.done", "math/bits.deBruijn64tab"], plainKeys := false, apart := false, laid := [("math/bits.deBruijn64tab", laid_math_bits_deBruijn64tab), ("dipworks/tide.done", laid_dipworks_tide_done)], narrowed := true }
def ServeBestUptoSaid : Prop := serveBestUptoRow.holds Tryz.pinned (OpenSpec.upto serveBestSpec)

/-- 'dipworkstop.TopServed', WHERE WHAT IT READS IS OF BULK AT MOST 1048576: true; the input reads as it did. -/
def topServedUptoRow : OpenClaim := { program := "ythnhlkflkidemaagreatdoor", sum := "9a52b3b68404ea5dd4b56c26f8fe4a97fa6b5cbcb407a89112d2bd1a76861ff9", func := "dipworks/dipworkstop.TopServed", spec := "topServed", unfollowed := true, recurses := true, named := ["dipworks/tide.done", "math/bits.deBruijn64tab", "math/bits.deBruijn32tab"], plainKeys := false, apart := false, laid := [("math/bits.deBruijn32tab", laid_math_bits_deBruijn32tab), ("math/bits.deBruijn64tab", laid_math_bits_deBruijn64tab), ("dipworks/tide.done", laid_dipworks_tide_done)], narrowed := true }
def TopServedUptoSaid : Prop := topServedUptoRow.holds Tryz.pinned (OpenSpec.upto topServedSpec)

end Rows
end Go.Proofs.YthnhlkflkidemaaGreatDoor
