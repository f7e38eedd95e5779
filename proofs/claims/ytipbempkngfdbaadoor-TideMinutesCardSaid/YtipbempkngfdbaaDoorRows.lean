/-
  NARROWER THAN 'FOR EVERY INPUT', by the rows' own cells (each row's printed sentence says how): TideMinutes: laid · TideClashes: laid · TideNames: laid · TideTrue: laid · TideEnds: laid · TideServed: laid · TideMoves: laid · TideNext: laid · TideClash: laid · TideMore: laid.
  DERIVED. THE GIVEN ROWS OF THIS SEAT. 10 by the template 'for every input the law returns true; each argument reads behind the call as it read before'; 0 by the template 'total and deterministic' (their statements: YtipbempkngfdbaaDoorTotals.lean).
  GIVEN WITH THE SEED: the statements are not yours to turn. If you find one false, say at which input.
  Laid BY PROGRAM, IN A SANDBOX (cutbox-rows.mjs): the forced cells as the released guide's own fill.sh prints them over the translation ab4cdeb14545b5d6… (all of the seat's roots in one cut). By AI agents, Wed Nov 11 2026. No macro, syntax, notation, axiom, sorry.
-/
import Derived.Test.YtipbempkngfdbaaDoorChecked
import GoSem.Claim
import GoSem.ClaimJoined
import GoSem.ClaimMapViews
import Derived.JoinedTies
import Derived.KernelRfl
namespace Go.Proofs.YtipbempkngfdbaaDoor
/- THE CELL 'sum', in the pinned program and in every row, IS THE sha256 OF THE DUMP (.gsa) THAT YtipbempkngfdbaaDoorProg.lean LOADS. Nothing in Lean hashes anything: it is a label: what it is worth is what the hold of that sum in a sandbox is worth. -/
noncomputable def Tryd.pinned : Pinned := { name := "ytipbempkngfdbaadoor", sum := "ab4cdeb14545b5d68a5f4e86a3bf30531fcc1012b2e9290e9a1266ed4bafd8d4", checked := Tryd.checked }
namespace Rows
def none {H : Type} : Left H := { results := [], args := [] }

/- WHAT THE LISTED PACKAGE-LEVEL VARIABLES READ AS WHEN THE CALL BEGINS. Each datum BY PROGRAM (the guide's laid-datum.mjs) off the statement by which the dump's own 'gosem.cut.vars' lays the variable. In a bare row this is a premise. The card (YtipbempkngfdbaaDoorCards.lean) ties it to the program's text. -/
def laid_math_bits_deBruijn64tab {H : Type} : DataW H := .agg [.lit (.int .u8 0), .lit (.int .u8 1), .lit (.int .u8 56), .lit (.int .u8 2), .lit (.int .u8 57), .lit (.int .u8 49), .lit (.int .u8 28), .lit (.int .u8 3), .lit (.int .u8 61), .lit (.int .u8 58), .lit (.int .u8 42), .lit (.int .u8 50), .lit (.int .u8 38), .lit (.int .u8 29), .lit (.int .u8 17), .lit (.int .u8 4), .lit (.int .u8 62), .lit (.int .u8 47), .lit (.int .u8 59), .lit (.int .u8 36), .lit (.int .u8 45), .lit (.int .u8 43), .lit (.int .u8 51), .lit (.int .u8 22), .lit (.int .u8 53), .lit (.int .u8 39), .lit (.int .u8 33), .lit (.int .u8 30), .lit (.int .u8 24), .lit (.int .u8 18), .lit (.int .u8 12), .lit (.int .u8 5), .lit (.int .u8 63), .lit (.int .u8 55), .lit (.int .u8 48), .lit (.int .u8 27), .lit (.int .u8 60), .lit (.int .u8 41), .lit (.int .u8 37), .lit (.int .u8 16), .lit (.int .u8 46), .lit (.int .u8 35), .lit (.int .u8 44), .lit (.int .u8 21), .lit (.int .u8 52), .lit (.int .u8 32), .lit (.int .u8 23), .lit (.int .u8 11), .lit (.int .u8 54), .lit (.int .u8 26), .lit (.int .u8 40), .lit (.int .u8 15), .lit (.int .u8 34), .lit (.int .u8 20), .lit (.int .u8 31), .lit (.int .u8 10), .lit (.int .u8 25), .lit (.int .u8 14), .lit (.int .u8 19), .lit (.int .u8 9), .lit (.int .u8 13), .lit (.int .u8 8), .lit (.int .u8 7), .lit (.int .u8 6)]
def laid_dipworks_tide_done {H : Type} : DataW H := .agg [.lit (.int .i64 0), .lit (.int .i64 1), .lit (.int .i64 3), .lit (.int .i64 6), .lit (.int .i64 9), .lit (.int .i64 11), .lit (.int .i64 12)]

/-- 'dipworkslaw01.TideMinutes': WHATEVER THE INPUT: true; the input reads as it did. -/
def tideMinutesSpec : ChangeSpec := { name := "tideMinutes", fn := fun _ => fun
  | [d1, d2, d3, d4, d5, d6] => { results := [.lit (.bool true)], args := [d1, d2, d3, d4, d5, d6] }
  | _ => none }
def tideMinutesRow : OpenClaim := { program := "ytipbempkngfdbaadoor", sum := "ab4cdeb14545b5d68a5f4e86a3bf30531fcc1012b2e9290e9a1266ed4bafd8d4", func := "dipworks/dipworkslaw01.TideMinutes", spec := "tideMinutes", unfollowed := true, recurses := true, named := ["dipworks/tide.done", "math/bits.deBruijn64tab"], plainKeys := false, apart := false, laid := [("math/bits.deBruijn64tab", laid_math_bits_deBruijn64tab), ("dipworks/tide.done", laid_dipworks_tide_done)] }
def TideMinutesSaid : Prop := tideMinutesRow.holds Tryd.pinned (OpenSpec.ofChange tideMinutesSpec)

/-- ITS FALSE NEIGHBOUR: 'it returns false'. Refute it at one input. -/
def tideMinutesWrong : ChangeSpec := { name := "tideMinutes", fn := fun _ => fun
  | [d1, d2, d3, d4, d5, d6] => { results := [.lit (.bool false)], args := [d1, d2, d3, d4, d5, d6] }
  | _ => none }
def TideMinutesWrongFalsely : Prop := tideMinutesRow.holds Tryd.pinned (OpenSpec.ofChange tideMinutesWrong)

/-- 'dipworkslaw01.TideClashes': WHATEVER THE INPUT: true; the input reads as it did. -/
def tideClashesSpec : ChangeSpec := { name := "tideClashes", fn := fun _ => fun
  | [d] => { results := [.lit (.bool true)], args := [d] }
  | _ => none }
def tideClashesRow : OpenClaim := { program := "ytipbempkngfdbaadoor", sum := "ab4cdeb14545b5d68a5f4e86a3bf30531fcc1012b2e9290e9a1266ed4bafd8d4", func := "dipworks/dipworkslaw01.TideClashes", spec := "tideClashes", unfollowed := true, recurses := true, named := ["dipworks/tide.done", "math/bits.deBruijn64tab"], plainKeys := false, apart := false, laid := [("math/bits.deBruijn64tab", laid_math_bits_deBruijn64tab), ("dipworks/tide.done", laid_dipworks_tide_done)] }
def TideClashesSaid : Prop := tideClashesRow.holds Tryd.pinned (OpenSpec.ofChange tideClashesSpec)

/-- ITS FALSE NEIGHBOUR: 'it returns false'. Refute it at one input. -/
def tideClashesWrong : ChangeSpec := { name := "tideClashes", fn := fun _ => fun
  | [d] => { results := [.lit (.bool false)], args := [d] }
  | _ => none }
def TideClashesWrongFalsely : Prop := tideClashesRow.holds Tryd.pinned (OpenSpec.ofChange tideClashesWrong)

/-- 'dipworkslaw01.TideNames': WHATEVER THE INPUT: true; the input reads as it did. -/
def tideNamesSpec : ChangeSpec := { name := "tideNames", fn := fun _ => fun
  | [] => { results := [.lit (.bool true)], args := [] }
  | _ => none }
def tideNamesRow : OpenClaim := { program := "ytipbempkngfdbaadoor", sum := "ab4cdeb14545b5d68a5f4e86a3bf30531fcc1012b2e9290e9a1266ed4bafd8d4", func := "dipworks/dipworkslaw01.TideNames", spec := "tideNames", unfollowed := true, recurses := true, named := ["dipworks/tide.done", "math/bits.deBruijn64tab"], plainKeys := false, apart := false, laid := [("math/bits.deBruijn64tab", laid_math_bits_deBruijn64tab), ("dipworks/tide.done", laid_dipworks_tide_done)] }
def TideNamesSaid : Prop := tideNamesRow.holds Tryd.pinned (OpenSpec.ofChange tideNamesSpec)

/-- ITS FALSE NEIGHBOUR: 'it returns false'. Refute it at one input. -/
def tideNamesWrong : ChangeSpec := { name := "tideNames", fn := fun _ => fun
  | [] => { results := [.lit (.bool false)], args := [] }
  | _ => none }
def TideNamesWrongFalsely : Prop := tideNamesRow.holds Tryd.pinned (OpenSpec.ofChange tideNamesWrong)

/-- 'dipworkslaw01.TideTrue': WHATEVER THE INPUT: true; the input reads as it did. -/
def tideTrueSpec : ChangeSpec := { name := "tideTrue", fn := fun _ => fun
  | [d] => { results := [.lit (.bool true)], args := [d] }
  | _ => none }
def tideTrueRow : OpenClaim := { program := "ytipbempkngfdbaadoor", sum := "ab4cdeb14545b5d68a5f4e86a3bf30531fcc1012b2e9290e9a1266ed4bafd8d4", func := "dipworks/dipworkslaw01.TideTrue", spec := "tideTrue", unfollowed := true, recurses := true, named := ["dipworks/tide.done", "math/bits.deBruijn64tab"], plainKeys := false, apart := false, laid := [("math/bits.deBruijn64tab", laid_math_bits_deBruijn64tab), ("dipworks/tide.done", laid_dipworks_tide_done)] }
def TideTrueSaid : Prop := tideTrueRow.holds Tryd.pinned (OpenSpec.ofChange tideTrueSpec)

/-- ITS FALSE NEIGHBOUR: 'it returns false'. Refute it at one input. -/
def tideTrueWrong : ChangeSpec := { name := "tideTrue", fn := fun _ => fun
  | [d] => { results := [.lit (.bool false)], args := [d] }
  | _ => none }
def TideTrueWrongFalsely : Prop := tideTrueRow.holds Tryd.pinned (OpenSpec.ofChange tideTrueWrong)

/-- 'dipworkslaw01.TideEnds': WHATEVER THE INPUT: true; the input reads as it did. -/
def tideEndsSpec : ChangeSpec := { name := "tideEnds", fn := fun _ => fun
  | [d1, d2, d3, d4, d5] => { results := [.lit (.bool true)], args := [d1, d2, d3, d4, d5] }
  | _ => none }
def tideEndsRow : OpenClaim := { program := "ytipbempkngfdbaadoor", sum := "ab4cdeb14545b5d68a5f4e86a3bf30531fcc1012b2e9290e9a1266ed4bafd8d4", func := "dipworks/dipworkslaw01.TideEnds", spec := "tideEnds", unfollowed := true, recurses := true, named := ["dipworks/tide.done", "math/bits.deBruijn64tab"], plainKeys := false, apart := false, laid := [("math/bits.deBruijn64tab", laid_math_bits_deBruijn64tab), ("dipworks/tide.done", laid_dipworks_tide_done)] }
def TideEndsSaid : Prop := tideEndsRow.holds Tryd.pinned (OpenSpec.ofChange tideEndsSpec)

/-- ITS FALSE NEIGHBOUR: 'it returns false'. Refute it at one input. -/
def tideEndsWrong : ChangeSpec := { name := "tideEnds", fn := fun _ => fun
  | [d1, d2, d3, d4, d5] => { results := [.lit (.bool false)], args := [d1, d2, d3, d4, d5] }
  | _ => none }
def TideEndsWrongFalsely : Prop := tideEndsRow.holds Tryd.pinned (OpenSpec.ofChange tideEndsWrong)

/-- 'dipworkslaw01.TideServed': WHATEVER THE INPUT: true; the input reads as it did. -/
def tideServedSpec : ChangeSpec := { name := "tideServed", fn := fun _ => fun
  | [d1, d2, d3, d4, d5, d6] => { results := [.lit (.bool true)], args := [d1, d2, d3, d4, d5, d6] }
  | _ => none }
def tideServedRow : OpenClaim := { program := "ytipbempkngfdbaadoor", sum := "ab4cdeb14545b5d68a5f4e86a3bf30531fcc1012b2e9290e9a1266ed4bafd8d4", func := "dipworks/dipworkslaw01.TideServed", spec := "tideServed", unfollowed := true, recurses := true, named := ["dipworks/tide.done", "math/bits.deBruijn64tab"], plainKeys := false, apart := false, laid := [("math/bits.deBruijn64tab", laid_math_bits_deBruijn64tab), ("dipworks/tide.done", laid_dipworks_tide_done)] }
def TideServedSaid : Prop := tideServedRow.holds Tryd.pinned (OpenSpec.ofChange tideServedSpec)

/-- ITS FALSE NEIGHBOUR: 'it returns false'. Refute it at one input. -/
def tideServedWrong : ChangeSpec := { name := "tideServed", fn := fun _ => fun
  | [d1, d2, d3, d4, d5, d6] => { results := [.lit (.bool false)], args := [d1, d2, d3, d4, d5, d6] }
  | _ => none }
def TideServedWrongFalsely : Prop := tideServedRow.holds Tryd.pinned (OpenSpec.ofChange tideServedWrong)

/-- 'dipworkslaw01.TideMoves': WHATEVER THE INPUT: true; the input reads as it did. -/
def tideMovesSpec : ChangeSpec := { name := "tideMoves", fn := fun _ => fun
  | [d1, d2, d3] => { results := [.lit (.bool true)], args := [d1, d2, d3] }
  | _ => none }
def tideMovesRow : OpenClaim := { program := "ytipbempkngfdbaadoor", sum := "ab4cdeb14545b5d68a5f4e86a3bf30531fcc1012b2e9290e9a1266ed4bafd8d4", func := "dipworks/dipworkslaw01.TideMoves", spec := "tideMoves", unfollowed := true, recurses := true, named := ["dipworks/tide.done", "math/bits.deBruijn64tab"], plainKeys := false, apart := false, laid := [("math/bits.deBruijn64tab", laid_math_bits_deBruijn64tab), ("dipworks/tide.done", laid_dipworks_tide_done)] }
def TideMovesSaid : Prop := tideMovesRow.holds Tryd.pinned (OpenSpec.ofChange tideMovesSpec)

/-- ITS FALSE NEIGHBOUR: 'it returns false'. Refute it at one input. -/
def tideMovesWrong : ChangeSpec := { name := "tideMoves", fn := fun _ => fun
  | [d1, d2, d3] => { results := [.lit (.bool false)], args := [d1, d2, d3] }
  | _ => none }
def TideMovesWrongFalsely : Prop := tideMovesRow.holds Tryd.pinned (OpenSpec.ofChange tideMovesWrong)

/-- 'dipworkslaw01.TideNext': WHATEVER THE INPUT: true; the input reads as it did. -/
def tideNextSpec : ChangeSpec := { name := "tideNext", fn := fun _ => fun
  | [d1, d2, d3] => { results := [.lit (.bool true)], args := [d1, d2, d3] }
  | _ => none }
def tideNextRow : OpenClaim := { program := "ytipbempkngfdbaadoor", sum := "ab4cdeb14545b5d68a5f4e86a3bf30531fcc1012b2e9290e9a1266ed4bafd8d4", func := "dipworks/dipworkslaw01.TideNext", spec := "tideNext", unfollowed := true, recurses := true, named := ["dipworks/tide.done", "math/bits.deBruijn64tab"], plainKeys := false, apart := false, laid := [("math/bits.deBruijn64tab", laid_math_bits_deBruijn64tab), ("dipworks/tide.done", laid_dipworks_tide_done)] }
def TideNextSaid : Prop := tideNextRow.holds Tryd.pinned (OpenSpec.ofChange tideNextSpec)

/-- ITS FALSE NEIGHBOUR: 'it returns false'. Refute it at one input. -/
def tideNextWrong : ChangeSpec := { name := "tideNext", fn := fun _ => fun
  | [d1, d2, d3] => { results := [.lit (.bool false)], args := [d1, d2, d3] }
  | _ => none }
def TideNextWrongFalsely : Prop := tideNextRow.holds Tryd.pinned (OpenSpec.ofChange tideNextWrong)

/-- 'dipworkslaw01.TideClash': WHATEVER THE INPUT: true; the input reads as it did. -/
def tideClashSpec : ChangeSpec := { name := "tideClash", fn := fun _ => fun
  | [d1, d2] => { results := [.lit (.bool true)], args := [d1, d2] }
  | _ => none }
def tideClashRow : OpenClaim := { program := "ytipbempkngfdbaadoor", sum := "ab4cdeb14545b5d68a5f4e86a3bf30531fcc1012b2e9290e9a1266ed4bafd8d4", func := "dipworks/dipworkslaw01.TideClash", spec := "tideClash", unfollowed := true, recurses := true, named := ["dipworks/tide.done", "math/bits.deBruijn64tab"], plainKeys := false, apart := false, laid := [("math/bits.deBruijn64tab", laid_math_bits_deBruijn64tab), ("dipworks/tide.done", laid_dipworks_tide_done)] }
def TideClashSaid : Prop := tideClashRow.holds Tryd.pinned (OpenSpec.ofChange tideClashSpec)

/-- ITS FALSE NEIGHBOUR: 'it returns false'. Refute it at one input. -/
def tideClashWrong : ChangeSpec := { name := "tideClash", fn := fun _ => fun
  | [d1, d2] => { results := [.lit (.bool false)], args := [d1, d2] }
  | _ => none }
def TideClashWrongFalsely : Prop := tideClashRow.holds Tryd.pinned (OpenSpec.ofChange tideClashWrong)

/-- 'dipworkslaw01.TideMore': WHATEVER THE INPUT: true; the input reads as it did. -/
def tideMoreSpec : ChangeSpec := { name := "tideMore", fn := fun _ => fun
  | [d1, d2, d3, d4, d5] => { results := [.lit (.bool true)], args := [d1, d2, d3, d4, d5] }
  | _ => none }
def tideMoreRow : OpenClaim := { program := "ytipbempkngfdbaadoor", sum := "ab4cdeb14545b5d68a5f4e86a3bf30531fcc1012b2e9290e9a1266ed4bafd8d4", func := "dipworks/dipworkslaw01.TideMore", spec := "tideMore", unfollowed := true, recurses := true, named := ["dipworks/tide.done", "math/bits.deBruijn64tab"], plainKeys := false, apart := false, laid := [("math/bits.deBruijn64tab", laid_math_bits_deBruijn64tab), ("dipworks/tide.done", laid_dipworks_tide_done)] }
def TideMoreSaid : Prop := tideMoreRow.holds Tryd.pinned (OpenSpec.ofChange tideMoreSpec)

/-- ITS FALSE NEIGHBOUR: 'it returns false'. Refute it at one input. -/
def tideMoreWrong : ChangeSpec := { name := "tideMore", fn := fun _ => fun
  | [d1, d2, d3, d4, d5] => { results := [.lit (.bool false)], args := [d1, d2, d3, d4, d5] }
  | _ => none }
def TideMoreWrongFalsely : Prop := tideMoreRow.holds Tryd.pinned (OpenSpec.ofChange tideMoreWrong)

/- THE SECOND FORM. 'bulk': how many values and letters a reading holds, each counted each time it is reached (what is shared counts as often as it is met; a slice's spare places count too). A statement '..UptoSaid' is the law's where the arguments, and the package variables that the reading takes, are together of bulk at most 1048576: NARROWER than '..Said'. Prove '..Said' where nothing that the law and all that it calls make is longer than what came in: it says more and counts as full. Else prove '..UptoSaid'. A law counts once. -/
mutual
def uptoBulk {H : Type} : DataW H → Nat
  | .lit (.string bytes) => bytes.length + 1
  | .lit _ => 1
  | .nil => 1
  | .ptr d => uptoBulk d + 1
  | .slice elems spare => uptoBulkAll elems + uptoBulkAll spare + 1
  | .agg parts => uptoBulkAll parts + 1
  | .iface _ d => uptoBulk d + 1
  | .map entries => uptoBulkEntries entries + 1
  | .held _ => 1
def uptoBulkAll {H : Type} : List (DataW H) → Nat
  | [] => 0
  | d :: r => uptoBulk d + uptoBulkAll r
def uptoBulkEntries {H : Type} : List (Lit × DataW H) → Nat
  | [] => 0
  | x :: r => uptoBulkEntry x + uptoBulkEntries r
def uptoBulkEntry {H : Type} : Lit × DataW H → Nat
  | (.string bytes, d) => bytes.length + uptoBulk d + 1
  | (_, d) => uptoBulk d + 1
 end
def uptoSmall : (H : Type) → List (DataW H) → Bool := fun _ ds => decide (uptoBulkAll ds ≤ 1048576)
def OpenSpec.upto (s : _root_.Go.ChangeSpec) : _root_.Go.OpenSpec := { _root_.Go.OpenSpec.ofChange s with cond := some uptoSmall }

/-- 'dipworkslaw01.TideMinutes', WHERE WHAT IT READS IS OF BULK AT MOST 1048576: true; the input reads as it did. -/
def tideMinutesUptoRow : OpenClaim := { program := "ytipbempkngfdbaadoor", sum := "ab4cdeb14545b5d68a5f4e86a3bf30531fcc1012b2e9290e9a1266ed4bafd8d4", func := "dipworks/dipworkslaw01.TideMinutes", spec := "tideMinutes", unfollowed := true, recurses := true, named := ["dipworks/tide.done", "math/bits.deBruijn64tab"], plainKeys := false, apart := false, laid := [("math/bits.deBruijn64tab", laid_math_bits_deBruijn64tab), ("dipworks/tide.done", laid_dipworks_tide_done)], narrowed := true }
def TideMinutesUptoSaid : Prop := tideMinutesUptoRow.holds Tryd.pinned (OpenSpec.upto tideMinutesSpec)

/-- 'dipworkslaw01.TideClashes', WHERE WHAT IT READS IS OF BULK AT MOST 1048576: true; the input reads as it did. -/
def tideClashesUptoRow : OpenClaim := { program := "ytipbempkngfdbaadoor", sum := "ab4cdeb14545b5d68a5f4e86a3bf30531fcc1012b2e9290e9a1266ed4bafd8d4", func := "dipworks/dipworkslaw01.TideClashes", spec := "tideClashes", unfollowed := true, recurses := true, named := ["dipworks/tide.done", "math/bits.deBruijn64tab"], plainKeys := false, apart := false, laid := [("math/bits.deBruijn64tab", laid_math_bits_deBruijn64tab), ("dipworks/tide.done", laid_dipworks_tide_done)], narrowed := true }
def TideClashesUptoSaid : Prop := tideClashesUptoRow.holds Tryd.pinned (OpenSpec.upto tideClashesSpec)

/-- 'dipworkslaw01.TideNames', WHERE WHAT IT READS IS OF BULK AT MOST 1048576: true; the input reads as it did. -/
def tideNamesUptoRow : OpenClaim := { program := "ytipbempkngfdbaadoor", sum := "ab4cdeb14545b5d68a5f4e86a3bf30531fcc1012b2e9290e9a1266ed4bafd8d4", func := "dipworks/dipworkslaw01.TideNames", spec := "tideNames", unfollowed := true, recurses := true, named := ["dipworks/tide.done", "math/bits.deBruijn64tab"], plainKeys := false, apart := false, laid := [("math/bits.deBruijn64tab", laid_math_bits_deBruijn64tab), ("dipworks/tide.done", laid_dipworks_tide_done)], narrowed := true }
def TideNamesUptoSaid : Prop := tideNamesUptoRow.holds Tryd.pinned (OpenSpec.upto tideNamesSpec)

/-- 'dipworkslaw01.TideTrue', WHERE WHAT IT READS IS OF BULK AT MOST 1048576: true; the input reads as it did. -/
def tideTrueUptoRow : OpenClaim := { program := "ytipbempkngfdbaadoor", sum := "ab4cdeb14545b5d68a5f4e86a3bf30531fcc1012b2e9290e9a1266ed4bafd8d4", func := "dipworks/dipworkslaw01.TideTrue", spec := "tideTrue", unfollowed := true, recurses := true, named := ["dipworks/tide.done", "math/bits.deBruijn64tab"], plainKeys := false, apart := false, laid := [("math/bits.deBruijn64tab", laid_math_bits_deBruijn64tab), ("dipworks/tide.done", laid_dipworks_tide_done)], narrowed := true }
def TideTrueUptoSaid : Prop := tideTrueUptoRow.holds Tryd.pinned (OpenSpec.upto tideTrueSpec)

/-- 'dipworkslaw01.TideEnds', WHERE WHAT IT READS IS OF BULK AT MOST 1048576: true; the input reads as it did. -/
def tideEndsUptoRow : OpenClaim := { program := "ytipbempkngfdbaadoor", sum := "ab4cdeb14545b5d68a5f4e86a3bf30531fcc1012b2e9290e9a1266ed4bafd8d4", func := "dipworks/dipworkslaw01.TideEnds", spec := "tideEnds", unfollowed := true, recurses := true, named := ["dipworks/tide.done", "math/bits.deBruijn64tab"], plainKeys := false, apart := false, laid := [("math/bits.deBruijn64tab", laid_math_bits_deBruijn64tab), ("dipworks/tide.done", laid_dipworks_tide_done)], narrowed := true }
def TideEndsUptoSaid : Prop := tideEndsUptoRow.holds Tryd.pinned (OpenSpec.upto tideEndsSpec)

/-- 'dipworkslaw01.TideServed', WHERE WHAT IT READS IS OF BULK AT MOST 1048576: true; the input reads as it did. -/
def tideServedUptoRow : OpenClaim := { program := "ytipbempkngfdbaadoor", sum := "ab4cdeb14545b5d68a5f4e86a3bf30531fcc1012b2e9290e9a1266ed4bafd8d4", func := "dipworks/dipworkslaw01.TideServed", spec := "tideServed", unfollowed := true, recurses := true, named := ["dipworks/tide.done", "math/bits.deBruijn64tab"], plainKeys := false, apart := false, laid := [("math/bits.deBruijn64tab", laid_math_bits_deBruijn64tab), ("dipworks/tide.done", laid_dipworks_tide_done)], narrowed := true }
def TideServedUptoSaid : Prop := tideServedUptoRow.holds Tryd.pinned (OpenSpec.upto tideServedSpec)

/-- 'dipworkslaw01.TideMoves', WHERE WHAT IT READS IS OF BULK AT MOST 1048576: true; the input reads as it did. -/
def tideMovesUptoRow : OpenClaim := { program := "ytipbempkngfdbaadoor", sum := "ab4cdeb14545b5d68a5f4e86a3bf30531fcc1012b2e9290e9a1266ed4bafd8d4", func := "dipworks/dipworkslaw01.TideMoves", spec := "tideMoves", unfollowed := true, recurses := true, named := ["dipworks/tide.done", "math/bits.deBruijn64tab"], plainKeys := false, apart := false, laid := [("math/bits.deBruijn64tab", laid_math_bits_deBruijn64tab), ("dipworks/tide.done", laid_dipworks_tide_done)], narrowed := true }
def TideMovesUptoSaid : Prop := tideMovesUptoRow.holds Tryd.pinned (OpenSpec.upto tideMovesSpec)

/-- 'dipworkslaw01.TideNext', WHERE WHAT IT READS IS OF BULK AT MOST 1048576: true; the input reads as it did. -/
def tideNextUptoRow : OpenClaim := { program := "ytipbempkngfdbaadoor", sum := "ab4cdeb14545b5d68a5f4e86a3bf30531fcc1012b2e9290e9a1266ed4bafd8d4", func := "dipworks/dipworkslaw01.TideNext", spec := "tideNext", unfollowed := true, recurses := true, named := ["dipworks/tide.done", "math/bits.deBruijn64tab"], plainKeys := false, apart := false, laid := [("math/bits.deBruijn64tab", laid_math_bits_deBruijn64tab), ("dipworks/tide.done", laid_dipworks_tide_done)], narrowed := true }
def TideNextUptoSaid : Prop := tideNextUptoRow.holds Tryd.pinned (OpenSpec.upto tideNextSpec)

/-- 'dipworkslaw01.TideClash', WHERE WHAT IT READS IS OF BULK AT MOST 1048576: true; the input reads as it did. -/
def tideClashUptoRow : OpenClaim := { program := "ytipbempkngfdbaadoor", sum := "ab4cdeb14545b5d68a5f4e86a3bf30531fcc1012b2e9290e9a1266ed4bafd8d4", func := "dipworks/dipworkslaw01.TideClash", spec := "tideClash", unfollowed := true, recurses := true, named := ["dipworks/tide.done", "math/bits.deBruijn64tab"], plainKeys := false, apart := false, laid := [("math/bits.deBruijn64tab", laid_math_bits_deBruijn64tab), ("dipworks/tide.done", laid_dipworks_tide_done)], narrowed := true }
def TideClashUptoSaid : Prop := tideClashUptoRow.holds Tryd.pinned (OpenSpec.upto tideClashSpec)

/-- 'dipworkslaw01.TideMore', WHERE WHAT IT READS IS OF BULK AT MOST 1048576: true; the input reads as it did. -/
def tideMoreUptoRow : OpenClaim := { program := "ytipbempkngfdbaadoor", sum := "ab4cdeb14545b5d68a5f4e86a3bf30531fcc1012b2e9290e9a1266ed4bafd8d4", func := "dipworks/dipworkslaw01.TideMore", spec := "tideMore", unfollowed := true, recurses := true, named := ["dipworks/tide.done", "math/bits.deBruijn64tab"], plainKeys := false, apart := false, laid := [("math/bits.deBruijn64tab", laid_math_bits_deBruijn64tab), ("dipworks/tide.done", laid_dipworks_tide_done)], narrowed := true }
def TideMoreUptoSaid : Prop := tideMoreUptoRow.holds Tryd.pinned (OpenSpec.upto tideMoreSpec)

end Rows
end Go.Proofs.YtipbempkngfdbaaDoor
