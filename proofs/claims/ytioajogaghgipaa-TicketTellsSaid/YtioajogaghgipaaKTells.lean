/-
  dipworkslaw03.TicketTells returns true, for every input. Conditions: those of the given row, and no others.
-/
import Derived.Test.YtioajogaghgipaaK17
import Derived.Test.YtioajogaghgipaaK32
import Derived.WalkKit
import Derived.ProofKit
import Derived.OpenShut
import Derived.Deep.DeepHandedRow
set_option linter.unusedVariables false
namespace Go.Proofs.Ytioajogaghgipaa.tellsProof
open Go Go.Sy Tic Go.ChangeShapes Go.WideShapes Go.ChangeAt Go.RowKit
set_option maxRecDepth 100000

theorem own : ownKnob Try.prog.godebug = none := by kernel_rfl

theorem contract (H : Type) (enc : TypeId × Value → H) (W : World) (base : Nat) (args : Array Value) (ds gs : List (DataW H)) (before : List MemPlace)
  (hval : ∀ (j : Nat) t v, Try.f3.params[j]? = some t → args[j]? = some v → Value.okWide Try.prog W .any base t v)
  (hW : DataW.Whole enc Try.prog Try.f3.params.toList Rows.ticketTellsSpec.vars false W args.toList ds gs before) (hsh : W.ShapedOpen Try.prog) :
  Calls Try.prog 3 args W fun e W' => ∃ v, e = .returned v ∧ Rows.ticketTellsSpec.post enc Try.prog Try.f3 false true false false W args v W' := by
 have hW' := hW
 obtain ⟨p, q, hA0, hV, rfl, hfz, hnd⟩ := hW
 have hA : DataW.TrodAll enc Try.prog W 0 (fun _ => true) true Try.f3.params.toList args.toList ds p := hA0
 rw [Try.params3] at hA hval
 have hA2 := hA
 obtain ⟨v0, vs0, d0, ds0, p0, q0, hargs, rfl, hp, h0, hr0⟩ := trodAll_cons hA
 obtain ⟨v1, vs1, d1, ds1, p1, q1, rfl, rfl, rfl, h1, hr1⟩ := trodAll_cons hr0
 obtain ⟨v2, vs2, d2, ds2, p2, q2, rfl, rfl, rfl, h2, hr2⟩ := trodAll_cons hr1
 obtain ⟨v3, vs3, d3, ds3, p3, q3, rfl, rfl, rfl, h3, hr3⟩ := trodAll_cons hr2
 obtain ⟨rfl, rfl, rfl⟩ := trodAll_nil hr3
 obtain rfl : args = #[v0, v1, v2, v3] := by cases args; simp_all
 subst hp
 obtain ⟨rfl, rfl⟩ := trodVars_none hV
 have h0c := cells0 hsh
 obtain ⟨h, a, ht⟩ := tkOpen h0c (hval 0 24 v0 rfl rfl) h0
 obtain ⟨x1, rfl, rfl, rfl, w1⟩ := open_int Try.underlying3 (hval 1 3 v1 rfl rfl) h1
 have r1 : InR .i64 x1 := by simpa [Lit.wf, InR, IntKind.min, IntKind.max, IntKind.signed, IntKind.bits] using w1
 obtain ⟨x2, rfl, rfl, rfl, w2⟩ := open_int Try.underlying3 (hval 2 3 v2 rfl rfl) h2
 have r2 : InR .i64 x2 := by simpa [Lit.wf, InR, IntKind.min, IntKind.max, IntKind.signed, IntKind.bits] using w2
 obtain ⟨x3, rfl, rfl, rfl, w3⟩ := open_int Try.underlying3 (hval 3 3 v3 rfl rfl) h3
 have r3 : InR .i64 x3 := by simpa [Lit.wf, InR, IntKind.min, IntKind.max, IntKind.signed, IntKind.bits] using w3
 clear hA0
 have hd : denL (fun j => [a][j]?) [TA h, .int .i64 x1, .int .i64 x2, .int .i64 x3] = some [v0, .int .i64 x1, .int .i64 x2, .int .i64 x3] := by
  have h3 := ht.den (fun j => [a][j]?) rfl
  have dI : ∀ k z, den (fun j => [a][j]?) (.int k z) = some (.int k z) := fun _ _ => rfl
  simp only [denL, h3, dI, Option.bind_some, Option.map_some]
 refine ((t3 h ht.huts ht.len x1 x2 x3).world (sat1 ht) hd (u := .bool true) (fun _ => rfl)).mono fun e W' ⟨he, hs, hb, hk⟩ => ?_
 subst he
 exact ⟨_, rfl, _, _, _, [], _, [], hW', trodAll_cons_mk (shut_bool Try.underlying4 true) trodAll_mk0, trodAll_kept (by kernel_rfl) hs hb (by kernel_rfl) hA2 (fun x hx => hW'.lt x (by simpa using hx)), rfl, hk _, fun h => by cases h⟩

def wit : Array Value := #[.agg #[.int .i64 0, .slice none 0 0], .int .i64 0, .int .i64 0, .int .i64 0]
noncomputable def witWorld (os : Os) : World := World.holding Try.prog os ⟨#[], wit, []⟩
theorem laid_met (os : Os) : laidMet Try.prog Rows.ticketTellsRow.laid ((witWorld os).forCall (fun _ _ => 0) ⟨#[], wit, []⟩).memory :=
 laidMet_of_run' 8 (by kernel_rfl) (by kernel_rfl)
theorem reads (os : Os) {H : Type} (enc : TypeId × Value → H) : ∃ places, DataW.whole enc Try.prog ((witWorld os).forCall (fun _ _ => 0) ⟨#[], wit, []⟩).memory Try.f3.params.toList Rows.ticketTellsSpec.vars false wit.toList 8 = some ([.agg [.lit (.int .i64 0), .nil], .lit (.int .i64 0), .lit (.int .i64 0), .lit (.int .i64 0)], [], places) :=
 ⟨[], by kernel_rfl⟩

theorem lifted (os : Os) (started : os.Started) (H : Type) (enc : TypeId × Value → H) (F : Stop.Interp) :
  ReturnsInHanded {} Try.checked os 3 .any ((OpenSpec.ofChange Rows.ticketTellsSpec).preRow enc Try.prog Try.f3 Rows.ticketTellsRow.domain false Rows.ticketTellsRow.laid) (((OpenSpec.ofChange Rows.ticketTellsSpec).at F).post enc Try.prog Try.f3 false true false false) := by
 obtain ⟨places, hx⟩ := reads os enc
 refine returnsInHanded_of_row (C := Try.checked) (s := OpenSpec.ofChange Rows.ticketTellsSpec) own started (by kernel_rfl) Try.func3
  (witness_row_at (enc := enc) (C := Try.checked) false (witWorld os) wit rfl (by kernel_rfl) (by kernel_rfl) (by kernel_rfl)
   (OpenSpec.preRow_of_cond 8 hx (by kernel_rfl) (fun k hk => by cases hk) (by kernel_rfl) (laid_met os))) ?_
 intro W base args ds gs before hval hW _ _ _ _ hsh _
 exact contract H enc W base args ds gs before hval hW hsh

theorem said : Rows.TicketTellsSaid :=
 OpenClaim.holds_of_cond 3 Try.f3 rfl rfl rfl rfl rfl rfl rfl ⟨rfl, rfl, rfl, rfl, rfl⟩ rfl rfl rfl rfl rfl (by kernel_rfl) Try.func3 (by kernel_rfl)
  (of_decide_eq_true (by kernel_rfl)) (by unfold Func.isWrapper; first | (rw [if_pos (by decide +kernel)]; kernel_rfl) | (rw [if_neg (by decide +kernel)]; exact ⟨rfl, rfl⟩))
  (fun os started H enc _ F => by rw [OpenClaim.pre_eq_preRow]; exact lifted os started H enc F)
end Go.Proofs.Ytioajogaghgipaa.tellsProof
#print axioms Go.Proofs.Ytioajogaghgipaa.tellsProof.said
