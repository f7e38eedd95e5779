/-
  dipworkslaw03.TicketTrue returns true, for every input. Conditions: those of the given row, and no others.
-/
import Derived.Test.YtioajogaghgipaaP17
import Derived.Test.YtioajogaghgipaaP28
import Derived.WalkKit
import Derived.ProofKit
import Derived.OpenShut
import Derived.Deep.DeepHandedRow
set_option linter.unusedVariables false
namespace Go.Proofs.Ytioajogaghgipaa.trueProof
open Go Go.Sy Tic Go.ChangeShapes Go.WideShapes Go.ChangeAt Go.RowKit
set_option maxRecDepth 100000

theorem own : ownKnob Try.prog.godebug = none := by kernel_rfl

theorem contract (H : Type) (enc : TypeId × Value → H) (W : World) (base : Nat) (args : Array Value) (ds gs : List (DataW H)) (before : List MemPlace)
  (hval : ∀ (j : Nat) t v, Try.f6.params[j]? = some t → args[j]? = some v → Value.okWide Try.prog W .any base t v)
  (hW : DataW.Whole enc Try.prog Try.f6.params.toList Rows.ticketTrueSpec.vars false W args.toList ds gs before) (hsh : W.ShapedOpen Try.prog) :
  Calls Try.prog 6 args W fun e W' => ∃ v, e = .returned v ∧ Rows.ticketTrueSpec.post enc Try.prog Try.f6 false true false false W args v W' := by
 have hW' := hW
 obtain ⟨p, q, hA0, hV, rfl, hfz, hnd⟩ := hW
 have hA : DataW.TrodAll enc Try.prog W 0 (fun _ => true) true Try.f6.params.toList args.toList ds p := hA0
 rw [Try.params6] at hA hval
 have hA2 := hA
 obtain ⟨v0, vs0, d0, ds0, p0, q0, hargs, rfl, hp, h0, hr0⟩ := trodAll_cons hA
 obtain ⟨rfl, rfl, rfl⟩ := trodAll_nil hr0
 obtain rfl : args = #[v0] := by cases args; simp_all
 subst hp
 obtain ⟨rfl, rfl⟩ := trodVars_none hV
 have h0c := cells0 hsh
 obtain ⟨n0, f0, b0, c0, a0, ht0⟩ := numsOpenV Try.underlying48 it121 h0c (hval 0 48 v0 rfl rfl) h0
 clear hA0
 have hd : denL (fun j => [a0][j]?) [.osl b0 0 1 n0 c0] = some [v0] := by
  skip
  have h3_0 := ht0.den (fun j => [a0][j]?) 0 rfl
  simp only [denL, h3_0, Option.bind_some, Option.map_some]
 refine ((t6 b0 n0 c0 f0 (fun k => by simpa [InR, IntKind.min, IntKind.max, IntKind.signed, IntKind.bits] using ht0.rng k) ht0.len).world (satN ht0) hd (u := .bool true) (fun _ => rfl)).mono fun e W' ⟨he, hs, hb, hk⟩ => ?_
 subst he
 exact ⟨_, rfl, _, _, _, [], _, [], hW', trodAll_cons_mk (shut_bool Try.underlying4 true) trodAll_mk0, trodAll_kept (by kernel_rfl) hs hb (by kernel_rfl) hA2 (fun x hx => hW'.lt x (by simpa using hx)), rfl, hk _, fun h => by cases h⟩

def wit : Array Value := #[.slice none 0 0]
noncomputable def witWorld (os : Os) : World := World.holding Try.prog os ⟨#[], wit, []⟩
theorem laid_met (os : Os) : laidMet Try.prog Rows.ticketTrueRow.laid ((witWorld os).forCall (fun _ _ => 0) ⟨#[], wit, []⟩).memory :=
 laidMet_of_run' 8 (by kernel_rfl) (by kernel_rfl)
theorem reads (os : Os) {H : Type} (enc : TypeId × Value → H) : ∃ places, DataW.whole enc Try.prog ((witWorld os).forCall (fun _ _ => 0) ⟨#[], wit, []⟩).memory Try.f6.params.toList Rows.ticketTrueSpec.vars false wit.toList 8 = some ([.nil], [], places) :=
 ⟨[], by kernel_rfl⟩

theorem lifted (os : Os) (started : os.Started) (H : Type) (enc : TypeId × Value → H) (F : Stop.Interp) :
  ReturnsInHanded {} Try.checked os 6 .any ((OpenSpec.ofChange Rows.ticketTrueSpec).preRow enc Try.prog Try.f6 Rows.ticketTrueRow.domain false Rows.ticketTrueRow.laid) (((OpenSpec.ofChange Rows.ticketTrueSpec).at F).post enc Try.prog Try.f6 false true false false) := by
 obtain ⟨places, hx⟩ := reads os enc
 refine returnsInHanded_of_row (C := Try.checked) (s := OpenSpec.ofChange Rows.ticketTrueSpec) own started (by kernel_rfl) Try.func6
  (witness_row_at (enc := enc) (C := Try.checked) false (witWorld os) wit rfl (by kernel_rfl) (by kernel_rfl) (by kernel_rfl)
   (OpenSpec.preRow_of_cond 8 hx (by kernel_rfl) (fun k hk => by cases hk) (by kernel_rfl) (laid_met os))) ?_
 intro W base args ds gs before hval hW _ _ _ _ hsh _
 exact contract H enc W base args ds gs before hval hW hsh

theorem said : Rows.TicketTrueSaid :=
 OpenClaim.holds_of_cond 6 Try.f6 rfl rfl rfl rfl rfl rfl rfl ⟨rfl, rfl, rfl, rfl, rfl⟩ rfl rfl rfl rfl rfl (by kernel_rfl) Try.func6 (by kernel_rfl)
  (of_decide_eq_true (by kernel_rfl)) (by unfold Func.isWrapper; first | (rw [if_pos (by decide +kernel)]; kernel_rfl) | (rw [if_neg (by decide +kernel)]; exact ⟨rfl, rfl⟩))
  (fun os started H enc _ F => by rw [OpenClaim.pre_eq_preRow]; exact lifted os started H enc F)
end Go.Proofs.Ytioajogaghgipaa.trueProof
#print axioms Go.Proofs.Ytioajogaghgipaa.trueProof.said
