/-
  dipworkslaw03.TicketEnds returns true, for every input. Conditions: those of the given row, and no others.
-/
import Derived.Test.YtioajogaghgipaaP17
import Derived.Test.YtioajogaghgipaaP26
import Derived.WalkKit
import Derived.ProofKit
import Derived.OpenShut
import Derived.Deep.DeepHandedRow
set_option linter.unusedVariables false
namespace Go.Proofs.Ytioajogaghgipaa.endsProof
open Go Go.Sy Tic Go.ChangeShapes Go.WideShapes Go.ChangeAt Go.RowKit
set_option maxRecDepth 100000

theorem own : ownKnob Try.prog.godebug = none := by kernel_rfl

theorem contract (H : Type) (enc : TypeId × Value → H) (W : World) (base : Nat) (args : Array Value) (ds gs : List (DataW H)) (before : List MemPlace)
  (hval : ∀ (j : Nat) t v, Try.f7.params[j]? = some t → args[j]? = some v → Value.okWide Try.prog W .any base t v)
  (hW : DataW.Whole enc Try.prog Try.f7.params.toList Rows.ticketEndsSpec.vars false W args.toList ds gs before) (hsh : W.ShapedOpen Try.prog) :
  Calls Try.prog 7 args W fun e W' => ∃ v, e = .returned v ∧ Rows.ticketEndsSpec.post enc Try.prog Try.f7 false true false false W args v W' := by
 have hW' := hW
 obtain ⟨p, q, hA0, hV, rfl, hfz, hnd⟩ := hW
 have hA : DataW.TrodAll enc Try.prog W 0 (fun _ => true) true Try.f7.params.toList args.toList ds p := hA0
 rw [Try.params7] at hA hval
 have hA2 := hA
 obtain ⟨v0, vs0, d0, ds0, p0, q0, hargs, rfl, hp, h0, hr0⟩ := trodAll_cons hA
 obtain ⟨v1, vs1, d1, ds1, p1, q1, rfl, rfl, rfl, h1, hr1⟩ := trodAll_cons hr0
 obtain ⟨rfl, rfl, rfl⟩ := trodAll_nil hr1
 obtain rfl : args = #[v0, v1] := by cases args; simp_all
 subst hp
 obtain ⟨rfl, rfl⟩ := trodVars_none hV
 have h0c := cells0 hsh
 obtain ⟨h, a, ht⟩ := tkOpen h0c (hval 0 24 v0 rfl rfl) h0
 obtain ⟨x1, rfl, rfl, rfl, w1⟩ := open_int Try.underlying5 (hval 1 5 v1 rfl rfl) h1
 have r1 : 0 ≤ x1 ∧ x1 ≤ 255 := by simpa [Lit.wf, IntKind.min, IntKind.max, IntKind.signed, IntKind.bits] using w1
 clear hA0
 have hd : denL (fun j => [a][j]?) [TA h, .int .u8 x1] = some [v0, .int .u8 x1] := by
  have h3 := ht.den (fun j => [a][j]?) rfl
  have dI : ∀ k z, den (fun j => [a][j]?) (.int k z) = some (.int k z) := fun _ _ => rfl
  simp only [denL, h3, dI, Option.bind_some, Option.map_some]
 refine ((t7 h ht.huts ht.len x1 r1).world (sat1 ht) hd (u := .bool true) (fun _ => rfl)).mono fun e W' ⟨he, hs, hb, hk⟩ => ?_
 subst he
 exact ⟨_, rfl, _, _, _, [], _, [], hW', trodAll_cons_mk (shut_bool Try.underlying4 true) trodAll_mk0, trodAll_kept (by kernel_rfl) hs hb (by kernel_rfl) hA2 (fun x hx => hW'.lt x (by simpa using hx)), rfl, hk _, fun h => by cases h⟩

def wit : Array Value := #[.agg #[.int .i64 0, .slice none 0 0], .int .u8 0]
noncomputable def witWorld (os : Os) : World := World.holding Try.prog os ⟨#[], wit, []⟩
theorem laid_met (os : Os) : laidMet Try.prog Rows.ticketEndsRow.laid ((witWorld os).forCall (fun _ _ => 0) ⟨#[], wit, []⟩).memory :=
 laidMet_of_run' 8 (by kernel_rfl) (by kernel_rfl)
theorem reads (os : Os) {H : Type} (enc : TypeId × Value → H) : ∃ places, DataW.whole enc Try.prog ((witWorld os).forCall (fun _ _ => 0) ⟨#[], wit, []⟩).memory Try.f7.params.toList Rows.ticketEndsSpec.vars false wit.toList 8 = some ([.agg [.lit (.int .i64 0), .nil], .lit (.int .u8 0)], [], places) :=
 ⟨[], by kernel_rfl⟩

theorem lifted (os : Os) (started : os.Started) (H : Type) (enc : TypeId × Value → H) (F : Stop.Interp) :
  ReturnsInHanded {} Try.checked os 7 .any ((OpenSpec.ofChange Rows.ticketEndsSpec).preRow enc Try.prog Try.f7 Rows.ticketEndsRow.domain false Rows.ticketEndsRow.laid) (((OpenSpec.ofChange Rows.ticketEndsSpec).at F).post enc Try.prog Try.f7 false true false false) := by
 obtain ⟨places, hx⟩ := reads os enc
 refine returnsInHanded_of_row (C := Try.checked) (s := OpenSpec.ofChange Rows.ticketEndsSpec) own started (by kernel_rfl) Try.func7
  (witness_row_at (enc := enc) (C := Try.checked) false (witWorld os) wit rfl (by kernel_rfl) (by kernel_rfl) (by kernel_rfl)
   (OpenSpec.preRow_of_cond 8 hx (by kernel_rfl) (fun k hk => by cases hk) (by kernel_rfl) (laid_met os))) ?_
 intro W base args ds gs before hval hW _ _ _ _ hsh _
 exact contract H enc W base args ds gs before hval hW hsh

theorem said : Rows.TicketEndsSaid :=
 OpenClaim.holds_of_cond 7 Try.f7 rfl rfl rfl rfl rfl rfl rfl ⟨rfl, rfl, rfl, rfl, rfl⟩ rfl rfl rfl rfl rfl (by kernel_rfl) Try.func7 (by kernel_rfl)
  (of_decide_eq_true (by kernel_rfl)) (by unfold Func.isWrapper; first | (rw [if_pos (by decide +kernel)]; kernel_rfl) | (rw [if_neg (by decide +kernel)]; exact ⟨rfl, rfl⟩))
  (fun os started H enc _ F => by rw [OpenClaim.pre_eq_preRow]; exact lifted os started H enc F)
end Go.Proofs.Ytioajogaghgipaa.endsProof
#print axioms Go.Proofs.Ytioajogaghgipaa.endsProof.said
