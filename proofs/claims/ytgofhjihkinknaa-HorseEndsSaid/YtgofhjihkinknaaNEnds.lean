/-
  dipworkslaw02.HorseEnds returns true, and its arguments read as they did, for every input. Conditions: those of the given row, and no others.
-/
import Derived.Test.YtgofhjihkinknaaN14
import Derived.Test.YtgofhjihkinknaaN29
import Derived.WalkKit
import Derived.ProofKit
import Derived.OpenShut
import Derived.Deep.DeepHandedRow
set_option linter.unusedVariables false
namespace Go.Proofs.Ytgofhjihkinknaa.endsProof
open Go Go.Sy Kuhn Go.ChangeShapes Go.WideShapes Go.ChangeAt Go.RowKit
set_option maxRecDepth 100000

theorem own : ownKnob Try.prog.godebug = none := by kernel_rfl

theorem contract (H : Type) (enc : TypeId × Value → H) (W : World) (base : Nat) (args : Array Value) (ds gs : List (DataW H)) (before : List MemPlace)
    (hval : ∀ (j : Nat) t v, Try.f7.params[j]? = some t → args[j]? = some v → Value.okWide Try.prog W .any base t v)
    (hW : DataW.Whole enc Try.prog Try.f7.params.toList Rows.horseEndsSpec.vars false W args.toList ds gs before) (hsh : W.ShapedOpen Try.prog) :
    Calls Try.prog 7 args W fun e W' => ∃ v, e = .returned v ∧ Rows.horseEndsSpec.post enc Try.prog Try.f7 false true false false W args v W' := by
  have hW' := hW
  obtain ⟨p, q, hA0, hV, rfl, hfz, hnd⟩ := hW
  have hA : DataW.TrodAll enc Try.prog W 0 (fun _ => true) true Try.f7.params.toList args.toList ds p := hA0
  rw [Try.params7] at hA hval
  have hA2 := hA
  obtain ⟨v0, vs0, d0, ds0, p0, q0, hargs, rfl, hp, h0, hr0⟩ := trodAll_cons hA
  obtain ⟨v1, vs1, d1, ds1, p1, q1, rfl, rfl, rfl, h1, hr1⟩ := trodAll_cons hr0
  obtain ⟨v2, vs2, d2, ds2, p2, q2, rfl, rfl, rfl, h2, hr2⟩ := trodAll_cons hr1
  obtain ⟨rfl, rfl, rfl⟩ := trodAll_nil hr2
  obtain rfl : args = #[v0, v1, v2] := by cases args; simp_all
  subst hp
  obtain ⟨rfl, rfl⟩ := trodVars_none hV
  have h0c := cells0 hsh
  obtain ⟨h, a, ht⟩ := horseOpen h0c (hval 0 24 v0 rfl rfl) h0
  obtain ⟨n1, f1, b1, c1, a1, ht1⟩ := numsOpenV Try.underlying50 it5 h0c (hval 1 50 v1 rfl rfl) h1
  obtain ⟨x2, rfl, rfl, rfl, w2⟩ := open_int Try.underlying5 (hval 2 5 v2 rfl rfl) h2
  have r2 : 0 ≤ x2 ∧ x2 ≤ 255 := by simpa [Lit.wf, IntKind.min, IntKind.max, IntKind.signed, IntKind.bits] using w2
  clear hA0
  have hd : denL (fun j => [a, a1][j]?) [HD.A h, .osl b1 1 1 n1 c1, .int .u8 x2] = some [v0, v1, .int .u8 x2] := by
    have h3 := ht.den (fun j => [a, a1][j]?) rfl
    have h3_1 := ht1.den (fun j => [a, a1][j]?) 1 rfl
    have dI : ∀ k z, den (fun j => [a, a1][j]?) (.int k z) = some (.int k z) := fun _ _ => rfl
    simp only [denL, h3, dI, h3_1, Option.bind_some, Option.map_some]
  refine ((t7 h ⟨n1, f1, b1, c1⟩ (fun k _ => ht1.rng k) ht1.len x2 r2).world (sat2 ht ht1) hd (u := .bool true) (fun _ => rfl)).mono fun e W' ⟨he, hs, hb, hk⟩ => ?_
  subst he
  exact ⟨_, rfl, _, _, _, [], _, [], hW', trodAll_cons_mk (shut_bool Try.underlying4 true) trodAll_mk0, trodAll_kept (by kernel_rfl) hs hb (by kernel_rfl) hA2 (fun x hx => hW'.lt x (by simpa using hx)), rfl, hk _, fun h => by cases h⟩

/-- What the witness hands over. -/
def wit : Array Value := #[.agg #[.int .i64 0, .slice none 0 0], .slice none 0 0, .int .u8 0]
noncomputable def witWorld (os : Os) : World := World.holding Try.prog os ⟨#[], wit, []⟩
theorem laid_met (os : Os) : laidMet Try.prog Rows.horseEndsRow.laid ((witWorld os).forCall (fun _ _ => 0) ⟨#[], wit, []⟩).memory :=
  laidMet_of_run' 8 (by kernel_rfl) (by kernel_rfl)
theorem reads (os : Os) {H : Type} (enc : TypeId × Value → H) : ∃ places, DataW.whole enc Try.prog ((witWorld os).forCall (fun _ _ => 0) ⟨#[], wit, []⟩).memory Try.f7.params.toList Rows.horseEndsSpec.vars false wit.toList 8 = some ([.agg [.lit (.int .i64 0), .nil], .nil, .lit (.int .u8 0)], [], places) :=
  ⟨[], by kernel_rfl⟩

theorem lifted (os : Os) (started : os.Started) (H : Type) (enc : TypeId × Value → H) (F : Stop.Interp) :
    ReturnsInHanded {} Try.checked os 7 .any ((OpenSpec.ofChange Rows.horseEndsSpec).preRow enc Try.prog Try.f7 Rows.horseEndsRow.domain false Rows.horseEndsRow.laid) (((OpenSpec.ofChange Rows.horseEndsSpec).at F).post enc Try.prog Try.f7 false true false false) := by
  obtain ⟨places, hx⟩ := reads os enc
  refine returnsInHanded_of_row (C := Try.checked) (s := OpenSpec.ofChange Rows.horseEndsSpec) own started (by kernel_rfl) Try.func7
    (witness_row_at (enc := enc) (C := Try.checked) false (witWorld os) wit rfl (by kernel_rfl) (by kernel_rfl) (by kernel_rfl)
      (OpenSpec.preRow_of_cond 8 hx (by kernel_rfl) (fun k hk => by cases hk) (by kernel_rfl) (laid_met os))) ?_
  intro W base args ds gs before hval hW _ _ _ _ hsh _
  exact contract H enc W base args ds gs before hval hW hsh

theorem said : Rows.HorseEndsSaid :=
  OpenClaim.holds_of_cond 7 Try.f7 rfl rfl rfl rfl rfl rfl rfl ⟨rfl, rfl, rfl, rfl, rfl⟩ rfl rfl rfl rfl rfl (by kernel_rfl) Try.func7 (by kernel_rfl)
    (of_decide_eq_true (by kernel_rfl)) (by unfold Func.isWrapper; first | (rw [if_pos (by decide +kernel)]; kernel_rfl) | (rw [if_neg (by decide +kernel)]; exact ⟨rfl, rfl⟩))
    (fun os started H enc _ F => by rw [OpenClaim.pre_eq_preRow]; exact lifted os started H enc F)
end Go.Proofs.Ytgofhjihkinknaa.endsProof
#print axioms Go.Proofs.Ytgofhjihkinknaa.endsProof.said
