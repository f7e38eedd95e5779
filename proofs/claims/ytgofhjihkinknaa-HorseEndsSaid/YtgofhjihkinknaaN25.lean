/-
  Parts: Pn, Po, H9, H10, Qa, Qb, Qd, Qe, Ql.
-/
import Derived.Test.YtgofhjihkinknaaN23
import Derived.Test.YtgofhjihkinknaaN24
import Derived.Test.YtgofhjihkinknaaN14
import Derived.Test.YtgofhjihkinknaaN11
set_option linter.unusedVariables false
/-
  The example's horses.
-/
namespace Go.Proofs.Ytgofhjihkinknaa
open Go Go.Sy Kuhn
set_option linter.unusedSimpArgs false
set_option maxRecDepth 100000
set_option maxHeartbeats 4000000
attribute [local irreducible] CallP CodeP Ent YieldP

def exH : HD := ⟨1, 4, fun k => [0, 8, 10, 16].getD k 0, fun k => [0, 3, 0, 6].getD k 0, fun k => [4, 4, 5, 3].getD k 0, fun k => [6, 4, 6, 3].getD k 0, true, 4⟩
theorem ex_valid : exH.Valid := by
  unfold HD.Valid HD.okMv exH
  decide
theorem ex_few1 : exH.few true = 2 := by decide +kernel
theorem ex_few0 : exH.few false = 2 := by decide +kernel
theorem ex_plan1 : exH.plan true = [0, 1, 0, 1] := by decide +kernel
theorem ex_plan0 : exH.plan false = [0, 0, 1, 0] := by decide +kernel
theorem ex_prf : prfS exH true = 3 := by decide +kernel
theorem ex_lve : lveS exH true 1 = 5 := by decide +kernel
def exP : PD := ⟨4, fun k => [0, 0, 1, 0].getD k 0, true, 4⟩
def exQ : PD := ⟨4, fun _ => 2, true, 4⟩
theorem ex_pok : pok exH exP = true := by decide +kernel
theorem ex_chk : HD.chk exH false exQ = (1, 2, 0) := by
  refine chk_is (.inr (.inr ⟨ex_valid, by decide +kernel, .inl ⟨1, 2, ⟨by decide, by decide, by decide +kernel, by decide +kernel⟩, fun i' k' h1 h2 h3 => ?_, rfl⟩⟩))
  by_cases c : i' = 0
  · exfalso
    subst c
    have h4 := h3.2
    have h5 : ∀ k, k < 4 → 0 < k → exH.apart false 0 k = false := by decide +kernel
    rw [h5 k' h2 h1] at h4
    cases h4
  · have : i' = 1 ∨ 1 < i' := by omega
    rcases this with e | e
    · exact .inr ⟨e.symm, by omega⟩
    · exact .inl e
theorem ex_fol : HD.fol exH 0 1 = (1, 0) := by
  unfold HD.fol
  rw [if_pos ex_valid]
  decide +kernel
theorem ex_bus : HD.bus exH 5 = (0, 1, 0) := by
  unfold HD.bus
  rw [if_pos ex_valid]
  decide +kernel
theorem t38 (a b : Int) : CallP Try.prog 38 [.int .i64 a, .int .i64 b] [] (Ret (.agg [.int .i64 a, .int .i64 b]) []) := by
  refine callR (E := E) E_ok Try.func38 rfl ?_
  (repeat' (first | exact trivial | exact fun _ => rfl | exact rfl | refine And.intro ?_ ?_))
  exact ent_tau [] ⟨by (repeat' (first | exact trivial | exact rfl | exact fun _ _ => rfl | exact fun _ _ _ _ => rfl | exact Or.inl rfl | exact Or.inr rfl | refine And.intro ?_ ?_)), by (repeat' (first | exact trivial | exact rfl | exact congrArg (SV.int .i64) (Int.natCast_succ _).symm | exact congrArg (SV.int .u64) (Int.natCast_succ _).symm | refine And.intro ?_ ?_)), rfl⟩
theorem t79 (a b c d : Int) : CallP Try.prog 79 [.int .i64 a, .int .i64 b, .int .i64 c, .int .i64 d] [] (Ret (.agg [.int .i64 a, .int .i64 b, .int .i64 c, .int .i64 d]) []) := by
  refine callR (E := E) E_ok Try.func79 rfl ?_
  (repeat' (first | exact trivial | exact fun _ => rfl | exact rfl | refine And.intro ?_ ?_))
  refine (t38 c d).use [] ?_ trivial rfl
  (repeat' (first | exact trivial | exact fun _ => rfl | exact rfl | refine And.intro ?_ ?_))
  exact ent_tau [] ⟨by (repeat' (first | exact trivial | exact rfl | exact fun _ _ => rfl | exact fun _ _ _ _ => rfl | exact Or.inl rfl | exact Or.inr rfl | refine And.intro ?_ ?_)), by (repeat' (first | exact trivial | exact rfl | exact congrArg (SV.int .i64) (Int.natCast_succ _).symm | exact congrArg (SV.int .u64) (Int.natCast_succ _).symm | refine And.intro ?_ ?_)), rfl⟩
theorem four {P : Nat → Prop} (h0 : P 0) (h1 : P 1) (h2 : P 2) (h3 : P 3) : ∀ k, k < 4 → P k
  | 0, _ => h0
  | 1, _ => h1
  | 2, _ => h2
  | 3, _ => h3
  | k + 4, h => absurd h (by omega)
theorem t45 : CallP Try.prog 45 [] [] (Ret (HD.A exH) [some (.arr 4 4 4 (HD.F exH))]) := by
  refine callR (E := E) E_ok Try.func45 rfl ?_
  (repeat' (first | exact trivial | exact fun _ => rfl | exact rfl | refine And.intro ?_ ?_))
  refine (t79 _ _ _ _).use [] ?_ trivial rfl
  (repeat' (first | exact trivial | exact fun _ => rfl | exact rfl | refine And.intro ?_ ?_))
  refine (t79 _ _ _ _).use [] ?_ trivial rfl
  (repeat' (first | exact trivial | exact fun _ => rfl | exact rfl | refine And.intro ?_ ?_))
  refine (t79 _ _ _ _).use [] ?_ trivial rfl
  (repeat' (first | exact trivial | exact fun _ => rfl | exact rfl | refine And.intro ?_ ?_))
  refine (t79 _ _ _ _).use [] ?_ trivial rfl
  (repeat' (first | exact trivial | exact fun _ => rfl | exact rfl | refine And.intro ?_ ?_))
  all_goals first | (first | omega | exact u0 (by omega) | exact u1 (by omega) | exact u1 ⟨by omega, by omega⟩ | exact un (by omega) | exact fun hh => hh | exact fun hh => absurd hh (by decide) | exact fun hh => congrArg not hh | exact fun hh => Bool.noConfusion (show true = false from hh) | exact fun hh => Bool.noConfusion (show false = true from hh)) | skip
  refine Ent.trans (ent_tau (t := ⟨[some (none, .agg [.int .i64 1, .slice 0 4 0 4 4])], [some (.arr 4 4 4 (HD.F exH))], []⟩) [1] ⟨?_, by (repeat' (first | exact trivial | exact rfl | exact congrArg (SV.int .i64) (Int.natCast_succ _).symm | exact congrArg (SV.int .u64) (Int.natCast_succ _).symm | refine And.intro ?_ ?_)), rfl⟩) (entV fun η => by simp [den, denL, HD.A, exH])
  (repeat' (first | exact trivial | exact rfl | exact fun _ _ => rfl | exact fun _ _ _ _ => rfl | exact Or.inl rfl | exact Or.inr rfl | refine And.intro ?_ ?_))
  exact four rfl rfl rfl rfl
def rowI (l : List Int) (k : Nat) : List SV := [.int .i64 (l.getD k 0)]
theorem c30a : CallP Try.prog 30 [.slice 0 1 0 4 4, .slice 1 1 0 4 4] [some (.roa 1 4 (plF exH true)), some (.roa 1 4 (rowI [0, 1, 0, 1]))] (Ret (.bool true) [some (.roa 1 4 (plF exH true)), some (.roa 1 4 (rowI [0, 1, 0, 1]))]) := by
  have := t30 4 4 4 4 (fun k => (exH.plan true).getD k 0) (fun k => [0, 1, 0, 1].getD k 0) (by decide) (by decide)
  rw [show (decide (4 = 4) && eqN (fun k => (exH.plan true).getD k 0) (fun k => [0, 1, 0, 1].getD k 0) 4) = true by rw [ex_plan1]; decide] at this
  exact this
theorem c30b : CallP Try.prog 30 [.slice 0 1 0 4 4, .slice 1 1 0 4 4] [some (.roa 1 4 (plF exH false)), some (.roa 1 4 (rowI [0, 0, 1, 0]))] (Ret (.bool true) [some (.roa 1 4 (plF exH false)), some (.roa 1 4 (rowI [0, 0, 1, 0]))]) := by
  have := t30 4 4 4 4 (fun k => (exH.plan false).getD k 0) (fun k => [0, 0, 1, 0].getD k 0) (by decide) (by decide)
  rw [show (decide (4 = 4) && eqN (fun k => (exH.plan false).getD k 0) (fun k => [0, 0, 1, 0].getD k 0) 4) = true by rw [ex_plan0]; decide] at this
  exact this
def rowS (k : Nat) : List SV := [.int .i64 0, .int .i64 ([0, 1, 0, 0].getD k 0)]
theorem c24a : CallP Try.prog 24 [.slice 0 2 0 4 4, .slice 1 2 0 4 4] [some (.roa 2 4 (latF exH exP)), some (.roa 2 4 rowS)] (Ret (.bool true) [some (.roa 2 4 (latF exH exP)), some (.roa 2 4 rowS)]) := by
  have := t24 4 4 4 4 (fun k => T59 exH exP false k - exH.at' k) (fun k => T59 exH exP true k - exH.at' k) (fun _ => 0) (fun k => [0, 1, 0, 0].getD k 0) (by decide) (by decide)
  rw [show (decide (4 = 4) && (eqN (fun k => T59 exH exP false k - exH.at' k) (fun _ => 0) 4 && eqN (fun k => T59 exH exP true k - exH.at' k) (fun k => [0, 1, 0, 0].getD k 0) 4)) = true by decide +kernel] at this
  exact this
theorem t15 : CallP Try.prog 15 [] [] (Ret (.bool true) []) := by
  have c16 := t16 exH 0 1
  rw [ex_fol] at c16
  have c18 := t18 exH exQ (by decide) false
  rw [ex_chk] at c18
  have c261 := t26 exH ex_valid true
  rw [ex_few1] at c261
  have c260 := t26 exH ex_valid false
  rw [ex_few0] at c260
  have c28 := t28 exH ex_valid true
  rw [ex_prf] at c28
  have c20 := t20 exH exP (by decide) _ _ (.inl ⟨ex_valid, ex_pok, rfl, rfl⟩)
  have c22 := t22 exH 5
  rw [ex_bus] at c22
  have c31 := t31 exH ex_valid true 1 (by decide)
  rw [ex_lve] at c31
  refine callR (E := E) E_ok Try.func15 rfl ?_
  (repeat' (first | exact trivial | exact fun _ => rfl | exact rfl | refine And.intro ?_ ?_))
  refine t45.use [] ?_ trivial rfl
  (repeat' (first | exact trivial | exact fun _ => rfl | exact rfl | refine And.intro ?_ ?_))
  refine c16.use [0] ?_ (by (repeat' (first | exact trivial | exact rfl | exact fun _ _ => rfl | exact fun _ _ _ _ => rfl | exact Or.inl rfl | exact Or.inr rfl | refine And.intro ?_ ?_))) rfl
  (repeat' (first | exact trivial | exact fun _ => rfl | exact rfl | refine And.intro ?_ ?_))
  all_goals first | (first | omega | exact u0 (by omega) | exact u1 (by omega) | exact u1 ⟨by omega, by omega⟩ | exact un (by omega) | exact fun hh => hh | exact fun hh => absurd hh (by decide) | exact fun hh => congrArg not hh | exact fun hh => Bool.noConfusion (show true = false from hh) | exact fun hh => Bool.noConfusion (show false = true from hh)) | skip
  refine CallP.argsD (args' := [HD.A exH, .osl true 2 1 4 4, .bool false]) (fun η => by simp [den, denL, HD.A, ofVal]) ?_
  refine c18.use [0, 2] ?_ (by (repeat' (first | exact trivial | exact rfl | exact fun _ _ => rfl | exact fun _ _ _ _ => rfl | exact Or.inl rfl | exact Or.inr rfl | refine And.intro ?_ ?_)); all_goals exact four rfl rfl rfl rfl) rfl
  (repeat' (first | exact trivial | exact fun _ => rfl | exact rfl | refine And.intro ?_ ?_))
  refine c261.use [0] ?_ (by (repeat' (first | exact trivial | exact rfl | exact fun _ _ => rfl | exact fun _ _ _ _ => rfl | exact Or.inl rfl | exact Or.inr rfl | refine And.intro ?_ ?_))) rfl
  (repeat' (first | exact trivial | exact fun _ => rfl | exact rfl | refine And.intro ?_ ?_))
  refine c260.use [0] ?_ (by (repeat' (first | exact trivial | exact rfl | exact fun _ _ => rfl | exact fun _ _ _ _ => rfl | exact Or.inl rfl | exact Or.inr rfl | refine And.intro ?_ ?_))) rfl
  (repeat' (first | exact trivial | exact fun _ => rfl | exact rfl | refine And.intro ?_ ?_))
  refine c28.use [0] ?_ (by (repeat' (first | exact trivial | exact rfl | exact fun _ _ => rfl | exact fun _ _ _ _ => rfl | exact Or.inl rfl | exact Or.inr rfl | refine And.intro ?_ ?_))) rfl
  (repeat' (first | exact trivial | exact fun _ => rfl | exact rfl | refine And.intro ?_ ?_))
  all_goals first | (first | omega | exact u0 (by omega) | exact u1 (by omega) | exact u1 ⟨by omega, by omega⟩ | exact un (by omega) | exact fun hh => hh | exact fun hh => absurd hh (by decide) | exact fun hh => congrArg not hh | exact fun hh => Bool.noConfusion (show true = false from hh) | exact fun hh => Bool.noConfusion (show false = true from hh)) | skip
  refine CallP.argsD (args' := [HD.A exH, .osl true 5 1 4 4]) (fun η => by simp [den, denL, HD.A]) ?_
  refine c20.use [0, 5] ?_ (by (repeat' (first | exact trivial | exact rfl | exact fun _ _ => rfl | exact fun _ _ _ _ => rfl | exact Or.inl rfl | exact Or.inr rfl | refine And.intro ?_ ?_)); all_goals exact four rfl rfl rfl rfl) rfl
  (repeat' (first | exact trivial | exact fun _ => rfl | exact rfl | refine And.intro ?_ ?_))
  refine c22.use [0] ?_ (by (repeat' (first | exact trivial | exact rfl | exact fun _ _ => rfl | exact fun _ _ _ _ => rfl | exact Or.inl rfl | exact Or.inr rfl | refine And.intro ?_ ?_))) rfl
  (repeat' (first | exact trivial | exact fun _ => rfl | exact rfl | refine And.intro ?_ ?_))
  refine c31.use [0] ?_ (by (repeat' (first | exact trivial | exact rfl | exact fun _ _ => rfl | exact fun _ _ _ _ => rfl | exact Or.inl rfl | exact Or.inr rfl | refine And.intro ?_ ?_))) rfl
  clear c16 c18 c261 c260 c28 c20 c22 c31
  (repeat' (first | exact trivial | exact fun _ => rfl | exact rfl | refine And.intro ?_ ?_))
  all_goals first | (first | omega | exact u0 (by omega) | exact u1 (by omega) | exact u1 ⟨by omega, by omega⟩ | exact un (by omega) | exact fun hh => hh | exact fun hh => absurd hh (by decide) | exact fun hh => congrArg not hh | exact fun hh => Bool.noConfusion (show true = false from hh) | exact fun hh => Bool.noConfusion (show false = true from hh)) | skip
  intro _
  (repeat' (first | exact trivial | exact fun _ => rfl | exact rfl | refine And.intro ?_ ?_))
  all_goals first | (first | omega | exact u0 (by omega) | exact u1 (by omega) | exact u1 ⟨by omega, by omega⟩ | exact un (by omega) | exact fun hh => hh | exact fun hh => absurd hh (by decide) | exact fun hh => congrArg not hh | exact fun hh => Bool.noConfusion (show true = false from hh) | exact fun hh => Bool.noConfusion (show false = true from hh)) | skip
  intro _
  refine c30a.use [3, 8] ?_ (by (repeat' (first | exact trivial | exact rfl | exact fun _ _ => rfl | exact fun _ _ _ _ => rfl | exact Or.inl rfl | exact Or.inr rfl | refine And.intro ?_ ?_)); all_goals exact four rfl rfl rfl rfl) rfl
  (repeat' (first | exact trivial | exact fun _ => rfl | exact rfl | refine And.intro ?_ ?_))
  all_goals first | (first | omega | exact u0 (by omega) | exact u1 (by omega) | exact u1 ⟨by omega, by omega⟩ | exact un (by omega) | exact fun hh => hh | exact fun hh => absurd hh (by decide) | exact fun hh => congrArg not hh | exact fun hh => Bool.noConfusion (show true = false from hh) | exact fun hh => Bool.noConfusion (show false = true from hh)) | skip
  intro _
  (repeat' (first | exact trivial | exact fun _ => rfl | exact rfl | refine And.intro ?_ ?_))
  all_goals first | (first | omega | exact u0 (by omega) | exact u1 (by omega) | exact u1 ⟨by omega, by omega⟩ | exact un (by omega) | exact fun hh => hh | exact fun hh => absurd hh (by decide) | exact fun hh => congrArg not hh | exact fun hh => Bool.noConfusion (show true = false from hh) | exact fun hh => Bool.noConfusion (show false = true from hh)) | skip
  intro _
  refine c30b.use [4, 9] ?_ (by (repeat' (first | exact trivial | exact rfl | exact fun _ _ => rfl | exact fun _ _ _ _ => rfl | exact Or.inl rfl | exact Or.inr rfl | refine And.intro ?_ ?_)); all_goals exact four rfl rfl rfl rfl) rfl
  (repeat' (first | exact trivial | exact fun _ => rfl | exact rfl | refine And.intro ?_ ?_))
  all_goals first | (first | omega | exact u0 (by omega) | exact u1 (by omega) | exact u1 ⟨by omega, by omega⟩ | exact un (by omega) | exact fun hh => hh | exact fun hh => absurd hh (by decide) | exact fun hh => congrArg not hh | exact fun hh => Bool.noConfusion (show true = false from hh) | exact fun hh => Bool.noConfusion (show false = true from hh)) | skip
  intro _
  (repeat' (first | exact trivial | exact fun _ => rfl | exact rfl | refine And.intro ?_ ?_))
  all_goals first | (first | omega | exact u0 (by omega) | exact u1 (by omega) | exact u1 ⟨by omega, by omega⟩ | exact un (by omega) | exact fun hh => hh | exact fun hh => absurd hh (by decide) | exact fun hh => congrArg not hh | exact fun hh => Bool.noConfusion (show true = false from hh) | exact fun hh => Bool.noConfusion (show false = true from hh)) | skip
  refine drawP E_ok [6, 7] pl15_12 (by kernel_rfl) ?_
  (repeat' (first | exact trivial | exact fun _ => rfl | exact rfl | refine And.intro ?_ ?_))
  all_goals first | (first | omega | exact u0 (by omega) | exact u1 (by omega) | exact u1 ⟨by omega, by omega⟩ | exact un (by omega) | exact fun hh => hh | exact fun hh => absurd hh (by decide) | exact fun hh => congrArg not hh | exact fun hh => Bool.noConfusion (show true = false from hh) | exact fun hh => Bool.noConfusion (show false = true from hh)) | skip
  intro _
  refine (t38 0 0).use [] ?_ trivial rfl
  (repeat' (first | exact trivial | exact fun _ => rfl | exact rfl | refine And.intro ?_ ?_))
  all_goals first | (first | omega | exact u0 (by omega) | exact u1 (by omega) | exact u1 ⟨by omega, by omega⟩ | exact un (by omega) | exact fun hh => hh | exact fun hh => absurd hh (by decide) | exact fun hh => congrArg not hh | exact fun hh => Bool.noConfusion (show true = false from hh) | exact fun hh => Bool.noConfusion (show false = true from hh)) | skip
  intro _
  refine (t38 0 1).use [] ?_ trivial rfl
  (repeat' (first | exact trivial | exact fun _ => rfl | exact rfl | refine And.intro ?_ ?_))
  all_goals first | (first | omega | exact u0 (by omega) | exact u1 (by omega) | exact u1 ⟨by omega, by omega⟩ | exact un (by omega) | exact fun hh => hh | exact fun hh => absurd hh (by decide) | exact fun hh => congrArg not hh | exact fun hh => Bool.noConfusion (show true = false from hh) | exact fun hh => Bool.noConfusion (show false = true from hh)) | skip
  intro _
  refine (t38 0 0).use [] ?_ trivial rfl
  (repeat' (first | exact trivial | exact fun _ => rfl | exact rfl | refine And.intro ?_ ?_))
  all_goals first | (first | omega | exact u0 (by omega) | exact u1 (by omega) | exact u1 ⟨by omega, by omega⟩ | exact un (by omega) | exact fun hh => hh | exact fun hh => absurd hh (by decide) | exact fun hh => congrArg not hh | exact fun hh => Bool.noConfusion (show true = false from hh) | exact fun hh => Bool.noConfusion (show false = true from hh)) | skip
  intro _
  refine (t38 0 0).use [] ?_ trivial rfl
  (repeat' (first | exact trivial | exact fun _ => rfl | exact rfl | refine And.intro ?_ ?_))
  all_goals first | (first | omega | exact u0 (by omega) | exact u1 (by omega) | exact u1 ⟨by omega, by omega⟩ | exact un (by omega) | exact fun hh => hh | exact fun hh => absurd hh (by decide) | exact fun hh => congrArg not hh | exact fun hh => Bool.noConfusion (show true = false from hh) | exact fun hh => Bool.noConfusion (show false = true from hh)) | skip
  intro _
  (repeat' (first | exact trivial | exact fun _ => rfl | exact rfl | refine And.intro ?_ ?_))
  all_goals first | (first | omega | exact u0 (by omega) | exact u1 (by omega) | exact u1 ⟨by omega, by omega⟩ | exact un (by omega) | exact fun hh => hh | exact fun hh => absurd hh (by decide) | exact fun hh => congrArg not hh | exact fun hh => Bool.noConfusion (show true = false from hh) | exact fun hh => Bool.noConfusion (show false = true from hh)) | skip
  intro _
  refine c24a.use [6, 10] ?_ (by (repeat' (first | exact trivial | exact rfl | exact fun _ _ => rfl | exact fun _ _ _ _ => rfl | exact Or.inl rfl | exact Or.inr rfl | refine And.intro ?_ ?_)); all_goals exact four rfl rfl rfl rfl) rfl
  (repeat' (first | exact trivial | exact fun _ => rfl | exact rfl | refine And.intro ?_ ?_))
  all_goals first | (first | omega | exact u0 (by omega) | exact u1 (by omega) | exact u1 ⟨by omega, by omega⟩ | exact un (by omega) | exact fun hh => hh | exact fun hh => absurd hh (by decide) | exact fun hh => congrArg not hh | exact fun hh => Bool.noConfusion (show true = false from hh) | exact fun hh => Bool.noConfusion (show false = true from hh)) | skip
  intro _
  refine (t38 0 1).use [] ?_ trivial rfl
  (repeat' (first | exact trivial | exact fun _ => rfl | exact rfl | refine And.intro ?_ ?_))
  all_goals first | (first | omega | exact u0 (by omega) | exact u1 (by omega) | exact u1 ⟨by omega, by omega⟩ | exact un (by omega) | exact fun hh => hh | exact fun hh => absurd hh (by decide) | exact fun hh => congrArg not hh | exact fun hh => Bool.noConfusion (show true = false from hh) | exact fun hh => Bool.noConfusion (show false = true from hh)) | skip
  exact ent_tau [] ⟨by (repeat' (first | exact trivial | exact rfl | exact fun _ _ => rfl | exact fun _ _ _ _ => rfl | exact Or.inl rfl | exact Or.inr rfl | refine And.intro ?_ ?_)), by (repeat' (first | exact trivial | exact rfl | exact congrArg (SV.int .i64) (Int.natCast_succ _).symm | exact congrArg (SV.int .u64) (Int.natCast_succ _).symm | refine And.intro ?_ ?_)), rfl⟩
end Go.Proofs.Ytgofhjihkinknaa
/-
  Contracts of the document's answer: what is valid, and what can follow what.
-/
namespace Go.Proofs.Ytgofhjihkinknaa
open Go Go.Sy Kuhn
set_option linter.unusedSimpArgs false
set_option maxRecDepth 100000
set_option maxHeartbeats 4000000
attribute [local irreducible] CallP CodeP Ent YieldP
attribute [local irreducible] HD.ch maskO

open Classical in
/-- Are horses valid? -/
noncomputable def vb (h : HD) : Bool := decide h.Valid
theorem vb_iff {h : HD} : vb h = true ↔ h.Valid := by
  unfold vb
  exact @decide_eq_true_iff _ (Classical.propDecidable _)
theorem vb_yes {h : HD} (hv : h.Valid) : vb h = true := vb_iff.2 hv
theorem vb_no {h : HD} (hv : ¬ h.Valid) : vb h = false := by
  cases c : vb h with
  | false => rfl
  | true => exact absurd (vb_iff.1 c) hv
theorem t37 (h : HD) : CallP Try.prog 37 [HD.A h] (HD.H h) (Ret (.bool (vb h)) (HD.H h)) := by
  obtain ⟨r, hr⟩ : ∃ r, vb h = r := ⟨_, rfl⟩
  rw [hr]
  obtain ⟨b0, hb0⟩ : ∃ b0, inB h.pace 0 3 = b0 := ⟨_, rfl⟩
  have c0 := t64 h.pace 0 3
  rw [hb0] at c0
  refine callR (E := E) E_ok Try.func37 rfl ?_
  (repeat' (first | exact trivial | exact fun _ => rfl | exact rfl | refine And.intro ?_ ?_))
  refine c0.use [] ?_ trivial rfl
  cases b0 with
  | false =>
    have hv : ¬ h.Valid := fun hv => by
      rw [inB_iff.2 hv.1] at hb0
      cases hb0
    rw [vb_no hv] at hr
    subst hr
    (repeat' (first | exact trivial | exact fun _ => rfl | exact rfl | refine And.intro ?_ ?_))
    all_goals first | (first | omega | exact u0 (by omega) | exact u1 (by omega) | exact u1 ⟨by omega, by omega⟩ | exact un (by omega) | exact fun hh => hh | exact fun hh => absurd hh (by decide) | exact fun hh => congrArg not hh | exact fun hh => Bool.noConfusion (show true = false from hh) | exact fun hh => Bool.noConfusion (show false = true from hh)) | skip
    intro _
    (repeat' (first | exact trivial | exact fun _ => rfl | exact rfl | refine And.intro ?_ ?_))
    exact ent_tau [0] ⟨by (repeat' (first | exact trivial | exact rfl | exact fun _ _ => rfl | exact fun _ _ _ _ => rfl | exact Or.inl rfl | exact Or.inr rfl | refine And.intro ?_ ?_)), by (repeat' (first | exact trivial | exact rfl | exact congrArg (SV.int .i64) (Int.natCast_succ _).symm | exact congrArg (SV.int .u64) (Int.natCast_succ _).symm | refine And.intro ?_ ?_)), rfl⟩
  | true =>
    have hp := inB_iff.1 hb0
    (repeat' (first | exact trivial | exact fun _ => rfl | exact rfl | refine And.intro ?_ ?_))
    all_goals first | (first | omega | exact u0 (by omega) | exact u1 (by omega) | exact u1 ⟨by omega, by omega⟩ | exact un (by omega) | exact fun hh => hh | exact fun hh => absurd hh (by decide) | exact fun hh => congrArg not hh | exact fun hh => Bool.noConfusion (show true = false from hh) | exact fun hh => Bool.noConfusion (show false = true from hh)) | skip
    · intro hx
      have hv : ¬ h.Valid := fun hv => by
        have := hv.2.1
        have hx2 : decide ((h.n : Int) > 7) = true := hx
        have := of_decide_eq_true hx2
        omega
      rw [vb_no hv] at hr
      subst hr
      (repeat' (first | exact trivial | exact fun _ => rfl | exact rfl | refine And.intro ?_ ?_))
      exact ent_tau [0] ⟨by (repeat' (first | exact trivial | exact rfl | exact fun _ _ => rfl | exact fun _ _ _ _ => rfl | exact Or.inl rfl | exact Or.inr rfl | refine And.intro ?_ ?_)), by (repeat' (first | exact trivial | exact rfl | exact congrArg (SV.int .i64) (Int.natCast_succ _).symm | exact congrArg (SV.int .u64) (Int.natCast_succ _).symm | refine And.intro ?_ ?_)), rfl⟩
    intro hx
    have hn7 : h.n ≤ 7 := by
      have hx2 : decide ((h.n : Int) > 7) = false := hx
      have := of_decide_eq_false hx2
      omega
    (repeat' (first | exact trivial | exact fun _ => rfl | exact rfl | refine And.intro ?_ ?_))
    refine loopP E_ok [1] (fun i : Nat => [(3, .int .i64 i)]) (fun _ H => H) (fun i => i ≤ h.n ∧ ∀ k, k < i → h.okMv k) (fun i => h.n - i) 0 ⟨Nat.zero_le _, fun k hk => absurd hk (Nat.not_lt_zero k)⟩ ?_ ?_
    · exact ent_tau [0, 1] ⟨by (repeat' (first | exact trivial | exact rfl | exact fun _ _ => rfl | exact fun _ _ _ _ => rfl | exact Or.inl rfl | exact Or.inr rfl | refine And.intro ?_ ?_)), by (repeat' (first | exact trivial | exact rfl | exact congrArg (SV.int .i64) (Int.natCast_succ _).symm | exact congrArg (SV.int .u64) (Int.natCast_succ _).symm | refine And.intro ?_ ?_)), rfl⟩
    rintro i ⟨hi, hall⟩
    have ei := z1 i
    refine And.intro ?_ (And.intro (fun hlt => ?_) (fun hlt => ?_))
    · (repeat' (first | exact trivial | exact fun _ => rfl | exact rfl | refine And.intro ?_ ?_))
    · have hlt' : i < h.n := by
        have := of_decide_eq_true hlt
        omega
      obtain ⟨b1, hb1⟩ : ∃ b1, inB (h.at' (0 + ((i : Nat) : Int).toNat)) 0 200 = b1 := ⟨_, rfl⟩
      have c1 := t64 (h.at' (0 + ((i : Nat) : Int).toNat)) 0 200
      rw [hb1] at c1
      obtain ⟨b2, hb2⟩ : ∃ b2, inB (h.pl (0 + ((i : Nat) : Int).toNat)) 0 30 = b2 := ⟨_, rfl⟩
      have c2 := t64 (h.pl (0 + ((i : Nat) : Int).toNat)) 0 30
      rw [hb2] at c2
      rw [ei] at hb1 hb2
      (repeat' (first | exact trivial | exact fun _ => rfl | exact rfl | refine And.intro ?_ ?_))
      all_goals first | (first | omega | exact u0 (by omega) | exact u1 (by omega) | exact u1 ⟨by omega, by omega⟩ | exact un (by omega) | exact fun hh => hh | exact fun hh => absurd hh (by decide) | exact fun hh => congrArg not hh | exact fun hh => Bool.noConfusion (show true = false from hh) | exact fun hh => Bool.noConfusion (show false = true from hh)) | skip
      refine c1.use [] ?_ trivial rfl
      cases b1 with
      | false =>
        have hv : ¬ h.Valid := fun hv => by
          rw [inB_iff.2 (hv.2.2 i hlt').1] at hb1
          cases hb1
        rw [vb_no hv] at hr
        subst hr
        (repeat' (first | exact trivial | exact fun _ => rfl | exact rfl | refine And.intro ?_ ?_))
        all_goals first | (first | omega | exact u0 (by omega) | exact u1 (by omega) | exact u1 ⟨by omega, by omega⟩ | exact un (by omega) | exact fun hh => hh | exact fun hh => absurd hh (by decide) | exact fun hh => congrArg not hh | exact fun hh => Bool.noConfusion (show true = false from hh) | exact fun hh => Bool.noConfusion (show false = true from hh)) | skip
        intro _
        (repeat' (first | exact trivial | exact fun _ => rfl | exact rfl | refine And.intro ?_ ?_))
        all_goals first | (first | omega | exact u0 (by omega) | exact u1 (by omega) | exact u1 ⟨by omega, by omega⟩ | exact un (by omega) | exact fun hh => hh | exact fun hh => absurd hh (by decide) | exact fun hh => congrArg not hh | exact fun hh => Bool.noConfusion (show true = false from hh) | exact fun hh => Bool.noConfusion (show false = true from hh)) | skip
        intro _
        (repeat' (first | exact trivial | exact fun _ => rfl | exact rfl | refine And.intro ?_ ?_))
        exact ent_tau [0] ⟨by (repeat' (first | exact trivial | exact rfl | exact fun _ _ => rfl | exact fun _ _ _ _ => rfl | exact Or.inl rfl | exact Or.inr rfl | refine And.intro ?_ ?_)), by (repeat' (first | exact trivial | exact rfl | exact congrArg (SV.int .i64) (Int.natCast_succ _).symm | exact congrArg (SV.int .u64) (Int.natCast_succ _).symm | refine And.intro ?_ ?_)), rfl⟩
      | true =>
        (repeat' (first | exact trivial | exact fun _ => rfl | exact rfl | refine And.intro ?_ ?_))
        all_goals first | (first | omega | exact u0 (by omega) | exact u1 (by omega) | exact u1 ⟨by omega, by omega⟩ | exact un (by omega) | exact fun hh => hh | exact fun hh => absurd hh (by decide) | exact fun hh => congrArg not hh | exact fun hh => Bool.noConfusion (show true = false from hh) | exact fun hh => Bool.noConfusion (show false = true from hh)) | skip
        intro _
        refine c2.use [] ?_ trivial rfl
        cases b2 with
        | false =>
          have hv : ¬ h.Valid := fun hv => by
            rw [inB_iff.2 (hv.2.2 i hlt').2.1] at hb2
            cases hb2
          rw [vb_no hv] at hr
          subst hr
          (repeat' (first | exact trivial | exact fun _ => rfl | exact rfl | refine And.intro ?_ ?_))
          all_goals first | (first | omega | exact u0 (by omega) | exact u1 (by omega) | exact u1 ⟨by omega, by omega⟩ | exact un (by omega) | exact fun hh => hh | exact fun hh => absurd hh (by decide) | exact fun hh => congrArg not hh | exact fun hh => Bool.noConfusion (show true = false from hh) | exact fun hh => Bool.noConfusion (show false = true from hh)) | skip
          all_goals intro _
          (repeat' (first | exact trivial | exact fun _ => rfl | exact rfl | refine And.intro ?_ ?_))
          exact ent_tau [0] ⟨by (repeat' (first | exact trivial | exact rfl | exact fun _ _ => rfl | exact fun _ _ _ _ => rfl | exact Or.inl rfl | exact Or.inr rfl | refine And.intro ?_ ?_)), by (repeat' (first | exact trivial | exact rfl | exact congrArg (SV.int .i64) (Int.natCast_succ _).symm | exact congrArg (SV.int .u64) (Int.natCast_succ _).symm | refine And.intro ?_ ?_)), rfl⟩
        | true =>
          (repeat' (first | exact trivial | exact fun _ => rfl | exact rfl | refine And.intro ?_ ?_))
          all_goals first | (first | omega | exact u0 (by omega) | exact u1 (by omega) | exact u1 ⟨by omega, by omega⟩ | exact un (by omega) | exact fun hh => hh | exact fun hh => absurd hh (by decide) | exact fun hh => congrArg not hh | exact fun hh => Bool.noConfusion (show true = false from hh) | exact fun hh => Bool.noConfusion (show false = true from hh)) | skip
          · intro hx
            have hv : ¬ h.Valid := fun hv => by
              have m := (hv.2.2 i hlt').2.2
              have hx2 : (bif (bif decide (h.lo (0 + ((i : Nat) : Int).toNat) < 1) then true else decide (h.lo (0 + ((i : Nat) : Int).toNat) > h.hi (0 + ((i : Nat) : Int).toNat))) then true else decide (h.hi (0 + ((i : Nat) : Int).toNat) > 20)) = true := hx
              rw [ei, decide_eq_false (by omega), decide_eq_false (by omega), decide_eq_false (by omega)] at hx2
              cases hx2
            rw [vb_no hv] at hr
            subst hr
            (repeat' (first | exact trivial | exact fun _ => rfl | exact rfl | refine And.intro ?_ ?_))
            exact ent_tau [0] ⟨by (repeat' (first | exact trivial | exact rfl | exact fun _ _ => rfl | exact fun _ _ _ _ => rfl | exact Or.inl rfl | exact Or.inr rfl | refine And.intro ?_ ?_)), by (repeat' (first | exact trivial | exact rfl | exact congrArg (SV.int .i64) (Int.natCast_succ _).symm | exact congrArg (SV.int .u64) (Int.natCast_succ _).symm | refine And.intro ?_ ?_)), rfl⟩
          · intro hx
            have hx2 : (bif (bif decide (h.lo (0 + ((i : Nat) : Int).toNat) < 1) then true else decide (h.lo (0 + ((i : Nat) : Int).toNat) > h.hi (0 + ((i : Nat) : Int).toNat))) then true else decide (h.hi (0 + ((i : Nat) : Int).toNat) > 20)) = false := hx
            rw [ei] at hx2
            have ho : h.okMv i := by
              refine ⟨inB_iff.1 hb1, inB_iff.1 hb2, ?_⟩
              by_cases a1 : h.lo i < 1
              · rw [decide_eq_true a1] at hx2
                cases hx2
              · by_cases a2 : h.lo i > h.hi i
                · rw [decide_eq_false a1, decide_eq_true a2] at hx2
                  cases hx2
                · by_cases a3 : h.hi i > 20
                  · rw [decide_eq_false a1, decide_eq_false a2, decide_eq_true a3] at hx2
                    cases hx2
                  · omega
            (repeat' (first | exact trivial | exact fun _ => rfl | exact rfl | refine And.intro ?_ ?_))
            all_goals first | (first | omega | exact u0 (by omega) | exact u1 (by omega) | exact u1 ⟨by omega, by omega⟩ | exact un (by omega) | exact fun hh => hh | exact fun hh => absurd hh (by decide) | exact fun hh => congrArg not hh | exact fun hh => Bool.noConfusion (show true = false from hh) | exact fun hh => Bool.noConfusion (show false = true from hh)) | skip
            refine ⟨i + 1, ⟨hlt', fun k hk => ?_⟩, by omega, ?_⟩
            · by_cases c : k = i
              · rw [c]
                exact ho
              · exact hall k (by omega)
            exact ent_tau [0, 1] ⟨by (repeat' (first | exact trivial | exact rfl | exact fun _ _ => rfl | exact fun _ _ _ _ => rfl | exact Or.inl rfl | exact Or.inr rfl | refine And.intro ?_ ?_)), by (repeat' (first | exact trivial | exact rfl | exact congrArg (SV.int .i64) (Int.natCast_succ _).symm | exact congrArg (SV.int .u64) (Int.natCast_succ _).symm | refine And.intro ?_ ?_)), rfl⟩
    · have e : i = h.n := by
        have := of_decide_eq_false hlt
        omega
      subst e
      rw [vb_yes ⟨hp, hn7, hall⟩] at hr
      subst hr
      (repeat' (first | exact trivial | exact fun _ => rfl | exact rfl | refine And.intro ?_ ?_))
      exact ent_tau [0] ⟨by (repeat' (first | exact trivial | exact rfl | exact fun _ _ => rfl | exact fun _ _ _ _ => rfl | exact Or.inl rfl | exact Or.inr rfl | refine And.intro ?_ ?_)), by (repeat' (first | exact trivial | exact rfl | exact congrArg (SV.int .i64) (Int.natCast_succ _).symm | exact congrArg (SV.int .u64) (Int.natCast_succ _).symm | refine And.intro ?_ ?_)), rfl⟩
end Go.Proofs.Ytgofhjihkinknaa
/-
  Plain law of horses, part 9.
-/
namespace Kuhn
namespace HD
set_option linter.unusedVariables false

/-! ### Plans with other numbers of horses: as they come -/
/-- At the first difference less, or none. -/
def LeX (n : Nat) (p q : Nat → Int) : Prop := ∀ i, i < n → (∀ k, k < i → p k = q k) → p i ≤ q i
theorem LeX.trans {n : Nat} {p q r : Nat → Int} (h : LeX n p q) (h' : LeX n q r) : LeX n p r := by
  intro i hi he
  have key : ∀ m, m ≤ i → ∀ k, k < m → p k = q k := by
    intro m
    induction m with
    | zero => intro _ k hk; omega
    | succ m ih =>
      intro hm k hk
      by_cases c : k = m
      · subst c
        have a := h k (by omega) (ih (by omega))
        have b := h' k (by omega) fun j hj => by rw [← ih (by omega) j hj]; exact he j (by omega)
        have := he k (by omega)
        omega
      · exact ih (by omega) k (by omega)
  have a := h i hi (key i (Nat.le_refl i))
  have b := h' i hi fun j hj => by rw [← key i (Nat.le_refl i) j hj]; exact he j hj
  omega
theorem LeX.same {n : Nat} {p q : Nat → Int} (h : LeX n p q) (h' : LeX n q p) : ∀ m, m ≤ n → ∀ k, k < m → p k = q k := by
  intro m
  induction m with
  | zero => intro _ k hk; omega
  | succ m ih =>
    intro hm k hk
    by_cases c : k = m
    · subst c
      have a := h k (by omega) (ih (by omega))
      have b := h' k (by omega) fun j hj => (ih (by omega) j hj).symm
      omega
    · exact ih (by omega) k (by omega)
end HD
end Kuhn
/-
  Plain law of horses, part 10.
-/
namespace Kuhn
namespace HD
set_option linter.unusedVariables false

/-! ### Fewer moves, other moves -/
theorem need_mono {h : HD} (hv : h.Valid) {s : Bool} {ok ok' : Nat → Bool} (hs : ∀ i, i < h.n → ok i = true → ok' i = true) : h.need s ok ≤ h.need s ok' := by
  obtain ⟨p, a, b⟩ := need_plan hv s ok'
  exact need_le hv (p := p) (fun i k hi hk oi ok'' hne e => b i k hi hk (hs i hi oi) (hs k hk ok'') hne e) fun i hi oi => a i hi (hs i hi oi)
theorem need_congr {h : HD} (hv : h.Valid) {s : Bool} {ok ok' : Nat → Bool} (hs : ∀ i, i < h.n → ok i = ok' i) : h.need s ok = h.need s ok' :=
  Nat.le_antisymm (need_mono hv fun i hi e => by rw [← hs i hi]; exact e) (need_mono hv fun i hi e => by rw [hs i hi]; exact e)
/-- The moves of one beach are some of those of another one. -/
structure Emb (x h : HD) (s : Bool) (e : Nat → Nat) : Prop where
  lt : ∀ a, a < x.n → e a < h.n
  inj : ∀ a b, a < x.n → b < x.n → e a = e b → a = b
  can : ∀ a b, a < x.n → b < x.n → x.can s a b = h.can s (e a) (e b)
def img (x : HD) (e : Nat → Nat) (j : Nat) : Bool := (List.range x.n).any fun a => decide (e a = j)
theorem img_iff {x : HD} {e : Nat → Nat} {j : Nat} : img x e j = true ↔ ∃ a, a < x.n ∧ e a = j := by
  simp [img]
theorem Emb.apart {x h : HD} {s : Bool} {e : Nat → Nat} (H : Emb x h s e) {a b : Nat} (ha : a < x.n) (hb : b < x.n) : x.apart s a b = h.apart s (e a) (e b) := by
  unfold HD.apart
  rw [H.can a b ha hb, H.can b a hb ha]
open Classical in
noncomputable def inv (x : HD) (e : Nat → Nat) (j : Nat) : Nat := if h : ∃ a, a < x.n ∧ e a = j then h.choose else 0
theorem inv_is {x : HD} {e : Nat → Nat} {j : Nat} (h : img x e j = true) : inv x e j < x.n ∧ e (inv x e j) = j := by
  have h' := img_iff.1 h
  unfold inv
  rw [dif_pos h']
  exact h'.choose_spec
theorem Emb.need {x h : HD} {s : Bool} {e : Nat → Nat} (H : Emb x h s e) (hx : x.Valid) (hv : h.Valid) : x.few s = h.need s (img x e) := by
  apply Nat.le_antisymm
  · obtain ⟨p, a, b⟩ := need_plan hv s (img x e)
    have im : ∀ a, a < x.n → img x e (e a) = true := fun a ha => img_iff.2 ⟨a, ha, rfl⟩
    exact need_le hx (p := fun i => p (e i)) (fun i k hi hk _ _ hne q => by
      rw [H.apart hi hk]
      exact b _ _ (H.lt i hi) (H.lt k hk) (im i hi) (im k hk) (fun c => hne (H.inj i k hi hk c)) q) fun i hi _ => a _ (H.lt i hi) (im i hi)
  · obtain ⟨p, a, b⟩ := need_plan hx s full
    refine need_le hv (p := fun j => p (inv x e j)) (fun i k hi hk oi ok' hne q => ?_) fun i hi oi => a _ (inv_is oi).1 rfl
    obtain ⟨i1, i2⟩ := inv_is oi
    obtain ⟨k1, k2⟩ := inv_is ok'
    have := b _ _ i1 k1 rfl rfl (fun c => hne (by rw [← i2, ← k2, c])) q
    rw [H.apart i1 k1, i2, k2] at this
    exact this
/-- The same moves, otherwise numbered. -/
theorem Emb.few {x h : HD} {s : Bool} {e : Nat → Nat} (H : Emb x h s e) (hx : x.Valid) (hv : h.Valid) (hall : ∀ j, j < h.n → ∃ a, a < x.n ∧ e a = j) : x.few s = h.few s := by
  rw [H.need hx hv]
  exact need_congr hv fun i hi => img_iff.2 (hall i hi)
end HD
end Kuhn
/-
  Contracts: far, fine, plans by numbers.
-/
namespace Go.Proofs.Ytgofhjihkinknaa
open Go Go.Sy Kuhn
set_option linter.unusedSimpArgs false
set_option maxRecDepth 100000
set_option maxHeartbeats 4000000
attribute [local irreducible] CallP CodeP Ent YieldP
attribute [local irreducible] HD.ch maskO

theorem lt64 {k : Int} (h : k < 64) : k < ((IntKind.bits .i64 : Nat) : Int) := h
theorem t14 (h : HD) : CallP Try.prog 14 [HD.A h, .snil] (HD.H h) (Ret (.bool (decide (40 < h.n))) (HD.H h)) := by
  refine callR (E := E) E_ok Try.func14 rfl ?_
  (repeat' (first | exact trivial | exact fun _ => rfl | exact rfl | refine And.intro ?_ ?_))
  all_goals first | (first | omega | exact u0 (by omega) | exact u1 (by omega) | exact u1 ⟨by omega, by omega⟩ | exact un (by omega) | exact fun hh => hh | exact fun hh => absurd hh (by decide) | exact fun hh => congrArg not hh | exact fun hh => Bool.noConfusion (show true = false from hh) | exact fun hh => Bool.noConfusion (show false = true from hh)) | skip
  refine ent_tau [0] ⟨by (repeat' (first | exact trivial | exact rfl | exact fun _ _ => rfl | exact fun _ _ _ _ => rfl | exact Or.inl rfl | exact Or.inr rfl | refine And.intro ?_ ?_)), ⟨rfl, ?_, trivial⟩, rfl⟩
  refine congrArg SV.bool ?_
  by_cases c : 40 < h.n
  · rw [decide_eq_true c]
    exact decide_eq_true (by split <;> omega)
  · rw [decide_eq_false c]
    exact decide_eq_false (by split <;> omega)
def BDF (y : PD) (k : Nat) : List SV := [.int .u8 (y.p k)]
def BOk (y : PD) : Prop := ∀ k, k < y.n → 0 ≤ y.p k ∧ y.p k ≤ 255
/-- A plan by numbers. -/
def mkP (y : PD) (i : Nat) : Int := if y.n = 0 then 0 else (y.p (i % y.n)).tmod 7
theorem mkP_rng {y : PD} (hy : BOk y) (i : Nat) : 0 ≤ mkP y i ∧ mkP y i ≤ 6 := by
  unfold mkP
  split
  · omega
  · rename_i h
    have := hy (i % y.n) (Nat.mod_lt _ (by omega))
    have a := Int.tmod_nonneg 7 this.1
    have b := Int.tmod_lt_of_pos (y.p (i % y.n)) (show (0 : Int) < 7 by omega)
    omega
def K34 (h : HD) (y : PD) : CE → SHeap → Prop := fun ce h' =>
  (h.n = 0 ∧ ce = .ret .snil ∧ h' = HD.H h ++ [some (.roa 1 y.n (BDF y))]) ∨
  (∃ k cap, h.n = k + 1 ∧ h.n ≤ cap ∧ cap ≤ 9223372036854775807 ∧ ce = .ret (.slice 2 1 0 (k + 1) cap) ∧ h' = HD.H h ++ [some (.roa 1 y.n (BDF y)), some (.arr 1 (k + 1) cap fun i => [.int .i64 (mkP y i)])])
theorem mk_eq {y : PD} (h : 0 < y.n) (k : Nat) : (y.p (0 + (((k : Nat) : Int).tmod (y.n : Nat)).toNat)).tmod 7 = mkP y k := by
  unfold mkP
  have e : ((k : Nat) : Int).tmod (y.n : Nat) = ((k % y.n : Nat) : Int) := by
    rw [Int.tmod_eq_emod_of_nonneg (by omega)]
    rfl
  rw [if_neg (by omega), e, Int.toNat_natCast, Nat.zero_add]
theorem mk_zero {y : PD} (h : y.n = 0) (k : Nat) : (0 : Int) = mkP y k := by
  unfold mkP
  rw [if_pos h]
theorem rem_lt {y : PD} (h : 0 < y.n) (k : Nat) : 0 ≤ (((k : Nat) : Int).tmod (y.n : Nat)) ∧ (((k : Nat) : Int).tmod (y.n : Nat)) < (y.n : Nat) :=
  ⟨Int.tmod_nonneg _ (by omega), Int.tmod_lt_of_pos _ (by omega)⟩
theorem app1 (f : Nat → Int) (k : Nat) (x : Int) (hx : x = f (k + 1)) : ∀ i, i < k + 1 + 1 → selL (decide (i < k + 1)) [SV.int .i64 (f i)] (getOf 1 (splice (repL 1 [SV.int .i64 0]) (0 * 1) [SV.int .i64 x]) (0 + (i - (k + 1)))) = [SV.int .i64 (f i)] := by
  intro i hi
  by_cases c : i < k + 1
  · rw [decide_eq_true c, selL_true]
  · have e : i = k + 1 := by omega
    subst e
    rw [decide_eq_false c, selL_false, Nat.sub_self, hx]
    rfl
theorem t34 (h : HD) (hv : h.Valid) (y : PD) (hy : BOk y) (hyn : y.n ≤ 9223372036854775807) : CallP Try.prog 34 [HD.A h, .osl y.b 1 1 y.n y.cap] (HD.H h ++ [some (.roa 1 y.n (BDF y))]) (K34 h y) := by
  have hn := hv.2.1
  refine callK (E := E) E_ok Try.func34 rfl ?_
  (repeat' (first | exact trivial | exact fun _ => rfl | exact rfl | refine And.intro ?_ ?_))
  refine loopP E_ok [1, 2, 9, 10] (fun g : Nat × Nat => match g.1 with | 0 => [(5, .snil), (11, .int .i64 0)] | k + 1 => [(5, .slice 3 1 0 (k + 1) g.2), (11, .int .i64 (k + 1 : Nat))])
    (fun g _ => match g.1 with | 0 => HD.H h ++ [some (.roa 1 y.n (BDF y)), some (.cells (bc h))] | k + 1 => HD.H h ++ [some (.roa 1 y.n (BDF y)), some (.cells (bc h)), some (.arr 1 (k + 1) g.2 fun i => [.int .i64 (mkP y i)])]) (fun g => g.1 ≤ h.n ∧ (0 < g.1 → g.1 ≤ g.2 ∧ g.2 ≤ 9223372036854775807)) (fun g => h.n - g.1) (0, 0) ⟨Nat.zero_le _, fun h => absurd h (Nat.lt_irrefl 0)⟩ ?_ ?_
  · exact ent_tau [0, 1, 2] ⟨by (repeat' (first | exact trivial | exact rfl | exact fun _ _ => rfl | exact fun _ _ _ _ => rfl | exact Or.inl rfl | exact Or.inr rfl | refine And.intro ?_ ?_)), by (repeat' (first | exact trivial | exact rfl | exact congrArg (SV.int .i64) (Int.natCast_succ _).symm | exact congrArg (SV.int .u64) (Int.natCast_succ _).symm | refine And.intro ?_ ?_)), rfl⟩
  rintro ⟨k, cap⟩ ⟨hk, hcap⟩
  simp only at hk hcap
  have hrem := fun h0 => rem_lt (y := y) h0 k
  have hmk := fun h0 => mk_eq (y := y) h0 k
  have hmz := fun h0 => mk_zero (y := y) h0 k
  cases k with
  | zero =>
    refine And.intro ?_ (And.intro (fun hc => ?_) (fun hc => ?_))
    · (repeat' (first | exact trivial | exact fun _ => rfl | exact rfl | refine And.intro ?_ ?_))
    · have hlt : 0 < h.n := by
        have := of_decide_eq_true hc
        omega
      (repeat' (first | exact trivial | exact fun _ => rfl | exact rfl | refine And.intro ?_ ?_))
      all_goals first | (first | omega | exact u0 (by omega) | exact u1 (by omega) | exact u1 ⟨by omega, by omega⟩ | exact un (by omega) | exact fun hh => hh | exact fun hh => absurd hh (by decide) | exact fun hh => congrArg not hh | exact fun hh => Bool.noConfusion (show true = false from hh) | exact fun hh => Bool.noConfusion (show false = true from hh)) | skip
      · intro hx
        have hy0 : 0 < y.n := by
          have hx2 : decide ((y.n : Int) > 0) = true := hx
          have := of_decide_eq_true hx2
          omega
        have hrm : 0 ≤ (0 : Int).tmod (y.n : Nat) ∧ (0 : Int).tmod (y.n : Nat) < (y.n : Nat) := hrem hy0
        have hr8 := hy (0 + ((0 : Int).tmod (y.n : Nat)).toNat) (by omega)
        (repeat' (first | exact trivial | exact fun _ => rfl | exact rfl | refine And.intro ?_ ?_))
        all_goals first | (first | omega | exact u0 (by omega) | exact u1 (by omega) | exact u1 ⟨by omega, by omega⟩ | exact un (by omega) | exact fun hh => hh | exact fun hh => absurd hh (by decide) | exact fun hh => congrArg not hh | exact fun hh => Bool.noConfusion (show true = false from hh) | exact fun hh => Bool.noConfusion (show false = true from hh)) | exact u0 (by omega) | decide | (show (_ : Int) ≤ _; omega) | skip
        intro c5 h51 h52
        (repeat' (first | exact trivial | exact fun _ => rfl | exact rfl | refine And.intro ?_ ?_))
        all_goals first | (first | omega | exact u0 (by omega) | exact u1 (by omega) | exact u1 ⟨by omega, by omega⟩ | exact un (by omega) | exact fun hh => hh | exact fun hh => absurd hh (by decide) | exact fun hh => congrArg not hh | exact fun hh => Bool.noConfusion (show true = false from hh) | exact fun hh => Bool.noConfusion (show false = true from hh)) | exact u0 (by omega) | skip
        refine ⟨(0 + 1, c5), ⟨hlt, fun _ => ⟨h51, h52⟩⟩, by simp only; omega, ?_⟩
        refine ent_tau [0, 1, 2, 4] ⟨?_, by (repeat' (first | exact trivial | exact rfl | exact congrArg (SV.int .i64) (Int.natCast_succ _).symm | exact congrArg (SV.int .u64) (Int.natCast_succ _).symm | refine And.intro ?_ ?_)), rfl⟩
        (repeat' (first | exact trivial | exact rfl | exact fun _ _ => rfl | exact fun _ _ _ _ => rfl | exact Or.inl rfl | exact Or.inr rfl | refine And.intro ?_ ?_))
        exact fun i hi => by
          have h0 : i = 0 := Nat.lt_one_iff.1 hi
          subst h0
          exact congrArg (fun z => [SV.int .i64 z]) (hmk hy0)
      · intro hx
        have hy0 : y.n = 0 := by
          have hx2 : decide ((y.n : Int) > 0) = false := hx
          have := of_decide_eq_false hx2
          omega
        (repeat' (first | exact trivial | exact fun _ => rfl | exact rfl | refine And.intro ?_ ?_))
        all_goals first | (first | omega | exact u0 (by omega) | exact u1 (by omega) | exact u1 ⟨by omega, by omega⟩ | exact un (by omega) | exact fun hh => hh | exact fun hh => absurd hh (by decide) | exact fun hh => congrArg not hh | exact fun hh => Bool.noConfusion (show true = false from hh) | exact fun hh => Bool.noConfusion (show false = true from hh)) | decide | skip
        intro c5 h51 h52
        (repeat' (first | exact trivial | exact fun _ => rfl | exact rfl | refine And.intro ?_ ?_))
        all_goals first | (first | omega | exact u0 (by omega) | exact u1 (by omega) | exact u1 ⟨by omega, by omega⟩ | exact un (by omega) | exact fun hh => hh | exact fun hh => absurd hh (by decide) | exact fun hh => congrArg not hh | exact fun hh => Bool.noConfusion (show true = false from hh) | exact fun hh => Bool.noConfusion (show false = true from hh)) | exact u0 (by omega) | skip
        refine ⟨(0 + 1, c5), ⟨hlt, fun _ => ⟨h51, h52⟩⟩, by simp only; omega, ?_⟩
        refine ent_tau [0, 1, 2, 4] ⟨?_, by (repeat' (first | exact trivial | exact rfl | exact congrArg (SV.int .i64) (Int.natCast_succ _).symm | exact congrArg (SV.int .u64) (Int.natCast_succ _).symm | refine And.intro ?_ ?_)), rfl⟩
        (repeat' (first | exact trivial | exact rfl | exact fun _ _ => rfl | exact fun _ _ _ _ => rfl | exact Or.inl rfl | exact Or.inr rfl | refine And.intro ?_ ?_))
        exact fun i hi => by
          have h0 : i = 0 := Nat.lt_one_iff.1 hi
          subst h0
          exact congrArg (fun z => [SV.int .i64 z]) ((show Int.tmod 0 7 = 0 by decide).trans (hmz hy0))
    · have h0 : h.n = 0 := by
        have := of_decide_eq_false hc
        omega
      (repeat' (first | exact trivial | exact fun _ => rfl | exact rfl | refine And.intro ?_ ?_))
      refine ⟨.ret .snil, _, .inl ⟨h0, rfl, rfl⟩, ?_⟩
      exact ent_tau [0, 1] ⟨by (repeat' (first | exact trivial | exact rfl | exact fun _ _ => rfl | exact fun _ _ _ _ => rfl | exact Or.inl rfl | exact Or.inr rfl | refine And.intro ?_ ?_)), by (repeat' (first | exact trivial | exact rfl | exact congrArg (SV.int .i64) (Int.natCast_succ _).symm | exact congrArg (SV.int .u64) (Int.natCast_succ _).symm | refine And.intro ?_ ?_)), rfl⟩
  | succ k =>
    refine And.intro ?_ (And.intro (fun hc => ?_) (fun hc => ?_))
    · (repeat' (first | exact trivial | exact fun _ => rfl | exact rfl | refine And.intro ?_ ?_))
    · have hlt : k + 1 < h.n := by
        have := of_decide_eq_true hc
        omega
      obtain ⟨hc1, hc2⟩ := hcap (by omega)
      (repeat' (first | exact trivial | exact fun _ => rfl | exact rfl | refine And.intro ?_ ?_))
      all_goals first | (first | omega | exact u0 (by omega) | exact u1 (by omega) | exact u1 ⟨by omega, by omega⟩ | exact un (by omega) | exact fun hh => hh | exact fun hh => absurd hh (by decide) | exact fun hh => congrArg not hh | exact fun hh => Bool.noConfusion (show true = false from hh) | exact fun hh => Bool.noConfusion (show false = true from hh)) | skip
      · intro hx
        have hy0 : 0 < y.n := by
          have hx2 : decide ((y.n : Int) > 0) = true := hx
          have := of_decide_eq_true hx2
          omega
        have hrm := hrem hy0
        have hr8 := hy (0 + ((((k + 1 : Nat) : Int)).tmod (y.n : Nat)).toNat) (by omega)
        (repeat' (first | exact trivial | exact fun _ => rfl | exact rfl | refine And.intro ?_ ?_))
        all_goals first | (first | omega | exact u0 (by omega) | exact u1 (by omega) | exact u1 ⟨by omega, by omega⟩ | exact un (by omega) | exact fun hh => hh | exact fun hh => absurd hh (by decide) | exact fun hh => congrArg not hh | exact fun hh => Bool.noConfusion (show true = false from hh) | exact fun hh => Bool.noConfusion (show false = true from hh)) | exact u0 (by omega) | decide | (show _ * 8 ≤ 140737488355328; omega) | exact (fun k hk => by have h0 : k = 0 := Nat.lt_one_iff.1 hk; subst h0; rfl) | skip
        intro c5 h51 h52
        (repeat' (first | exact trivial | exact fun _ => rfl | exact rfl | refine And.intro ?_ ?_))
        all_goals first | (first | omega | exact u0 (by omega) | exact u1 (by omega) | exact u1 ⟨by omega, by omega⟩ | exact un (by omega) | exact fun hh => hh | exact fun hh => absurd hh (by decide) | exact fun hh => congrArg not hh | exact fun hh => Bool.noConfusion (show true = false from hh) | exact fun hh => Bool.noConfusion (show false = true from hh)) | exact u0 (by omega) | skip
        refine ⟨(k + 1 + 1, c5), ⟨hlt, fun _ => ⟨h51, h52⟩⟩, by simp only; omega, ?_⟩
        refine ent_tau [0, 1, 2, 5] ⟨?_, by (repeat' (first | exact trivial | exact rfl | exact congrArg (SV.int .i64) (Int.natCast_succ _).symm | exact congrArg (SV.int .u64) (Int.natCast_succ _).symm | refine And.intro ?_ ?_)), rfl⟩
        (repeat' (first | exact trivial | exact rfl | exact fun _ _ => rfl | exact fun _ _ _ _ => rfl | exact Or.inl rfl | exact Or.inr rfl | refine And.intro ?_ ?_))
        exact app1 _ k _ (hmk hy0)
      · intro hx
        have hy0 : y.n = 0 := by
          have hx2 : decide ((y.n : Int) > 0) = false := hx
          have := of_decide_eq_false hx2
          omega
        (repeat' (first | exact trivial | exact fun _ => rfl | exact rfl | refine And.intro ?_ ?_))
        all_goals first | (first | omega | exact u0 (by omega) | exact u1 (by omega) | exact u1 ⟨by omega, by omega⟩ | exact un (by omega) | exact fun hh => hh | exact fun hh => absurd hh (by decide) | exact fun hh => congrArg not hh | exact fun hh => Bool.noConfusion (show true = false from hh) | exact fun hh => Bool.noConfusion (show false = true from hh)) | exact u0 (by omega) | decide | (show _ * 8 ≤ 140737488355328; omega) | exact (fun k hk => by have h0 : k = 0 := Nat.lt_one_iff.1 hk; subst h0; rfl) | skip
        intro c5 h51 h52
        (repeat' (first | exact trivial | exact fun _ => rfl | exact rfl | refine And.intro ?_ ?_))
        all_goals first | (first | omega | exact u0 (by omega) | exact u1 (by omega) | exact u1 ⟨by omega, by omega⟩ | exact un (by omega) | exact fun hh => hh | exact fun hh => absurd hh (by decide) | exact fun hh => congrArg not hh | exact fun hh => Bool.noConfusion (show true = false from hh) | exact fun hh => Bool.noConfusion (show false = true from hh)) | exact u0 (by omega) | skip
        refine ⟨(k + 1 + 1, c5), ⟨hlt, fun _ => ⟨h51, h52⟩⟩, by simp only; omega, ?_⟩
        refine ent_tau [0, 1, 2, 5] ⟨?_, by (repeat' (first | exact trivial | exact rfl | exact congrArg (SV.int .i64) (Int.natCast_succ _).symm | exact congrArg (SV.int .u64) (Int.natCast_succ _).symm | refine And.intro ?_ ?_)), rfl⟩
        (repeat' (first | exact trivial | exact rfl | exact fun _ _ => rfl | exact fun _ _ _ _ => rfl | exact Or.inl rfl | exact Or.inr rfl | refine And.intro ?_ ?_))
        exact app1 _ k _ ((show Int.tmod 0 7 = 0 by decide).trans (hmz hy0))
    · have h0 : h.n = k + 1 := by
        have := of_decide_eq_false hc
        omega
      obtain ⟨hc1, hc2⟩ := hcap (by omega)
      (repeat' (first | exact trivial | exact fun _ => rfl | exact rfl | refine And.intro ?_ ?_))
      refine ⟨.ret (.slice 2 1 0 (k + 1) cap), _, .inr ⟨k, cap, h0, by omega, hc2, rfl, rfl⟩, ?_⟩
      exact ent_tau [0, 1, 3] ⟨by (repeat' (first | exact trivial | exact rfl | exact fun _ _ => rfl | exact fun _ _ _ _ => rfl | exact Or.inl rfl | exact Or.inr rfl | refine And.intro ?_ ?_)), by (repeat' (first | exact trivial | exact rfl | exact congrArg (SV.int .i64) (Int.natCast_succ _).symm | exact congrArg (SV.int .u64) (Int.natCast_succ _).symm | refine And.intro ?_ ?_)), rfl⟩
end Go.Proofs.Ytgofhjihkinknaa
/-
  HorseCheck.
-/
namespace Go.Proofs.Ytgofhjihkinknaa
open Go Go.Sy Kuhn
set_option linter.unusedSimpArgs false
set_option maxRecDepth 100000
set_option maxHeartbeats 4000000
attribute [local irreducible] CallP CodeP Ent YieldP
attribute [local irreducible] HD.ch maskO

/-- Whether a move can follow another one. -/
def fv (h : HD) (i k : Nat) : Int := if h.can true i k = true then 2 else if h.can false i k = true then 1 else 0
theorem fol_in {h : HD} (hv : h.Valid) {i k : Nat} (hi : i < h.n) (hk : k < h.n) : HD.fol h (i : Nat) (k : Nat) = (fv h i k, 0) := by
  unfold HD.fol fv
  rw [if_pos hv, if_pos ⟨inB_iff.2 (by omega), inB_iff.2 (by omega)⟩]
  simp only [Int.toNat_natCast]
theorem t16i (h : HD) (hv : h.Valid) (i k : Nat) (hi : i < h.n) (hk : k < h.n) : CallP Try.prog 16 [HD.A h, .int .i64 i, .int .i64 k] (HD.H h) (Ret (.tup [.int .i64 (fv h i k), .int .i64 0]) (HD.H h)) := by
  have := t16 h i k
  rw [fol_in hv hi hk] at this
  exact this
def Hm (h : HD) (y pl : PD) : SHeap := HD.H h ++ [some (.roa 1 y.n (BDF y)), some (.cells (bc h)), some (.roa 1 pl.n (PD.F pl))]
end Go.Proofs.Ytgofhjihkinknaa
/-
  HorseCheck, and what is alike where plans are made by numbers.
-/
namespace Go.Proofs.Ytgofhjihkinknaa
open Go Go.Sy Kuhn
set_option linter.unusedSimpArgs false
set_option maxRecDepth 100000
set_option maxHeartbeats 4000000
attribute [local irreducible] CallP CodeP Ent YieldP
attribute [local irreducible] HD.ch maskO

theorem entPlan0 {n : Nat} {s : Go.Sy.St} {T T' : Tm} {H : SHeap} {D : List SV} {i sz0 m0 : Nat} {get0 : Nat → List SV} {sz : Nat} {get : Nat → List SV} (h : Ent n s ⟨T, H, D⟩) (hT : TmEq T T') (hi : H[i]? = some (some (.roa sz0 m0 get0))) : Ent n s ⟨T', H ++ [some (.roa sz 0 get)], D⟩ := entAliasR (entTmR h hT) hi
/-- The plan that is made. -/
def mkD (y : PD) (n : Nat) (b : Bool) (cap : Nat) : PD := ⟨n, mkP y, b, cap⟩
theorem pok_mk {h : HD} {y : PD} (hy : BOk y) {n : Nat} (hn : n = h.n) (b : Bool) (cap : Nat) : pok h (mkD y n b cap) = true := by
  subst hn
  unfold pok
  have e : bad (mkD y h.n b cap).p (mkD y h.n b cap).n = false := bad_iff.2 fun k _ => mkP_rng hy k
  rw [e]
  simp [mkD]
end Go.Proofs.Ytgofhjihkinknaa
/-
  Plain law: sets as signed numbers.
-/
namespace Go.Proofs.Ytgofhjihkinknaa
open Go Go.Sy Kuhn
set_option maxRecDepth 100000

theorem wrap64 (x : Nat) (h : x < 2 ^ 63) : IntKind.wrap .i64 (x : Int) = x := wrap_in (k := .i64) ⟨by omega, by omega⟩
theorem and64 {a b : Nat} (ha : a < 2 ^ 63) (hb : b < 2 ^ 64) : bitOp .and .i64 (a : Int) (b : Int) = ((a &&& b : Nat) : Int) := by
  show IntKind.wrap .i64 ((BitVec.ofInt 64 (a : Int) &&& BitVec.ofInt 64 (b : Int)).toNat : Int) = _
  rw [ofInt_nat, ofInt_nat, BitVec.toNat_and, BitVec.toNat_ofNat, BitVec.toNat_ofNat, Nat.mod_eq_of_lt (by omega), Nat.mod_eq_of_lt hb]
  exact wrap64 _ (Nat.lt_of_le_of_lt Nat.and_le_left ha)
theorem has0 {S n : Nat} (hS : S < 2 ^ 63) : decide (bitOp .and .i64 ((S : Int).fdiv (2 ^ n)) 1 = 0) = !S.testBit n := by
  have e : (S : Int).fdiv (2 ^ n) = ((S / 2 ^ n : Nat) : Int) := by
    rw [Int.fdiv_eq_ediv_of_nonneg _ (by have := Nat.pow_pos (n := n) (show 0 < 2 by omega); exact_mod_cast Nat.zero_le _)]
    norm_cast
  have h1 : S / 2 ^ n < 2 ^ 63 := Nat.lt_of_le_of_lt (Nat.div_le_self _ _) hS
  have e2 := and64 (a := S / 2 ^ n) (b := 1) h1 (by decide)
  rw [e]
  have e3 : bitOp .and .i64 ((S / 2 ^ n : Nat) : Int) 1 = ((S / 2 ^ n &&& 1 : Nat) : Int) := e2
  rw [e3, Nat.and_one_is_mod, Nat.testBit_eq_decide_div_mod_eq]
  by_cases c : S / 2 ^ n % 2 = 1
  · rw [decide_eq_true c, decide_eq_false (by omega)]
    rfl
  · rw [decide_eq_false c, decide_eq_true (by omega)]
    rfl
end Go.Proofs.Ytgofhjihkinknaa
/-
  Contracts of the document's answer: when a move begins.
-/
namespace Go.Proofs.Ytgofhjihkinknaa
open Go Go.Sy Kuhn
set_option linter.unusedSimpArgs false
set_option maxRecDepth 100000
set_option maxHeartbeats 4000000
attribute [local irreducible] CallP CodeP Ent YieldP
attribute [local irreducible] HD.ch maskO

def lastV : Option Nat → Int
  | none => -1
  | some m => (m : Nat)
end Go.Proofs.Ytgofhjihkinknaa
