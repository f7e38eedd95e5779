/-
  Parts: Plans, A1, A2, A3, A4, A5, A6.
-/
import Derived.Test.YtipbempkngfdbaaGreatDoorK9
import Derived.Test.YtipbempkngfdbaaGreatDoorK12
import Derived.Test.YtipbempkngfdbaaGreatDoorK10
set_option linter.unusedVariables false
/-
  The plans of the regions that draw their order: printed by a program.
-/
namespace Go.Proofs.YtipbempkngfdbaaGreatDoor
open Go Go.Sy
def pl5_10 : Plan := .eager 0 <| .alt 1 (.eager 2 <| .eager 3 <| .eager 4 <| .eager 5 <| .eager 6 <| .eager 7 <| .eager 8 <| .alt 9 (.eager 10 <| .eager 11 <| .eager 12 <| .eager 13 <| .eager 14 <| .eager 15 <| .eager 16 <| .eager 17 <| .alt 18 (.eager 19 <| .eager 20 <| .eager 21 <| .eager 22 <| .eager 23 <| .eager 24 <| .eager 25 <| .eager 26 <| .alt 27 (.alt 28 (.alt 29 (.alt 30 (.eager 31 <| .eager 32 <| .eager 33 <| .eager 34 <| .eager 35 <| .eager 36 <| .eager 37 <| .eager 38 <| .eager 39 <| .eager 40 <| .eager 41 <| .eager 42 <| .eager 43 <| .eager 44 <| .eager 45 <| .eager 46 <| .eager 47 <| .eager 48 <| .eager 49 <| .eager 50 <| .eager 51 <| .eager 52 <| .eager 53 <| .eager 54 <| .eager 55 <| .eager 56 <| .eager 57 <| .eager 58 <| .eager 59 <| .eager 60 <| .eager 61 <| .eager 62 <| .eager 63 <| .eager 64 <| .eager 65 <| .eager 66 <| .eager 67 <| .eager 68 <| .eager 69 <| .eager 70 <| .eager 71 <| .eager 72 <| .eager 73 <| .eager 74 <| .eager 75 <| .eager 76 <| .eager 77 <| .eager 78 <| .eager 79 <| .eager 80 <| .eager 81 <| .eager 82 <| .eager 83 <| .eager 84 <| .done) .no) .no) .no) .no) .no) .no) .no
def pl8_3 : Plan := .eager 0 <| .eager 1 <| .eager 3 <| .eager 4 <| .alt 2 (.alt 5 (.alt 6 (.alt 7 (.done) .no) .no) .no) .no
def pl14_4 : Plan := .eager 0 <| .eager 1 <| .alt 2 (.alt 3 (.done) .no) .no
def pl19_9 : Plan := .eager 0 <| .eager 1 <| .eager 2 <| .eager 3 <| .eager 4 <| .eager 5 <| .eager 6 <| .eager 7 <| .eager 8 <| .eager 9 <| .eager 10 <| .eager 11 <| .eager 12 <| .eager 13 <| .eager 14 <| .done
def pl19_14 : Plan := .eager 0 <| .eager 1 <| .eager 2 <| .eager 3 <| .eager 4 <| .alt 5 (.eager 6 <| .eager 7 <| .eager 8 <| .eager 9 <| .eager 10 <| .eager 11 <| .eager 12 <| .eager 13 <| .eager 14 <| .eager 15 <| .eager 16 <| .eager 17 <| .eager 18 <| .eager 19 <| .eager 20 <| .eager 21 <| .eager 22 <| .done) .no
def pl25_6 : Plan := .eager 0 <| .eager 1 <| .eager 2 <| .eager 3 <| .eager 4 <| .eager 5 <| .eager 6 <| .eager 7 <| .eager 8 <| .done
def pl28_6 : Plan := .eager 0 <| .eager 1 <| .alt 2 (.eager 3 <| .eager 4 <| .eager 5 <| .eager 6 <| .alt 7 (.eager 8 <| .eager 9 <| .eager 10 <| .eager 11 <| .eager 12 <| .eager 13 <| .eager 14 <| .eager 15 <| .eager 16 <| .eager 17 <| .eager 18 <| .eager 19 <| .eager 20 <| .eager 21 <| .eager 22 <| .eager 23 <| .eager 24 <| .eager 25 <| .alt 26 (.done) .no) .no) .no
def pl30_1 : Plan := .eager 0 <| .eager 1 <| .eager 2 <| .eager 3 <| .eager 4 <| .eager 5 <| .eager 6 <| .eager 7 <| .eager 8 <| .eager 9 <| .alt 10 (.alt 11 (.eager 12 <| .done) .no) .no
def pl34_2 : Plan := .eager 0 <| .eager 1 <| .eager 2 <| .eager 3 <| .eager 4 <| .alt 5 (.eager 6 <| .eager 7 <| .eager 8 <| .eager 9 <| .eager 10 <| .done) .no
def pl34_6 : Plan := .eager 0 <| .eager 1 <| .eager 2 <| .eager 3 <| .eager 4 <| .eager 5 <| .eager 6 <| .eager 7 <| .eager 8 <| .eager 9 <| .eager 10 <| .eager 11 <| .eager 12 <| .eager 13 <| .eager 14 <| .eager 15 <| .eager 16 <| .eager 17 <| .eager 18 <| .eager 19 <| .eager 20 <| .eager 21 <| .eager 22 <| .eager 23 <| .eager 24 <| .eager 25 <| .eager 26 <| .eager 27 <| .eager 28 <| .eager 29 <| .eager 30 <| .eager 31 <| .done
def pl34_7 : Plan := .eager 0 <| .eager 1 <| .eager 2 <| .eager 3 <| .eager 4 <| .eager 5 <| .eager 6 <| .eager 7 <| .eager 8 <| .eager 9 <| .eager 10 <| .eager 11 <| .eager 12 <| .eager 13 <| .done
def pl34_10 : Plan := .eager 0 <| .eager 1 <| .eager 2 <| .eager 3 <| .eager 4 <| .eager 5 <| .eager 6 <| .eager 7 <| .eager 8 <| .eager 9 <| .eager 10 <| .eager 11 <| .eager 12 <| .done
def pl34_11 : Plan := .eager 0 <| .eager 1 <| .eager 2 <| .eager 3 <| .eager 4 <| .eager 5 <| .eager 6 <| .eager 7 <| .eager 8 <| .eager 9 <| .eager 10 <| .eager 11 <| .eager 12 <| .eager 13 <| .eager 14 <| .eager 15 <| .eager 16 <| .eager 17 <| .eager 18 <| .eager 19 <| .eager 20 <| .eager 21 <| .eager 22 <| .alt 23 (.done) .no
def pl34_12 : Plan := .eager 0 <| .eager 1 <| .eager 2 <| .eager 3 <| .eager 4 <| .alt 5 (.eager 6 <| .done) .no
def pl36_1 : Plan := .eager 0 <| .eager 1 <| .eager 2 <| .eager 3 <| .eager 4 <| .eager 5 <| .eager 6 <| .eager 7 <| .eager 8 <| .eager 9 <| .eager 10 <| .eager 11 <| .eager 12 <| .eager 13 <| .eager 14 <| .eager 15 <| .eager 16 <| .eager 17 <| .eager 18 <| .eager 19 <| .alt 20 (.eager 21 <| .eager 22 <| .done) .no
def pl38_6 : Plan := .eager 0 <| .eager 1 <| .eager 2 <| .eager 3 <| .eager 4 <| .eager 5 <| .eager 6 <| .eager 7 <| .eager 8 <| .eager 9 <| .eager 10 <| .eager 11 <| .eager 12 <| .eager 13 <| .eager 14 <| .done
def pl38_11 : Plan := .eager 0 <| .eager 1 <| .eager 2 <| .eager 3 <| .eager 4 <| .eager 5 <| .eager 6 <| .eager 7 <| .eager 8 <| .eager 9 <| .eager 10 <| .eager 11 <| .done
def pl38_12 : Plan := .eager 0 <| .eager 1 <| .eager 2 <| .eager 3 <| .eager 4 <| .eager 5 <| .eager 6 <| .eager 7 <| .eager 8 <| .eager 9 <| .eager 10 <| .eager 11 <| .eager 12 <| .eager 13 <| .eager 14 <| .eager 15 <| .done
def pl38_13 : Plan := .eager 0 <| .eager 1 <| .eager 2 <| .eager 3 <| .eager 4 <| .eager 5 <| .eager 6 <| .eager 7 <| .eager 8 <| .eager 9 <| .eager 10 <| .eager 11 <| .eager 12 <| .eager 13 <| .eager 14 <| .eager 15 <| .eager 16 <| .eager 17 <| .eager 18 <| .eager 19 <| .eager 20 <| .eager 21 <| .eager 22 <| .eager 23 <| .eager 24 <| .done
def pl52_11 : Plan := .eager 0 <| .eager 1 <| .eager 2 <| .eager 3 <| .eager 4 <| .eager 5 <| .eager 6 <| .eager 7 <| .eager 8 <| .eager 9 <| .alt 10 (.done) .no
def pl52_13 : Plan := .eager 0 <| .eager 1 <| .eager 2 <| .eager 3 <| .eager 4 <| .eager 6 <| .eager 7 <| .eager 8 <| .eager 9 <| .eager 10 <| .eager 11 <| .eager 12 <| .eager 13 <| (.alt 5 (.alt 14 (.eager 15 <| .alt 16 (.done) .no) .no) (.alt 14 (.alt 5 (.eager 15 <| .alt 16 (.done) .no) .no) .no))
def pl56_1 : Plan := .eager 0 <| .eager 1 <| .eager 2 <| .eager 3 <| .eager 5 <| .eager 6 <| .eager 7 <| .eager 8 <| .eager 9 <| .alt 4 (.eager 10 <| .eager 11 <| .eager 12 <| .done) .no
def pl63_1 : Plan := .eager 0 <| .eager 1 <| .alt 2 (.alt 3 (.eager 4 <| .done) .no) .no
def pl72_1 : Plan := .eager 0 <| .eager 1 <| .eager 2 <| .eager 3 <| .eager 4 <| .eager 5 <| .eager 6 <| .eager 7 <| .eager 8 <| .eager 9 <| .eager 10 <| .eager 11 <| .eager 12 <| .eager 13 <| .eager 14 <| .eager 15 <| .done
def pl77_2 : Plan := .eager 0 <| .eager 1 <| .eager 2 <| .eager 3 <| .eager 4 <| .eager 5 <| .eager 7 <| .alt 6 (.eager 8 <| .alt 9 (.eager 10 <| .eager 11 <| .alt 12 (.done) .no) .no) .no
def pl83_1 : Plan := .eager 0 <| .eager 1 <| .eager 2 <| .eager 3 <| .eager 4 <| .alt 5 (.eager 6 <| .eager 7 <| .eager 8 <| .eager 9 <| .eager 10 <| .done) .no
def pl91_6 : Plan := .eager 0 <| .eager 1 <| .eager 2 <| .eager 3 <| .eager 5 <| .eager 6 <| .alt 4 (.alt 7 (.eager 8 <| .done) .no) .no
def pl93_11 : Plan := .eager 0 <| .eager 1 <| .eager 2 <| .eager 3 <| .eager 4 <| .eager 5 <| .eager 6 <| .eager 8 <| .eager 9 <| .eager 10 <| .eager 11 <| .alt 7 (.alt 12 (.eager 13 <| .eager 14 <| .done) .no) .no
def pl96_6 : Plan := .eager 0 <| .eager 2 <| .eager 3 <| .alt 1 (.alt 4 (.eager 5 <| .eager 6 <| .done) .no) .no
def pl96_14 : Plan := .eager 0 <| .eager 1 <| .eager 2 <| .eager 3 <| .eager 4 <| .eager 5 <| .eager 6 <| .eager 7 <| .eager 8 <| .alt 9 (.alt 10 (.done) .no) .no
def pl103_5 : Plan := .eager 0 <| .eager 1 <| .alt 2 (.eager 3 <| .eager 4 <| .eager 5 <| .eager 6 <| .eager 7 <| .eager 8 <| .eager 9 <| .eager 11 <| .eager 12 <| .eager 13 <| .eager 14 <| .eager 15 <| .eager 16 <| .alt 10 (.alt 17 (.eager 18 <| .eager 19 <| .done) .no) .no) .no
end Go.Proofs.YtipbempkngfdbaaGreatDoor
/-
  Contracts of small functions.
-/
namespace Go.Proofs.YtipbempkngfdbaaGreatDoor
open Go Go.Sy
set_option linter.unusedSimpArgs false
set_option maxRecDepth 100000

theorem inR_iff (n : Int) : InR .i64 n ↔ -9223372036854775808 ≤ n ∧ n ≤ 9223372036854775807 := by
  exact Iff.rfl
/-- A number from one to another one. -/
def inB (n lo hi : Int) : Bool := decide (lo ≤ n) && decide (n ≤ hi)
theorem inB_iff {n lo hi : Int} : inB n lo hi = true ↔ lo ≤ n ∧ n ≤ hi := by simp [inB]
/-- A span of heights. -/
def hiB (lo hi : Int) : Bool := decide (0 ≤ lo) && (decide (lo ≤ hi) && decide (hi ≤ 60))
attribute [local irreducible] CallP CodeP Ent

theorem t90 (n lo hi : Int) : CallP Tryz.prog 53 [.int .i64 n, .int .i64 lo, .int .i64 hi] [] (Ret (.bool (inB n lo hi)) []) := by
  refine callP_enter (E := E) E_ok Tryz.func53 rfl ?_
  refine And.intro ?_ ?_
  · simp [AllP, under, gB, wB]
  · refine And.intro (congrArg (fun b => CE.ret (SV.bool b)) ?_) rfl
    unfold inB
    cases decide (lo ≤ n) <;> rfl
theorem t91 (n lo hi : Int) : CallP Tryz.prog 55 [.int .i64 n, .int .i64 lo, .int .i64 hi] [] (Ret (.bool (inB n lo hi)) []) := by
  refine callP_enter (E := E) E_ok Tryz.func55 rfl ?_
  refine And.intro ?_ ?_
  · simp [AllP, under, gB, wB]
  · refine And.intro (congrArg (fun b => CE.ret (SV.bool b)) ?_) rfl
    unfold inB
    cases decide (lo ≤ n) <;> rfl
theorem t92 (lo hi : Int) : CallP Tryz.prog 67 [.agg [.int .i64 lo, .int .i64 hi]] [] (Ret (.bool (hiB lo hi)) []) := by
  refine callR (E := E) E_ok Tryz.func67 rfl ?_
  refine And.intro ?_ ?_
  · simp [AllP, under, gB, wB]
  · refine ent_tau [] ⟨trivial, ⟨rfl, congrArg SV.bool ?_, trivial⟩, rfl⟩
    unfold hiB
    cases decide (0 ≤ lo) <;> cases decide (lo ≤ hi) <;> rfl
theorem t96 (lo hi : Int) : CallP Tryz.prog 82 [.agg [.int .i64 lo, .int .i64 hi]] [] (Ret (.bool (hiB lo hi)) []) := by
  refine callR (E := E) E_ok Tryz.func82 rfl ?_
  refine And.intro ?_ ?_
  · simp [AllP, under, gB, wB]
  · refine ent_tau [] ⟨trivial, ⟨rfl, congrArg SV.bool ?_, trivial⟩, rfl⟩
    unfold hiB
    cases decide (0 ≤ lo) <;> cases decide (lo ≤ hi) <;> rfl
theorem t47 (n : Int) : CallP Tryz.prog 51 [.int .i64 n] [] (Ret (.bool (inB n 0 60)) []) := by
  refine callP_enter (E := E) E_ok Tryz.func51 rfl ?_
  refine And.intro ?_ ?_
  · simp [AllP, under, gB, wB]
  · refine (t90 _ _ _).use [] ?_ trivial rfl
    refine And.intro ?_ ?_
    · simp [AllP, under, gB, wB]
    · exact And.intro rfl rfl
theorem t109 (n : Nat) (hn : n ≤ 62) : CallP Tryz.prog 57 [.int .i64 n] [] (Ret (.int .i64 (2 ^ n)) []) := by
  refine callP_enter (E := E) E_ok Tryz.func57 rfl ?_
  refine And.intro ?_ ?_
  · simp [AllP, under, gB, wB]
  refine loopP E_ok [0] (fun i : Nat => [(3, .int .i64 (2 ^ i)), (4, .int .i64 i)]) (fun _ h => h) (fun i => i ≤ n) (fun i => n - i) 0 (Nat.zero_le _) ?_ ?_
  · refine ent_tau [] ⟨trivial, ?_, rfl⟩
    refine ⟨rfl, rfl, rfl, rfl, rfl, rfl, trivial⟩
  · intro i hi
    refine And.intro ?_ (And.intro (fun hc => ?_) (fun hc => ?_))
    · simp [AllP, under, gB, wB]
    · have hlt : i < n := by simpa using hc
      have hp : (2 : Int) ^ i ≤ 2 ^ 61 := by
        have : (2 : Nat) ^ i ≤ 2 ^ 61 := Nat.pow_le_pow_right (by omega) (by omega)
        exact_mod_cast this
      have hp0 : (0 : Int) < 2 ^ i := by
        have : (0 : Nat) < 2 ^ i := Nat.pow_pos (by omega)
        exact_mod_cast this
      refine And.intro ?_ ⟨i + 1, hlt, by omega, ?_⟩
      · simp only [AllP, under, gB, wB, inR_iff, and_true, true_and, List.nil_append, Option.getD_none, true_implies, forall_const]
        have e61 : (2 : Int) ^ 61 = 2305843009213693952 := by decide
        rw [e61] at hp
        omega
      · refine ent_tau [] ⟨trivial, ?_, rfl⟩
        refine ⟨rfl, rfl, rfl, ?_, rfl, ?_, trivial⟩
        · refine congrArg (SV.int .i64) ?_
          rw [Int.pow_succ]; omega
        · refine congrArg (SV.int .i64) ?_
          exact (Int.natCast_succ i).symm
    · have hlt : i = n := by have : ¬ (i < n) := by simpa using hc
                             omega
      subst hlt
      refine And.intro ?_ (And.intro ?_ ?_)
      · simp [AllP, under, gB, wB]
      · trivial
      · exact And.intro rfl rfl
end Go.Proofs.YtipbempkngfdbaaGreatDoor
/-
  The specification's test of a tide.
-/
namespace Go.Proofs.YtipbempkngfdbaaGreatDoor
open Go Go.Sy
set_option linter.unusedSimpArgs false
set_option maxRecDepth 100000
set_option maxHeartbeats 4000000

/-- A tide's numbers. -/
structure TD where
  nM : Nat
  nS : Nat
  nL : Nat
  mi : Nat → Int
  mlo : Nat → Int
  mhi : Nat → Int
  slo : Nat → Int
  shi : Nat → Int
  lp : Nat → Int
  lm : Nat → Int
  llo : Nat → Int
  lhi : Nat → Int
  bM : Bool
  bS : Bool
  bL : Bool
  cM : Nat
  cS : Nat
  cL : Nat
def row2 (a b : Nat → Int) (k : Nat) : List SV := [.int .i64 (a k), .int .i64 (b k)]
def row3 (a b c : Nat → Int) (k : Nat) : List SV := [.int .i64 (a k), .int .i64 (b k), .int .i64 (c k)]
def row4 (a b c d : Nat → Int) (k : Nat) : List SV := [.int .i64 (a k), .int .i64 (b k), .int .i64 (c k), .int .i64 (d k)]
def TD.H (t : TD) : SHeap := [some (.roa 3 t.nM (row3 t.mi t.mlo t.mhi)), some (.roa 2 t.nS (row2 t.slo t.shi)), some (.roa 4 t.nL (row4 t.lp t.lm t.llo t.lhi))]
/-- A tide as it is handed to a function. -/
def TD.A (t : TD) : SV := .agg [.osl t.bM 0 3 t.nM t.cM, .osl t.bS 1 2 t.nS t.cS, .osl t.bL 2 4 t.nL t.cL]
/-- All numbers are numbers of the machine. -/
structure TD.ok (t : TD) : Prop where
  mi : ∀ k, InR .i64 (t.mi k)
  mlo : ∀ k, InR .i64 (t.mlo k)
  mhi : ∀ k, InR .i64 (t.mhi k)
  slo : ∀ k, InR .i64 (t.slo k)
  shi : ∀ k, InR .i64 (t.shi k)
  lp : ∀ k, InR .i64 (t.lp k)
  lm : ∀ k, InR .i64 (t.lm k)
  llo : ∀ k, InR .i64 (t.llo k)
  lhi : ∀ k, InR .i64 (t.lhi k)
def TD.markOk (t : TD) (i : Nat) : Prop := (0 ≤ t.mi i ∧ t.mi i ≤ 240) ∧ (0 ≤ t.mlo i ∧ t.mlo i ≤ t.mhi i ∧ t.mhi i ≤ 60) ∧ t.mhi i - t.mlo i ≤ 2 ∧ (0 < i → t.mi (i - 1) + 6 ≤ t.mi i)
def TD.sandOk (t : TD) (i : Nat) : Prop := (0 ≤ t.slo i ∧ t.slo i ≤ t.shi i ∧ t.shi i ≤ 60) ∧ t.shi i - t.slo i ≤ 2
def TD.lookOk (t : TD) (i : Nat) : Prop := (0 ≤ t.lp i ∧ t.lp i ≤ t.nS - 1) ∧ (t.mi 0 ≤ t.lm i ∧ t.lm i ≤ t.mi (t.nM - 1)) ∧ (0 ≤ t.llo i ∧ t.llo i ≤ t.lhi i ∧ t.lhi i ≤ 60)
def TD.Valid (t : TD) : Prop := (2 ≤ t.nM ∧ t.nM ≤ 4) ∧ (1 ≤ t.nS ∧ t.nS ≤ 4) ∧ t.nL ≤ 6 ∧ (∀ i, i < t.nM → t.markOk i) ∧ (∀ i, i < t.nS → t.sandOk i) ∧ (∀ i, i < t.nL → t.lookOk i)
open Classical in
noncomputable def TD.valid (t : TD) : Bool := decide t.Valid

attribute [local irreducible] CallP CodeP Ent
theorem t52 (t : TD) (hs : t.nS ≤ 1000) (n : Int) : CallP Tryz.prog 43 [t.A, .int .i64 n] t.H (Ret (.bool (inB n 0 (t.nS - 1))) t.H) := by
  refine callR (E := E) E_ok Tryz.func43 rfl ?_
  refine And.intro ?_ ?_
  · simp [AllP, under, gB, wB, inR_iff]
    omega
  refine (t91 _ _ _).use [] ?_ trivial rfl
  refine And.intro ?_ ?_
  · simp [AllP, under, gB, wB]
  · exact ent_of [0, 1, 2] ⟨⟨rfl, rfl, fun _ _ => rfl⟩, ⟨rfl, rfl, fun _ _ => rfl⟩, ⟨rfl, rfl, fun _ _ => rfl⟩, trivial⟩ ⟨rfl, rfl, trivial⟩ rfl rfl rfl
theorem t58 (t : TD) (hs : t.nM ≤ 1000) (n : Int) : CallP Tryz.prog 36 [t.A, .int .i64 n] t.H (Ret (.bool (decide (0 < t.nM) && inB n (t.mi 0) (t.mi (t.nM - 1)))) t.H) := by
  refine callR (E := E) E_ok Tryz.func36 rfl ?_
  refine And.intro ?_ ?_
  · simp [AllP, under, gB, wB, inR_iff]
  refine drawP E_ok [3] pl36_1 (by kernel_rfl) ?_
  refine And.intro (And.intro ?_ (And.intro (fun h1 => ?_) (fun h1 => ?_))) trivial
  · simp [AllP, under, gB, wB, inR_iff]
    omega
  · have e1 : (0 + ((t.nM : Int) - 1).toNat) = t.nM - 1 := by omega
    refine (t91 _ _ _).use [] ?_ trivial rfl
    refine And.intro ?_ (And.intro rfl ?_)
    · simp [AllP, under, gB, wB, inR_iff]
    refine And.intro trivial ?_
    refine ent_of [0, 1, 2] ⟨⟨rfl, rfl, fun _ _ => rfl⟩, ⟨rfl, rfl, fun _ _ => rfl⟩, ⟨rfl, rfl, fun _ _ => rfl⟩, trivial⟩ ⟨rfl, congrArg SV.bool ?_, trivial⟩ rfl rfl rfl
    have h2 : 0 < t.nM := by simpa [gB, wB] using h1
    simp [h2, e1]
  · refine And.intro ?_ (And.intro rfl ?_)
    · simp [gB, wB] at h1
      simp [AllP, under, gB, wB, inR_iff, h1]
    refine And.intro trivial ?_
    refine ent_of [0, 1, 2] ⟨⟨rfl, rfl, fun _ _ => rfl⟩, ⟨rfl, rfl, fun _ _ => rfl⟩, ⟨rfl, rfl, fun _ _ => rfl⟩, trivial⟩ ⟨rfl, congrArg SV.bool ?_, trivial⟩ rfl rfl rfl
    have h2 : t.nM = 0 := by simpa [gB, wB] using h1
    simp [h2]

theorem t34 (t : TD) (ht : t.ok) : CallP Tryz.prog 19 [t.A] t.H (Ret (.bool t.valid) t.H) := by
  have fin : ∀ (b : Bool) (h1 : SHeap), b = t.valid → Fits (sel [0, 1, 2] h1.length) h1 [0, 1, 2] t.H → Ent t.H.length ⟨[some (none, .bool b)], h1, []⟩ ⟨[some (none, .bool t.valid)], t.H, []⟩ := by
    intro b h1 hb hf
    subst hb
    exact ent_of [0, 1, 2] hf ⟨rfl, rfl, trivial⟩ rfl rfl rfl
  have bad : ¬ t.Valid → false = t.valid := fun h => by simp [TD.valid, h]
  have hmi := fun k => (inR_iff _).1 (ht.mi k)
  refine callR (E := E) E_ok Tryz.func19 rfl ?_
  refine And.intro ?_ ?_
  · simp [AllP, under, gB, wB]
  refine (t91 _ _ _).use [] ?_ trivial rfl
  refine And.intro ?_ ?_
  · simp [AllP, under, gB, wB]
  refine And.intro (fun h1 => ?_) (fun h1 => ?_)
  · simp [gB, wB, inB] at h1
    refine (t91 _ _ _).use [] ?_ trivial rfl
    refine And.intro ?_ (And.intro (fun h2 => ?_) (fun h2 => ?_))
    · simp [AllP, under, gB, wB]
    · refine And.intro ?_ ?_
      · simp [AllP, under, gB, wB, inR_iff]
      refine fin _ _ (bad fun hv => ?_) ?_
      · have h3 := hv.1
        have h4 := hv.2.1
        have h5 := hv.2.2.1
        simp [inB] at h2
        omega
      · exact ⟨⟨rfl, rfl, fun _ _ => rfl⟩, ⟨rfl, rfl, fun _ _ => rfl⟩, ⟨rfl, rfl, fun _ _ => rfl⟩, trivial⟩
    · -- the lists are as long as they may be
      simp [inB] at h2
      refine And.intro ?_ ?_
      · simp [AllP, under, gB, wB]
      refine loopP E_ok [1] (fun i : Nat => [(3, .int .i64 i)]) (fun _ h => h) (fun i => i ≤ t.nM ∧ ∀ j, j < i → t.markOk j) (fun i => t.nM - i) 0 ⟨Nat.zero_le _, fun j h => by omega⟩ ?_ ?_
      · refine ent_tau [0, 1, 2, 3] ⟨?_, ?_, rfl⟩
        · exact ⟨⟨rfl, rfl, fun _ _ => rfl⟩, ⟨rfl, rfl, fun _ _ => rfl⟩, ⟨rfl, rfl, fun _ _ => rfl⟩, rfl, trivial⟩
        · exact ⟨rfl, rfl, rfl, rfl, trivial⟩
      · rintro i ⟨hi, hall⟩
        refine And.intro ?_ (And.intro (fun h3 => ?_) (fun h3 => ?_))
        · simp [AllP, under, gB, wB]
        · have hlt : i < t.nM := by simpa using h3
          refine And.intro ?_ ?_
          · simp [AllP, under, gB, wB]
            omega
          refine (t91 _ _ _).use [] ?_ trivial rfl
          refine And.intro ?_ (And.intro (fun h4 => ?_) (fun h4 => ?_))
          · simp [AllP, under, gB, wB]
          · refine (t92 _ _).use [] ?_ trivial rfl
            refine And.intro ?_ (And.intro (fun h5 => ?_) (fun h5 => ?_))
            · simp [AllP, under, gB, wB, inR_iff, hiB]
              omega
            · skip
              refine And.intro ?_ ?_
              · simp [AllP, under, gB, wB, inR_iff]
              refine And.intro trivial ?_
              refine fin _ _ (bad fun hv => ?_) ?_
              · have hm := hv.2.2.2.1 i hlt
                simp only [TD.markOk] at hm
                simp [inB, hiB, gB, wB] at h5
                omega
              · exact ⟨⟨rfl, rfl, fun _ _ => rfl⟩, ⟨rfl, rfl, fun _ _ => rfl⟩, ⟨rfl, rfl, fun _ _ => rfl⟩, trivial⟩
            · refine And.intro ?_ ?_
              · simp [AllP, under, gB, wB]
              refine drawP E_ok [3, 4] pl19_9 (by kernel_rfl) ?_
              refine And.intro ?_ (And.intro rfl ?_)
              · have hp := fun h => hall (i - 1) h
                simp only [TD.markOk] at hp
                simp [AllP, under, gB, wB, inR_iff]
                omega
              · simp [inB, hiB] at h5
                refine And.intro ?_ (And.intro (fun h6 => ?_) (fun h6 => ?_))
                · simp [AllP, under, gB, wB, inR_iff]
                · skip
                  refine And.intro ?_ ?_
                  · simp [AllP, under, gB, wB, inR_iff]
                  refine And.intro trivial ?_
                  refine fin _ _ (bad fun hv => ?_) ?_
                  · have hm := hv.2.2.2.1 i hlt
                    simp only [TD.markOk] at hm
                    simp at h6
                    omega
                  · exact ⟨⟨rfl, rfl, fun _ _ => rfl⟩, ⟨rfl, rfl, fun _ _ => rfl⟩, ⟨rfl, rfl, fun _ _ => rfl⟩, trivial⟩
                · refine And.intro ?_ ⟨i + 1, ⟨hlt, fun j hj => ?_⟩, by omega, ?_⟩
                  · simp [AllP, under, gB, wB, inR_iff]
                    omega
                  · rcases Nat.lt_or_ge j i with hji | hji
                    · exact hall j hji
                    · have : j = i := by omega
                      subst this
                      simp [inB, gB, wB] at h4 h6
                      simp only [TD.markOk]
                      omega
                  · refine ent_tau [0, 1, 2, 3] ⟨?_, ?_, rfl⟩
                    · exact ⟨⟨rfl, rfl, fun _ _ => rfl⟩, ⟨rfl, rfl, fun _ _ => rfl⟩, ⟨rfl, rfl, fun _ _ => rfl⟩, rfl, trivial⟩
                    · exact ⟨rfl, rfl, rfl, congrArg (SV.int .i64) (Int.natCast_succ i).symm, trivial⟩
          · simp [inB, gB, wB] at h4
            refine And.intro ?_ (And.intro (fun h5 => ?_) (fun h5 => ?_))
            · simp [AllP, under, gB, wB, inR_iff, inB, h4]
              exact h4
            · skip
              refine And.intro ?_ ?_
              · simp [AllP, under, gB, wB, inR_iff]
              refine And.intro trivial ?_
              refine fin _ _ (bad fun hv => ?_) ?_
              · have hm := hv.2.2.2.1 i hlt
                simp only [TD.markOk] at hm
                simp [inB, hiB, gB, wB] at h5
                omega
              · exact ⟨⟨rfl, rfl, fun _ _ => rfl⟩, ⟨rfl, rfl, fun _ _ => rfl⟩, ⟨rfl, rfl, fun _ _ => rfl⟩, trivial⟩
            · simp [inB, hiB] at h5
        · have hM : i = t.nM := by
            have : ¬ (i < t.nM) := by simpa using h3
            omega
          subst hM
          refine And.intro ?_ ?_
          · simp [AllP, under, gB, wB]
          refine And.intro trivial ?_
          refine loopP E_ok [1] (fun i : Nat => [(5, .int .i64 i)]) (fun _ h => h) (fun i => i ≤ t.nS ∧ ∀ j, j < i → t.sandOk j) (fun i => t.nS - i) 0 ⟨Nat.zero_le _, fun j h => by omega⟩ ?_ ?_
          · refine ent_tau [0, 1, 2, 3] ⟨?_, ?_, rfl⟩
            · exact ⟨⟨rfl, rfl, fun _ _ => rfl⟩, ⟨rfl, rfl, fun _ _ => rfl⟩, ⟨rfl, rfl, fun _ _ => rfl⟩, rfl, trivial⟩
            · exact ⟨rfl, rfl, rfl, rfl, trivial⟩
          · rintro i ⟨hi, hsand⟩
            refine And.intro ?_ (And.intro (fun h3 => ?_) (fun h3 => ?_))
            · simp [AllP, under, gB, wB]
            · have hlt : i < t.nS := by simpa using h3
              refine And.intro ?_ ?_
              · simp [AllP, under, gB, wB]
              refine drawP E_ok [3] pl19_14 (by kernel_rfl) ?_
              refine And.intro (And.intro ?_ ?_) trivial
              · simp [AllP, under, gB, wB, inR_iff]
                omega
              refine (t92 _ _).use [] ?_ trivial rfl
              refine And.intro ?_ (And.intro rfl ?_)
              · simp [AllP, under, gB, wB, inR_iff, hiB]
                omega
              refine And.intro ?_ (And.intro (fun h5 => ?_) (fun h5 => ?_))
              · simp [AllP, under, gB, wB, inR_iff]
              · skip
                refine And.intro ?_ ?_
                · simp [AllP, under, gB, wB, inR_iff]
                refine And.intro trivial ?_
                refine fin _ _ (bad fun hv => ?_) ?_
                · have hm := hv.2.2.2.2.1 i hlt
                  simp only [TD.sandOk] at hm
                  simp [hiB] at h5
                  omega
                · exact ⟨⟨rfl, rfl, fun _ _ => rfl⟩, ⟨rfl, rfl, fun _ _ => rfl⟩, ⟨rfl, rfl, fun _ _ => rfl⟩, trivial⟩
              · refine And.intro ?_ ⟨i + 1, ⟨hlt, fun j hj => ?_⟩, by omega, ?_⟩
                · simp [AllP, under, gB, wB, inR_iff]
                  omega
                · rcases Nat.lt_or_ge j i with hji | hji
                  · exact hsand j hji
                  · have : j = i := by omega
                    subst this
                    simp [hiB] at h5
                    simp only [TD.sandOk]
                    omega
                · refine ent_tau [0, 1, 2, 3] ⟨?_, ?_, rfl⟩
                  · exact ⟨⟨rfl, rfl, fun _ _ => rfl⟩, ⟨rfl, rfl, fun _ _ => rfl⟩, ⟨rfl, rfl, fun _ _ => rfl⟩, rfl, trivial⟩
                  · exact ⟨rfl, rfl, rfl, congrArg (SV.int .i64) (Int.natCast_succ i).symm, trivial⟩
            · have hS : i = t.nS := by
                have : ¬ (i < t.nS) := by simpa using h3
                omega
              subst hS
              refine And.intro ?_ ?_
              · simp [AllP, under, gB, wB]
              refine And.intro trivial ?_
              have hM0 : 0 < t.nM := by omega
              refine loopP E_ok [1] (fun i : Nat => [(6, .int .i64 i)]) (fun _ h => h) (fun i => i ≤ t.nL ∧ ∀ j, j < i → t.lookOk j) (fun i => t.nL - i) 0 ⟨Nat.zero_le _, fun j h => by omega⟩ ?_ ?_
              · refine ent_tau [0, 1, 2, 3] ⟨?_, ?_, rfl⟩
                · exact ⟨⟨rfl, rfl, fun _ _ => rfl⟩, ⟨rfl, rfl, fun _ _ => rfl⟩, ⟨rfl, rfl, fun _ _ => rfl⟩, rfl, trivial⟩
                · exact ⟨rfl, rfl, rfl, rfl, trivial⟩
              · rintro i ⟨hi, hlook⟩
                refine And.intro ?_ (And.intro (fun h3 => ?_) (fun h3 => ?_))
                · simp [AllP, under, gB, wB]
                · have hlt : i < t.nL := by simpa using h3
                  refine And.intro ?_ ?_
                  · simp [AllP, under, gB, wB]
                    omega
                  refine (t52 t (by omega) _).use [0, 1, 2] ?_ ⟨⟨rfl, rfl, fun _ _ => rfl⟩, ⟨rfl, rfl, fun _ _ => rfl⟩, ⟨rfl, rfl, fun _ _ => rfl⟩, trivial⟩ rfl
                  refine And.intro ?_ (And.intro (fun h6 => ?_) (fun h6 => ?_))
                  · simp [AllP, under, gB, wB, inR_iff]
                  · refine (t58 t (by omega) _).use [0, 1, 2] ?_ ⟨⟨rfl, rfl, fun _ _ => rfl⟩, ⟨rfl, rfl, fun _ _ => rfl⟩, ⟨rfl, rfl, fun _ _ => rfl⟩, trivial⟩ rfl
                    refine And.intro ?_ (And.intro (fun h7 => ?_) (fun h7 => ?_))
                    · simp [AllP, under, gB, wB, inR_iff]
                    · refine (t92 _ _).use [] ?_ trivial rfl
                      refine And.intro ?_ (And.intro (fun h8 => ?_) (fun h8 => ?_))
                      · simp [AllP, under, gB, wB, inR_iff]
                      · skip
                        refine And.intro ?_ ?_
                        · simp [AllP, under, gB, wB, inR_iff]
                        refine And.intro trivial ?_
                        refine fin _ _ (bad fun hv => ?_) ?_
                        · have hm := hv.2.2.2.2.2 i hlt
                          simp only [TD.lookOk] at hm
                          simp [inB, hiB, gB, wB, hM0] at h8
                          omega
                        · exact ⟨⟨rfl, rfl, fun _ _ => rfl⟩, ⟨rfl, rfl, fun _ _ => rfl⟩, ⟨rfl, rfl, fun _ _ => rfl⟩, trivial⟩
                      · refine And.intro ?_ ⟨i + 1, ⟨hlt, fun j hj => ?_⟩, by omega, ?_⟩
                        · simp [AllP, under, gB, wB, inR_iff]
                          omega
                        · rcases Nat.lt_or_ge j i with hji | hji
                          · exact hlook j hji
                          · have : j = i := by omega
                            subst this
                            simp [inB, hiB, gB, wB, hM0] at h8
                            simp only [TD.lookOk]
                            omega
                        · refine ent_tau [0, 1, 2, 3] ⟨?_, ?_, rfl⟩
                          · exact ⟨⟨rfl, rfl, fun _ _ => rfl⟩, ⟨rfl, rfl, fun _ _ => rfl⟩, ⟨rfl, rfl, fun _ _ => rfl⟩, rfl, trivial⟩
                          · exact ⟨rfl, rfl, rfl, congrArg (SV.int .i64) (Int.natCast_succ i).symm, trivial⟩
                    · have h7' := h7
                      simp [gB, wB] at h7'
                      refine And.intro ?_ (And.intro (fun h8 => ?_) (fun h8 => ?_))
                      · simp [AllP, under, gB, wB, inR_iff]
                        exact h7'
                      · skip
                        refine And.intro ?_ ?_
                        · simp [AllP, under, gB, wB, inR_iff]
                        refine And.intro trivial ?_
                        refine fin _ _ (bad fun hv => ?_) ?_
                        · have hm := hv.2.2.2.2.2 i hlt
                          simp only [TD.lookOk] at hm
                          simp [inB, hiB, gB, wB, hM0] at h7
                          omega
                        · exact ⟨⟨rfl, rfl, fun _ _ => rfl⟩, ⟨rfl, rfl, fun _ _ => rfl⟩, ⟨rfl, rfl, fun _ _ => rfl⟩, trivial⟩
                      · simp at h8
                  · have h6' := h6
                    simp [gB, wB] at h6'
                    refine And.intro ?_ (And.intro (fun h7 => ?_) (fun h7 => ?_))
                    · simp [AllP, under, gB, wB, inR_iff, h6']
                    · simp [gB, wB, h6'] at h7
                    · refine And.intro ?_ (And.intro (fun h8 => ?_) (fun h8 => ?_))
                      · simp [AllP, under, gB, wB, inR_iff, h6']
                      · skip
                        refine And.intro ?_ ?_
                        · simp [AllP, under, gB, wB, inR_iff]
                        refine And.intro trivial ?_
                        refine fin _ _ (bad fun hv => ?_) ?_
                        · have hm := hv.2.2.2.2.2 i hlt
                          simp only [TD.lookOk] at hm
                          simp [inB, hiB, gB, wB, hM0] at h6
                          omega
                        · exact ⟨⟨rfl, rfl, fun _ _ => rfl⟩, ⟨rfl, rfl, fun _ _ => rfl⟩, ⟨rfl, rfl, fun _ _ => rfl⟩, trivial⟩
                      · simp [h6'] at h8
                · have hL : i = t.nL := by
                    have : ¬ (i < t.nL) := by simpa using h3
                    omega
                  subst hL
                  refine And.intro ?_ ?_
                  · simp [AllP, under, gB, wB]
                  refine And.intro trivial ?_
                  refine fin _ _ ?_ ⟨⟨rfl, rfl, fun _ _ => rfl⟩, ⟨rfl, rfl, fun _ _ => rfl⟩, ⟨rfl, rfl, fun _ _ => rfl⟩, trivial⟩
                  have : t.Valid := ⟨by omega, by omega, by omega, hall, hsand, hlook⟩
                  simp [TD.valid, this]
  · simp [gB, wB] at h1
    refine And.intro ?_ (And.intro (fun h2 => ?_) (fun h2 => ?_))
    · simp [AllP, under, gB, wB, h1]
    · refine And.intro ?_ ?_
      · simp [AllP, under, gB, wB]
      refine fin _ _ (bad fun hv => ?_) ?_
      · have h3 := hv.1
        simp [inB] at h1
        omega
      · exact ⟨⟨rfl, rfl, fun _ _ => rfl⟩, ⟨rfl, rfl, fun _ _ => rfl⟩, ⟨rfl, rfl, fun _ _ => rfl⟩, trivial⟩
    · simp [h1] at h2
end Go.Proofs.YtipbempkngfdbaaGreatDoor
/-
  Contracts: what stops a function of tide, and how that becomes an error.
-/
namespace Go.Proofs.YtipbempkngfdbaaGreatDoor
open Go Go.Sy
set_option linter.unusedSimpArgs false
set_option maxRecDepth 100000
set_option maxHeartbeats 4000000
attribute [local irreducible] CallP CodeP Ent

theorem t43_nil (e : Int) : CallP Tryz.prog 27 [.inil, .ptr 0 0] [some (.cells [.int .i64 e])] (Ret (.tup []) [some (.cells [.int .i64 e])]) := by
  refine callR (E := E) E_ok Tryz.func27 rfl ?_
  refine And.intro ?_ (And.intro (fun h => ?_) (fun h => ?_))
  · simp [AllP, under, gB, wB]
  · refine And.intro ?_ ?_
    · simp [AllP, under, gB, wB]
    · exact ent_of [0] ⟨rfl, trivial⟩ ⟨rfl, rfl, trivial⟩ rfl rfl rfl
  · simp at h
theorem t43_stop (e v : Int) : CallP Tryz.prog 27 [.iface 105 (.agg [.int .i64 v]), .ptr 0 0] [some (.cells [.int .i64 e])] (Ret (.tup []) [some (.cells [.int .i64 v])]) := by
  refine callR (E := E) E_ok Tryz.func27 rfl ?_
  refine And.intro ?_ (And.intro (fun h => ?_) (fun h => ?_))
  · simp [AllP, under, gB, wB]
  · simp at h
  · refine And.intro ?_ (And.intro (fun h2 => ?_) (fun h2 => ?_))
    · simp [AllP, under, gB, wB]
    · simp at h2
    · refine And.intro ?_ ?_
      · simp [AllP, under, gB, wB]
      · exact ent_of [0] ⟨rfl, trivial⟩ ⟨rfl, rfl, trivial⟩ rfl rfl rfl
theorem t65_true (e : Int) : CallP Tryz.prog 79 [.bool true, .int .i64 e] [] (Ret (.tup []) []) := by
  refine callR (E := E) E_ok Tryz.func79 rfl ?_
  refine And.intro ?_ (And.intro (fun h => ?_) (fun h => ?_))
  · simp [AllP, under, gB, wB]
  · simp at h
  · refine And.intro ?_ ?_
    · simp [AllP, under, gB, wB]
    · exact ent_of [] trivial ⟨rfl, rfl, trivial⟩ rfl rfl rfl
theorem t65_false (e : Int) : CallP Tryz.prog 79 [.bool false, .int .i64 e] [] (Pan (.iface 105 (.agg [.int .i64 e])) []) := by
  refine callK (E := E) E_ok Tryz.func79 rfl ?_
  refine And.intro ?_ (And.intro (fun h => ?_) (fun h => ?_))
  · simp [AllP, under, gB, wB]
  · refine And.intro ?_ ⟨.panic (.iface 105 (.agg [.int .i64 e])), [], ⟨rfl, rfl⟩, ?_⟩
    · simp [AllP, under, gB, wB]
    · exact ent_of [] trivial ⟨rfl, rfl, trivial⟩ rfl rfl rfl
  · simp at h
end Go.Proofs.YtipbempkngfdbaaGreatDoor
/-
  Contracts: what a shore is asked that needs no truths.
-/
namespace Go.Proofs.YtipbempkngfdbaaGreatDoor
open Go Go.Sy
set_option linter.unusedSimpArgs false
set_option maxRecDepth 100000
set_option maxHeartbeats 4000000
attribute [local irreducible] CallP CodeP Ent

/-- The cells of a shore, and its rows; what is known is not looked at. -/
def TD.shore (t : TD) : SHeap := [some (.roc [.osl t.bM 1 3 t.nM t.cM, .osl t.bS 2 2 t.nS t.cS, .osl t.bL 3 4 t.nL t.cL, .map 4]),
  some (.roa 3 t.nM (row3 t.mi t.mlo t.mhi)), some (.roa 2 t.nS (row2 t.slo t.shi)), some (.roa 4 t.nL (row4 t.lp t.lm t.llo t.lhi)), some .dead]

theorem t49 (t : TD) (h1 : 1 ≤ t.nM) (h2 : t.nM ≤ 1000) : CallP Tryz.prog 72 [.ptr 0 0] t.shore (Ret (.int .i64 (t.mi (t.nM - 1))) t.shore) := by
  refine callR (E := E) E_ok Tryz.func72 rfl ?_
  refine And.intro ?_ ?_
  · simp [AllP, under, gB, wB]
  refine drawP E_ok [] pl72_1 (by kernel_rfl) ?_
  refine And.intro ?_ (And.intro rfl ?_)
  · simp [AllP, under, gB, wB, inR_iff]
    omega
  refine And.intro trivial ?_
  have e1 : (0 + ((t.nM : Int) - 1).toNat) = t.nM - 1 := by omega
  exact ent_of [0, 1, 2, 3, 4] ⟨rfl, ⟨rfl, rfl, fun _ _ => rfl⟩, ⟨rfl, rfl, fun _ _ => rfl⟩, ⟨rfl, rfl, fun _ _ => rfl⟩, trivial, trivial⟩ ⟨rfl, congrArg (fun k => SV.int .i64 (t.mi k)) e1, trivial⟩ rfl rfl rfl
theorem t46 (t : TD) (h2 : t.nS ≤ 1000) (n : Int) : CallP Tryz.prog 41 [.ptr 0 0, .int .i64 n] t.shore (Ret (.bool (inB n 0 (t.nS - 1))) t.shore) := by
  refine callR (E := E) E_ok Tryz.func41 rfl ?_
  refine And.intro ?_ ?_
  · simp [AllP, under, gB, wB, inR_iff]
    omega
  refine (t90 _ _ _).use [] ?_ trivial rfl
  refine And.intro ?_ ?_
  · simp [AllP, under, gB, wB, inR_iff]
  exact ent_of [0, 1, 2, 3, 4] ⟨rfl, ⟨rfl, rfl, fun _ _ => rfl⟩, ⟨rfl, rfl, fun _ _ => rfl⟩, ⟨rfl, rfl, fun _ _ => rfl⟩, trivial, trivial⟩ ⟨rfl, rfl, trivial⟩ rfl rfl rfl
theorem t57 (t : TD) (h1 : 1 ≤ t.nM) (h2 : t.nM ≤ 1000) (n : Int) : CallP Tryz.prog 30 [.ptr 0 0, .int .i64 n] t.shore (Ret (.bool (inB n (t.mi 0) (t.mi (t.nM - 1)))) t.shore) := by
  refine callR (E := E) E_ok Tryz.func30 rfl ?_
  refine And.intro ?_ ?_
  · simp [AllP, under, gB, wB, inR_iff]
  refine drawP E_ok [] pl30_1 (by kernel_rfl) ?_
  refine And.intro (And.intro ?_ ?_) trivial
  · simp [AllP, under, gB, wB, inR_iff]
    omega
  refine (t49 t h1 h2).use [0, 1, 2, 3, 4] ?_ ⟨rfl, ⟨rfl, rfl, fun _ _ => rfl⟩, ⟨rfl, rfl, fun _ _ => rfl⟩, ⟨rfl, rfl, fun _ _ => rfl⟩, trivial, trivial⟩ rfl
  refine And.intro (And.intro ?_ ?_) trivial
  · simp [AllP, under, gB, wB, inR_iff]
  refine (t90 _ _ _).use [] ?_ trivial rfl
  refine And.intro ?_ (And.intro rfl ?_)
  · simp [AllP, under, gB, wB, inR_iff]
  refine And.intro trivial ?_
  exact ent_of [0, 1, 2, 3, 4] ⟨rfl, ⟨rfl, rfl, fun _ _ => rfl⟩, ⟨rfl, rfl, fun _ _ => rfl⟩, ⟨rfl, rfl, fun _ _ => rfl⟩, trivial, trivial⟩ ⟨rfl, rfl, trivial⟩ rfl rfl rfl
theorem t33 (t : TD) : CallP Tryz.prog 18 [t.A] t.H (Ret (.bool (decide (40 < max (max t.nM t.nS) t.nL))) t.H) := by
  refine callR (E := E) E_ok Tryz.func18 rfl ?_
  refine And.intro ?_ ?_
  · simp [AllP, under, gB, wB, inR_iff]
  refine ent_of [0, 1, 2] ⟨⟨rfl, rfl, fun _ _ => rfl⟩, ⟨rfl, rfl, fun _ _ => rfl⟩, ⟨rfl, rfl, fun _ _ => rfl⟩, trivial⟩ ⟨rfl, congrArg SV.bool ?_, trivial⟩ rfl rfl rfl
  refine decide_eq_decide.2 ?_
  split <;> split <;> omega
end Go.Proofs.YtipbempkngfdbaaGreatDoor
/-
  Contracts: the specification's sets of looks.
-/
namespace Go.Proofs.YtipbempkngfdbaaGreatDoor
open Go Go.Sy
set_option linter.unusedSimpArgs false
set_option maxRecDepth 100000
set_option maxHeartbeats 4000000
attribute [local irreducible] CallP CodeP Ent

theorem t67 (t : TD) (h : t.nL ≤ 40) : CallP Tryz.prog 97 [t.A] t.H (Ret (.int .i64 (2 ^ t.nL - 1)) t.H) := by
  have hp : (2 : Int) ^ t.nL ≤ 2 ^ 40 := by
    have : (2 : Nat) ^ t.nL ≤ 2 ^ 40 := Nat.pow_le_pow_right (by omega) h
    exact_mod_cast this
  have hp0 : (0 : Int) < 2 ^ t.nL := by
    have : (0 : Nat) < 2 ^ t.nL := Nat.pow_pos (by omega)
    exact_mod_cast this
  have e40 : (2 : Int) ^ 40 = 1099511627776 := by decide
  rw [e40] at hp
  refine callR (E := E) E_ok Tryz.func97 rfl ?_
  refine And.intro ?_ ?_
  · simp [AllP, under, gB, wB, inR_iff]
  refine (t109 t.nL (by omega)).use [] ?_ trivial rfl
  refine And.intro ?_ ?_
  · simp only [AllP, under, gB, wB, inR_iff, and_true, true_and, List.nil_append, Option.getD_none, true_implies, forall_const]
    omega
  exact ent_of [0, 1, 2] ⟨⟨rfl, rfl, fun _ _ => rfl⟩, ⟨rfl, rfl, fun _ _ => rfl⟩, ⟨rfl, rfl, fun _ _ => rfl⟩, trivial⟩ ⟨rfl, rfl, trivial⟩ rfl rfl rfl
end Go.Proofs.YtipbempkngfdbaaGreatDoor
/-
  Contracts: how high the water stands.
-/
namespace Go.Proofs.YtipbempkngfdbaaGreatDoor
open Go Go.Sy
set_option linter.unusedSimpArgs false
set_option maxRecDepth 100000
set_option maxHeartbeats 4000000
attribute [local irreducible] CallP CodeP Ent YieldP

/-- Four heights as they are handed on. -/
def hgt (h : Nat → Int) : SV := .agg [.int .i64 (h 0), .int .i64 (h 1), .int .i64 (h 2), .int .i64 (h 3)]
def upd (h : Nat → Int) (k : Nat) (x : Int) : Nat → Int := fun m => if m = k then x else h m

theorem t105 (h : Nat → Int) (k : Nat) (hk : k < 4) (x : Int) : CallP Tryz.prog 92 [hgt h, .int .i64 k, .int .i64 x] [] (Ret (hgt (upd h k x)) []) := by
  refine callR (E := E) E_ok Tryz.func92 rfl ?_
  refine And.intro ?_ ?_
  · simp [AllP, under, gB, wB, inR_iff, IntKind.bits]
    omega
  have e : (↑k : Int).toNat = k := by omega
  refine ent_tau [] ⟨trivial, ⟨rfl, ?_, trivial⟩, rfl⟩
  simp only [hgt, upd, e, ren, renL, SV.agg.injEq, List.cons.injEq, SV.int.injEq, true_and, and_true]
  refine ⟨?_, ?_, ?_, ?_⟩ <;> split <;> simp_all

theorem t114 (a b c m : Int) : CallP Tryz.prog 86 [.agg [.int .i64 a, .int .i64 b, .int .i64 c], .ptr 0 0] [some (.roc [.int .i64 m])] (Ret (.bool (decide (m ≤ a))) [some (.roc [.int .i64 m])]) := by
  refine callR (E := E) E_ok Tryz.func86 rfl ?_
  refine And.intro ?_ ?_
  · simp [AllP, under, gB, wB, inR_iff, IntKind.bits]
  exact ent_tau [0] ⟨⟨rfl, trivial⟩, ⟨rfl, rfl, trivial⟩, rfl⟩

/-- The first number from i on, of n of them, of which p says yes. -/
def idx (p : Nat → Bool) : Nat → Nat → Int
  | 0, _ => -1
  | n + 1, i => if p i = true then i else idx p n (i + 1)
theorem idx_hit {p : Nat → Bool} : ∀ {n i k : Nat}, k < n → (∀ j, j < k → p (i + j) = false) → p (i + k) = true → idx p n i = ((i + k : Nat) : Int)
  | 0, _, _, h, _, _ => by omega
  | n + 1, i, 0, _, _, h => by simp only [idx]; rw [if_pos (by simpa using h)]; simp
  | n + 1, i, k + 1, hk, hj, h => by
    have h0 := hj 0 (by omega)
    simp only [idx]
    rw [if_neg (by simpa using h0), idx_hit (k := k) (by omega) (fun j hjk => by have := hj (j + 1) (by omega); rwa [show i + (j + 1) = i + 1 + j by omega] at this) (by rwa [show i + 1 + k = i + (k + 1) by omega])]
    congr 1
    omega
theorem idx_miss {p : Nat → Bool} : ∀ {n i : Nat}, (∀ j, j < n → p (i + j) = false) → idx p n i = -1
  | 0, _, _ => rfl
  | n + 1, i, hj => by
    have h0 := hj 0 (by omega)
    simp only [idx]
    rw [if_neg (by simpa using h0), idx_miss (fun j hjk => by have := hj (j + 1) (by omega); rwa [show i + (j + 1) = i + 1 + j by omega] at this)]

theorem t113 (b : Bool) (n cap : Nat) (hn : n ≤ 1000) (mi mlo mhi : Nat → Int) (m : Int) : CallP Tryz.prog 85 [.osl b 0 3 n cap, .fn (.func 86) [] [.ptr 1 0]] [some (.roa 3 n (row3 mi mlo mhi)), some (.roc [.int .i64 m])]
    (Ret (.int .i64 (idx (fun i => decide (m ≤ mi i)) n 0)) [some (.roa 3 n (row3 mi mlo mhi)), some (.roc [.int .i64 m])]) := by
  refine callR (E := E) E_ok Tryz.func85 rfl ?_
  refine And.intro ?_ ?_
  · simp [AllP, under, gB, wB, inR_iff, IntKind.bits]
  refine loopP E_ok [0, 1, 7] (fun i : Nat => [(8, .int .i64 i)]) (fun _ h => h) (fun i => i ≤ n ∧ ∀ j, j < i → decide (m ≤ mi j) = false) (fun i => n - i) 0 ⟨Nat.zero_le _, fun j h => by omega⟩ ?_ ?_
  · exact ent_tau [0, 1] ⟨by (repeat' (first | exact trivial | exact rfl | exact fun _ _ => rfl | exact Or.inl rfl | refine And.intro ?_ ?_)), by (repeat' (first | exact trivial | exact rfl | exact congrArg (SV.int .i64) (Int.natCast_succ _).symm | refine And.intro ?_ ?_)), rfl⟩
  · rintro i ⟨hi, hall⟩
    refine And.intro ?_ (And.intro (fun hc => ?_) (fun hc => ?_))
    · simp [AllP, under, gB, wB, inR_iff, IntKind.bits]
    · have hlt : i < n := by simpa using hc
      refine And.intro ?_ ?_
      · simp [AllP, under, gB, wB, inR_iff, IntKind.bits]
        omega
      refine (t114 _ _ _ _).use [1] ?_ ⟨rfl, trivial⟩ rfl
      refine And.intro ?_ (And.intro (fun h2 => ?_) (fun h2 => ?_))
      · simp [AllP, under, gB, wB, inR_iff, IntKind.bits]
      · refine And.intro ?_ ?_
        · simp [AllP, under, gB, wB, inR_iff, IntKind.bits]
        refine And.intro trivial ?_
        refine ent_tau [0, 1] ⟨⟨⟨rfl, rfl, fun _ _ => rfl⟩, rfl, trivial⟩, ⟨rfl, congrArg (SV.int .i64) ?_, trivial⟩, rfl⟩
        have e : (0 + (↑i : Int).toNat) = i := by omega
        have h2' : m ≤ mi i := by simpa [e] using h2
        rw [idx_hit (k := i) hlt (fun j hj => by simpa using hall j hj) (by simpa using h2')]
        simp
      · have e : (0 + (↑i : Int).toNat) = i := by omega
        refine And.intro ?_ ⟨i + 1, ⟨hlt, fun j hj => ?_⟩, by omega, ?_⟩
        · simp [AllP, under, gB, wB, inR_iff, IntKind.bits]
          omega
        · rcases Nat.lt_or_ge j i with hji | hji
          · exact hall j hji
          · have : j = i := by omega
            subst this
            simpa [e] using h2
        · exact ent_tau [0, 1] ⟨by (repeat' (first | exact trivial | exact rfl | exact fun _ _ => rfl | exact Or.inl rfl | refine And.intro ?_ ?_)), by (repeat' (first | exact trivial | exact rfl | exact congrArg (SV.int .i64) (Int.natCast_succ _).symm | refine And.intro ?_ ?_)), rfl⟩
    · have hN : i = n := by
        have : ¬ (i < n) := by simpa using hc
        omega
      subst hN
      refine And.intro ?_ ?_
      · simp [AllP, under, gB, wB, inR_iff, IntKind.bits]
      refine And.intro trivial ?_
      refine ent_tau [0, 1] ⟨⟨⟨rfl, rfl, fun _ _ => rfl⟩, rfl, trivial⟩, ⟨rfl, congrArg (SV.int .i64) ?_, trivial⟩, rfl⟩
      rw [idx_miss (fun j hj => by simpa using hall j hj)]
end Go.Proofs.YtipbempkngfdbaaGreatDoor
