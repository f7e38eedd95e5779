/-
  Parts: C1.
-/
import Derived.Test.YtioajogaghgipaaK25
set_option linter.unusedVariables false
/-
  TicketNames.
-/
namespace Go.Proofs.Ytioajogaghgipaa
open Go Go.Sy Tic
set_option linter.unusedSimpArgs false
set_option maxRecDepth 100000
set_option maxHeartbeats 4000000
attribute [local irreducible] CallP CodeP Ent YieldP
set_option maxHeartbeats 16000000

theorem e14 : CallP Try.prog 14 [exV, .int .i64 0] (exF 40) (Ret (.tup [.agg [.int .i64 0, .int .i64 0], .agg [.int .i64 10, .int .i64 11], .int .i64 0]) (exF 40)) := by
  have := t14 (exT 40) (by decide) ⟨by decide, by decide⟩ 0
  rw [exMin0] at this
  exact this
theorem e16 : CallP Try.prog 16 [exV, .int .i64 2] (exF 40) (Ret (.tup [.int .i64 2, .int .i64 0]) (exF 40)) := by
  have := t16 (exT 40) (by decide) ⟨by decide, by decide⟩ 2
  rw [exTurn2] at this
  exact this
theorem e18 : CallP Try.prog 18 [exV, .int .i64 2] (exF 40) (Ret (.tup [.int .i64 0, .int .i64 0, .int .i64 0]) (exF 40)) := by
  have := t18 (exT 40) (by decide) ⟨by decide, by decide⟩ 2
  rw [exPas2] at this
  exact this
theorem e205 : CallP Try.prog 20 [exV, .int .i64 5] (exF 40) (Ret (.tup [.int .i64 1, .bool false, .int .i64 0]) (exF 40)) := by
  have := t20 (exT 40) (by decide) ⟨by decide, by decide⟩ 5
  rw [exWho5] at this
  exact this
theorem e2012 : CallP Try.prog 20 [exV, .int .i64 12] (exF 40) (Ret (.tup [.int .i64 4, .bool false, .int .i64 0]) (exF 40)) := by
  have := t20 (exT 40) (by decide) ⟨by decide, by decide⟩ 12
  rw [exWho12] at this
  exact this
theorem e2041 : CallP Try.prog 20 [exV, .int .i64 41] (exF 40) (Ret (.tup [.int .i64 4, .bool true, .int .i64 0]) (exF 40)) := by
  have := t20 (exT 40) (by decide) ⟨by decide, by decide⟩ 41
  rw [exWho41] at this
  exact this
theorem e228 : CallP Try.prog 22 [exV, .int .i64 1, .int .i64 8] (exF 40) (Ret (.tup [.int .i64 0, .int .i64 0]) (exF 40)) := by
  have := t22 (exT 40) (by decide) ⟨by decide, by decide⟩ 1 8
  rw [exFre8] at this
  exact this
theorem e2238 : CallP Try.prog 22 [exV, .int .i64 1, .int .i64 38] (exF 40) (Ret (.tup [.int .i64 2, .int .i64 0]) (exF 40)) := by
  have := t22 (exT 40) (by decide) ⟨by decide, by decide⟩ 1 38
  rw [exFre38] at this
  exact this
theorem e30 : CallP Try.prog 30 [exV] (exF 40) (Ret (.tup [.int .i64 0, .int .i64 4]) (exF 40)) := by
  have := t30 (exT 40) (by decide) ⟨by decide, by decide⟩ 
  rw [exCla40] at this
  exact this
theorem e160 : CallP Try.prog 16 [exV, .int .i64 0] (exF 38) (Ret (.tup [.int .i64 0, .int .i64 10]) (exF 38)) := by
  have := t16 (exT 38) (by decide) ⟨by decide, by decide⟩ 0
  rw [exTurn38] at this
  exact this
def rowN : Nat → List SV := fun k => match k with
  | 0 => [.int .i64 5, .int .i64 1, .bool false]
  | 1 => [.int .i64 12, .int .i64 4, .bool false]
  | _ => [.int .i64 41, .int .i64 4, .bool true]
def HN5 : SHeap := [some (.cells [.int .i64 0, .int .i64 0]), some (.cells [.int .i64 10, .int .i64 11]), some (.arr 3 3 3 rowN)]
theorem t5 : CallP Try.prog 5 [] [] (Ret (.bool true) []) := by
  have s40 := t32 40 (by decide)
  have s38 := t32 38 (by decide)
  refine callR (E := E) E_ok Try.func5 rfl ?_
  (repeat' (first | exact ap | refine And.intro ?_ ?_))
  refine s40.use [] ?_ trivial rfl
  (repeat' (first | exact ap | refine And.intro ?_ ?_))
  refine e14.use [0] ?_ (by (repeat' (first | exact fp | refine And.intro ?_ ?_))) rfl
  (repeat' (first | exact ap | refine And.intro ?_ ?_))
  refine s40.use [] ?_ trivial rfl
  (repeat' (first | exact ap | refine And.intro ?_ ?_))
  refine e16.use [3] ?_ (by (repeat' (first | exact fp | refine And.intro ?_ ?_))) rfl
  (repeat' (first | exact ap | refine And.intro ?_ ?_))
  refine s40.use [] ?_ trivial rfl
  (repeat' (first | exact ap | refine And.intro ?_ ?_))
  refine e18.use [4] ?_ (by (repeat' (first | exact fp | refine And.intro ?_ ?_))) rfl
  (repeat' (first | exact ap | refine And.intro ?_ ?_))
  all_goals first | exact om | skip
  refine loopP E_ok [] (fun i : Nat => [(1, .ptr 0 0), (2, .ptr 1 0), (3, .int .i64 0), (4, .int .i64 2), (5, .int .i64 0), (6, .int .i64 0), (7, .int .i64 0), (8, .int .i64 0), (42, .slice 2 3 0 3 3), (43, .int .i64 3), (44, .int .i64 i)]) (fun _ _ => HN5) (fun i => i ≤ 3) (fun i => 3 - i) 0 (Nat.zero_le _) ?_ ?_
  · refine ent_tau [1, 2, 5] ⟨?_, by (repeat' (first | exact tm | refine And.intro ?_ ?_)), rfl⟩
    (repeat' (first | exact fp | refine And.intro ?_ ?_))
    all_goals exact three rfl rfl rfl
  rintro i hi
  have hi2 : i = 0 ∨ i = 1 ∨ i = 2 ∨ i = 3 := by omega
  rcases hi2 with rfl | rfl | rfl | rfl
  · all_goals (repeat' (first | exact ap | refine And.intro ?_ ?_))
    all_goals first | exact gd | skip
    all_goals intro h1
    all_goals first | exact absurd h1 (by decide) | (cases h1; done) | skip
    (repeat' (first | exact ap | refine And.intro ?_ ?_))
    all_goals first | exact om | skip
    refine drawP E_ok [3] pl5_7 (by kernel_rfl) ?_
    (repeat' (first | exact ap | refine And.intro ?_ ?_))
    all_goals first | exact om | skip
    refine s40.use [] ?_ trivial rfl
    (repeat' (first | exact ap | refine And.intro ?_ ?_))
    all_goals first | exact om | skip
    refine e205.use [4] ?_ (by (repeat' (first | exact fp | refine And.intro ?_ ?_))) rfl
    (repeat' (first | exact ap | refine And.intro ?_ ?_))
    all_goals first | exact om | skip
    all_goals (repeat' (first | exact ap | refine And.intro ?_ ?_))
    all_goals first | exact gd | skip
    all_goals intro h2
    all_goals first | exact absurd h2 (by decide) | (cases h2; done) | skip
    (repeat' (first | exact ap | refine And.intro ?_ ?_))
    all_goals first | exact om | skip
    refine ⟨1, by omega, by omega, ?_⟩
    refine ent_tau [0, 1, 2] ⟨?_, by (repeat' (first | exact tm | refine And.intro ?_ ?_)), rfl⟩
    (repeat' (first | exact fp | refine And.intro ?_ ?_))
    all_goals exact three rfl rfl rfl
  · all_goals (repeat' (first | exact ap | refine And.intro ?_ ?_))
    all_goals first | exact gd | skip
    all_goals intro h1
    all_goals first | exact absurd h1 (by decide) | (cases h1; done) | skip
    (repeat' (first | exact ap | refine And.intro ?_ ?_))
    all_goals first | exact om | skip
    refine drawP E_ok [3] pl5_7 (by kernel_rfl) ?_
    (repeat' (first | exact ap | refine And.intro ?_ ?_))
    all_goals first | exact om | skip
    refine s40.use [] ?_ trivial rfl
    (repeat' (first | exact ap | refine And.intro ?_ ?_))
    all_goals first | exact om | skip
    refine e2012.use [4] ?_ (by (repeat' (first | exact fp | refine And.intro ?_ ?_))) rfl
    (repeat' (first | exact ap | refine And.intro ?_ ?_))
    all_goals first | exact om | skip
    all_goals (repeat' (first | exact ap | refine And.intro ?_ ?_))
    all_goals first | exact gd | skip
    all_goals intro h2
    all_goals first | exact absurd h2 (by decide) | (cases h2; done) | skip
    (repeat' (first | exact ap | refine And.intro ?_ ?_))
    all_goals first | exact om | skip
    refine ⟨2, by omega, by omega, ?_⟩
    refine ent_tau [0, 1, 2] ⟨?_, by (repeat' (first | exact tm | refine And.intro ?_ ?_)), rfl⟩
    (repeat' (first | exact fp | refine And.intro ?_ ?_))
    all_goals exact three rfl rfl rfl
  · all_goals (repeat' (first | exact ap | refine And.intro ?_ ?_))
    all_goals first | exact gd | skip
    all_goals intro h1
    all_goals first | exact absurd h1 (by decide) | (cases h1; done) | skip
    (repeat' (first | exact ap | refine And.intro ?_ ?_))
    all_goals first | exact om | skip
    refine drawP E_ok [3] pl5_7 (by kernel_rfl) ?_
    (repeat' (first | exact ap | refine And.intro ?_ ?_))
    all_goals first | exact om | skip
    refine s40.use [] ?_ trivial rfl
    (repeat' (first | exact ap | refine And.intro ?_ ?_))
    all_goals first | exact om | skip
    refine e2041.use [4] ?_ (by (repeat' (first | exact fp | refine And.intro ?_ ?_))) rfl
    (repeat' (first | exact ap | refine And.intro ?_ ?_))
    all_goals first | exact om | skip
    all_goals (repeat' (first | exact ap | refine And.intro ?_ ?_))
    all_goals first | exact gd | skip
    all_goals intro h2
    all_goals first | exact absurd h2 (by decide) | (cases h2; done) | skip
    (repeat' (first | exact ap | refine And.intro ?_ ?_))
    all_goals first | exact om | skip
    refine ⟨3, by omega, by omega, ?_⟩
    refine ent_tau [0, 1, 2] ⟨?_, by (repeat' (first | exact tm | refine And.intro ?_ ?_)), rfl⟩
    (repeat' (first | exact fp | refine And.intro ?_ ?_))
    all_goals exact three rfl rfl rfl
  all_goals (repeat' (first | exact ap | refine And.intro ?_ ?_))
  all_goals first | exact gd | skip
  all_goals intro h1
  all_goals first | exact absurd h1 (by decide) | (cases h1; done) | skip
  (repeat' (first | exact ap | refine And.intro ?_ ?_))
  all_goals first | exact om | skip
  refine s40.use [] ?_ trivial rfl
  (repeat' (first | exact ap | refine And.intro ?_ ?_))
  refine e228.use [3] ?_ (by (repeat' (first | exact fp | refine And.intro ?_ ?_))) rfl
  (repeat' (first | exact ap | refine And.intro ?_ ?_))
  refine s40.use [] ?_ trivial rfl
  (repeat' (first | exact ap | refine And.intro ?_ ?_))
  refine e2238.use [4] ?_ (by (repeat' (first | exact fp | refine And.intro ?_ ?_))) rfl
  (repeat' (first | exact ap | refine And.intro ?_ ?_))
  refine s40.use [] ?_ trivial rfl
  (repeat' (first | exact ap | refine And.intro ?_ ?_))
  refine e30.use [5] ?_ (by (repeat' (first | exact fp | refine And.intro ?_ ?_))) rfl
  (repeat' (first | exact ap | refine And.intro ?_ ?_))
  refine s38.use [] ?_ trivial rfl
  (repeat' (first | exact ap | refine And.intro ?_ ?_))
  refine e160.use [6] ?_ (by (repeat' (first | exact fp | refine And.intro ?_ ?_))) rfl
  (repeat' (first | exact ap | refine And.intro ?_ ?_))
  refine cutP [] [(1, .ptr 0 0), (2, .ptr 1 0), (3, .int .i64 0), (4, .int .i64 2), (5, .int .i64 0), (6, .int .i64 0), (7, .int .i64 0), (8, .int .i64 0), (14, .int .i64 0), (15, .int .i64 0), (16, .int .i64 2), (17, .int .i64 0), (18, .int .i64 0), (19, .int .i64 4), (20, .int .i64 0), (21, .int .i64 10)] (fun _ => [some (.cells [.int .i64 0, .int .i64 0]), some (.cells [.int .i64 10, .int .i64 11])]) ?_ ?_
  · refine ent_tau [0, 1] ⟨?_, by (repeat' (first | exact tm | refine And.intro ?_ ?_)), rfl⟩
    (repeat' (first | exact fp | refine And.intro ?_ ?_))
  refine drawP E_ok [0, 1] pl5_15 (by kernel_rfl) ?_
  refine And.intro (And.intro ?_ (And.intro (fun h => ?_) (fun h => absurd h (by decide)))) trivial
  · (repeat' (first | exact ap | refine And.intro ?_ ?_))
  refine (t13).use [] ?_ (by (repeat' (first | exact fp | refine And.intro ?_ ?_))) rfl
  refine And.intro (And.intro ?_ (And.intro (fun h => ?_) (fun h => absurd h (by decide)))) trivial
  · (repeat' (first | exact ap | refine And.intro ?_ ?_))
  refine (t33 0 0).use [] ?_ (by (repeat' (first | exact fp | refine And.intro ?_ ?_))) rfl
  refine And.intro (And.intro ?_ (And.intro (fun h => ?_) (fun h => absurd h (by decide)))) trivial
  · (repeat' (first | exact ap | refine And.intro ?_ ?_))
  refine (t33 10 11).use [] ?_ (by (repeat' (first | exact fp | refine And.intro ?_ ?_))) rfl
  (repeat' (first | exact ap | refine And.intro ?_ ?_))
  exact ent_tau [] ⟨by (repeat' (first | exact fp | refine And.intro ?_ ?_)), by (repeat' (first | exact tm | refine And.intro ?_ ?_)), rfl⟩
end Go.Proofs.Ytioajogaghgipaa
