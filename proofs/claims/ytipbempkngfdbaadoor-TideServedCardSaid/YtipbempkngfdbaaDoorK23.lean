/-
  Parts: B26, Tab, B28.
-/
import Derived.Test.YtipbempkngfdbaaDoorK22
import Derived.Test.YtipbempkngfdbaaDoorK15
import Derived.Test.YtipbempkngfdbaaDoorRows
/-
  Contract: the law package's alive.
-/
namespace Go.Proofs.YtipbempkngfdbaaDoor
open Go Go.Sy
set_option linter.unusedSimpArgs false
set_option maxRecDepth 100000
set_option maxHeartbeats 4000000
attribute [local irreducible] CallP CodeP Ent YieldP

/-- The tables of the program. -/
def HB : SHeap := [some (.glob 0 [.int .i64 0, .int .i64 1, .int .i64 3, .int .i64 6, .int .i64 9, .int .i64 11, .int .i64 12]), some db]
theorem hX10c : CallP Tryd.prog 22 [(TX 1 1).A, .int .i64 10] (TX 1 1).HG (Ret (.tup [.agg [.int .i64 13, .int .i64 14], .int .i64 0]) (TX 1 1).HG) := by
  have h := t22 (TX 1 1) 10
  rwa [hX10] at h
theorem hX30c : CallP Tryd.prog 22 [(TX 1 1).A, .int .i64 30] (TX 1 1).HG (Ret (.tup [.agg [.int .i64 26, .int .i64 26], .int .i64 0]) (TX 1 1).HG) := by
  have h := t22 (TX 1 1) 30
  rwa [hX30] at h
theorem hX0c : CallP Tryd.prog 22 [(TX 1 1).A, .int .i64 0] (TX 1 1).HG (Ret (.tup [.agg [.int .i64 11, .int .i64 12], .int .i64 0]) (TX 1 1).HG) := by
  have h := t22 (TX 1 1) 0
  rwa [hX0] at h
theorem hX45c : CallP Tryd.prog 22 [(TX 1 1).A, .int .i64 45] (TX 1 1).HG (Ret (.tup [.agg [.int .i64 35, .int .i64 36], .int .i64 0]) (TX 1 1).HG) := by
  have h := t22 (TX 1 1) 45
  rwa [hX45] at h
theorem hX90c : CallP Tryd.prog 22 [(TX 1 1).A, .int .i64 90] (TX 1 1).HG (Ret (.tup [.agg [.int .i64 26, .int .i64 26], .int .i64 0]) (TX 1 1).HG) := by
  have h := t22 (TX 1 1) 90
  rwa [hX90] at h
theorem dX0c : CallP Tryd.prog 25 [(TX 1 1).A, .int .i64 0, .int .i64 10] (TX 1 1).HG (Ret (.tup [.agg [.int .i64 7, .int .i64 9], .int .i64 0]) (TX 1 1).HG) := by
  have h := t25 (TX 1 1) 0 10
  rwa [dX0] at h
theorem dX1c : CallP Tryd.prog 25 [(TX 1 1).A, .int .i64 1, .int .i64 10] (TX 1 1).HG (Ret (.tup [.agg [.int .i64 0, .int .i64 0], .int .i64 0]) (TX 1 1).HG) := by
  have h := t25 (TX 1 1) 1 10
  rwa [dX1] at h
theorem dX2c : CallP Tryd.prog 25 [(TX 1 1).A, .int .i64 1, .int .i64 30] (TX 1 1).HG (Ret (.tup [.agg [.int .i64 6, .int .i64 6], .int .i64 0]) (TX 1 1).HG) := by
  have h := t25 (TX 1 1) 1 30
  rwa [dX2] at h
theorem sXc : CallP Tryd.prog 31 [(TX 1 1).A, .int .i64 0] (TX 1 1).HG (Ret (.tup [.agg [.int .i64 5, .int .i64 6], .int .i64 0]) (TX 1 1).HG) := by
  have h := t31 (TX 1 1) 0
  rwa [sX] at h
theorem fXfc : CallP Tryd.prog 17 [(TX 1 1).A, .int .i64 1, .int .i64 5, .int .i64 0, .bool false] (TX 1 1).HG (Ret (.tup [.int .i64 28, .int .i64 0]) (TX 1 1).HG) := by
  have h := t17 (TX 1 1) 1 5 0 false
  rwa [fXf] at h
theorem fXtc : CallP Tryd.prog 17 [(TX 1 1).A, .int .i64 1, .int .i64 5, .int .i64 0, .bool true] (TX 1 1).HG (Ret (.tup [.int .i64 29, .int .i64 0]) (TX 1 1).HG) := by
  have h := t17 (TX 1 1) 1 5 0 true
  rwa [fXt] at h
theorem pXc : CallP Tryd.prog 32 [(TX 1 1).A, .int .i64 30, .int .i64 5, .int .i64 8] (TX 1 1).HG (Ret (.tup [.int .i64 2, .int .i64 2, .int .i64 0]) (TX 1 1).HG) := by
  have h := t32 (TX 1 1) 30 5 8
  rwa [pX] at h
theorem cXc : CallP Tryd.prog 26 [(TX 1 1).A] (TX 1 1).HG (Ret (.tup [.int .i64 6, .int .i64 0]) (TX 1 1).HG) := by
  have h := t26 (TX 1 1)
  rwa [cX] at h
theorem nXc : CallP Tryd.prog 37 [(TX 1 1).A, .int .i64 0] (TX 1 1).HG (Ret (.tup [.int .i64 0, .int .i64 3, .int .i64 0]) (TX 1 1).HG) := by
  have h := t37 (TX 1 1) 0
  rwa [nX] at h
theorem kXc : CallP Tryd.prog 20 [(TX 1 1).A] (TX 1 1).HG (Ret (.tup [.int .i64 0, .int .i64 4]) (TX 1 1).HG) := by
  have h := t20 (TX 1 1)
  rwa [kX] at h
theorem kYc (c : Nat) : CallP Tryd.prog 20 [(TX 2 c).A] (TX 2 c).HG (Ret (.tup [.int .i64 3, .int .i64 0]) (TX 2 c).HG) := by
  have h := t20 (TX 2 c)
  rwa [kY] at h
theorem cYc (c : Nat) : CallP Tryd.prog 26 [(TX 2 c).A] (TX 2 c).HG (Ret (.tup [.int .i64 0, .int .i64 0]) (TX 2 c).HG) := by
  have h := t26 (TX 2 c)
  rwa [cY] at h
theorem hY30c (c : Nat) : CallP Tryd.prog 22 [(TX 2 c).A, .int .i64 30] (TX 2 c).HG (Ret (.tup [.agg [.int .i64 0, .int .i64 0], .int .i64 10]) (TX 2 c).HG) := by
  have h := t22 (TX 2 c) 30
  rwa [hY30] at h
theorem vXc : CallP Tryd.prog 15 [(TX 1 1).A, .int .i64 1, .int .i64 5, .int .i64 8] (TX 1 1).HG (fun ce h' => ∃ cap, 2 ≤ cap ∧ cap ≤ 9223372036854775807 ∧ ce = .ret (.tup [.slice 5 2 0 2 cap, .int .i64 0]) ∧ h' = (TX 1 1).HG ++ [some (.arr 2 2 cap (prow [(29, 33), (87, 91)]))]) := by
  have h := t15 (TX 1 1) 1 5 8
  rw [vX] at h
  refine h.mono ?_
  rintro ce h' (⟨h0, _⟩ | ⟨_, cap, h1, h2, h3, h4⟩)
  · cases h0
  · exact ⟨cap, h1, h2, h3, h4⟩
theorem t14 : CallP Tryd.prog 14 [] HB (Ret (.bool true) HB) := by
  refine callR (E := E) E_ok Tryd.func14 rfl ?_
  refine And.intro ?_ ?_
  · simp [AllP, under, gB, wB, inR_iff, IntKind.bits]
  refine (t23_f).use [] ?_ (by (repeat' (first | exact trivial | exact rfl | exact fun _ _ => rfl | exact Or.inl rfl | refine And.intro ?_ ?_))) rfl
  refine And.intro ?_ ?_
  · simp [AllP, under, gB, wB, inR_iff, IntKind.bits]
  refine (hX10c).use [2, 3, 4, 0, 1] ?_ (by (repeat' (first | exact trivial | exact rfl | exact fun _ _ => rfl | exact Or.inl rfl | refine And.intro ?_ ?_))) rfl
  refine And.intro ?_ ?_
  · simp [AllP, under, gB, wB, inR_iff, IntKind.bits]
  refine (t23_f).use [] ?_ (by (repeat' (first | exact trivial | exact rfl | exact fun _ _ => rfl | exact Or.inl rfl | refine And.intro ?_ ?_))) rfl
  refine And.intro ?_ ?_
  · simp [AllP, under, gB, wB, inR_iff, IntKind.bits]
  refine (dX0c).use [6, 7, 8, 0, 1] ?_ (by (repeat' (first | exact trivial | exact rfl | exact fun _ _ => rfl | exact Or.inl rfl | refine And.intro ?_ ?_))) rfl
  refine And.intro ?_ ?_
  · simp [AllP, under, gB, wB, inR_iff, IntKind.bits]
  refine (t23_f).use [] ?_ (by (repeat' (first | exact trivial | exact rfl | exact fun _ _ => rfl | exact Or.inl rfl | refine And.intro ?_ ?_))) rfl
  refine And.intro ?_ ?_
  · simp [AllP, under, gB, wB, inR_iff, IntKind.bits]
  refine (sXc).use [10, 11, 12, 0, 1] ?_ (by (repeat' (first | exact trivial | exact rfl | exact fun _ _ => rfl | exact Or.inl rfl | refine And.intro ?_ ?_))) rfl
  refine And.intro ?_ ?_
  · simp [AllP, under, gB, wB, inR_iff, IntKind.bits]
  refine (t23_f).use [] ?_ (by (repeat' (first | exact trivial | exact rfl | exact fun _ _ => rfl | exact Or.inl rfl | refine And.intro ?_ ?_))) rfl
  refine And.intro ?_ ?_
  · simp [AllP, under, gB, wB, inR_iff, IntKind.bits]
  refine CallP.frameH vXc [14, 15, 16, 0, 1] (by (repeat' (first | exact trivial | exact rfl | exact fun _ _ => rfl | exact Or.inl rfl | refine And.intro ?_ ?_))) rfl ?_
  rintro ce h' ⟨cap, hc1, hc2, rfl, rfl⟩
  refine ⟨rfl, ?_⟩
  refine And.intro ?_ ?_
  · simp [AllP, under, gB, wB, inR_iff, IntKind.bits]
  refine (t23_f).use [] ?_ (by (repeat' (first | exact trivial | exact rfl | exact fun _ _ => rfl | exact Or.inl rfl | refine And.intro ?_ ?_))) rfl
  refine And.intro ?_ ?_
  · simp [AllP, under, gB, wB, inR_iff, IntKind.bits]
  refine (fXfc).use [18, 19, 20, 0, 1] ?_ (by (repeat' (first | exact trivial | exact rfl | exact fun _ _ => rfl | exact Or.inl rfl | refine And.intro ?_ ?_))) rfl
  refine And.intro ?_ ?_
  · simp [AllP, under, gB, wB, inR_iff, IntKind.bits]
  refine (t23_f).use [] ?_ (by (repeat' (first | exact trivial | exact rfl | exact fun _ _ => rfl | exact Or.inl rfl | refine And.intro ?_ ?_))) rfl
  refine And.intro ?_ ?_
  · simp [AllP, under, gB, wB, inR_iff, IntKind.bits]
  refine (pXc).use [21, 22, 23, 0, 1] ?_ (by (repeat' (first | exact trivial | exact rfl | exact fun _ _ => rfl | exact Or.inl rfl | refine And.intro ?_ ?_))) rfl
  refine And.intro ?_ ?_
  · simp [AllP, under, gB, wB, inR_iff, IntKind.bits]
  refine (t23_f).use [] ?_ (by (repeat' (first | exact trivial | exact rfl | exact fun _ _ => rfl | exact Or.inl rfl | refine And.intro ?_ ?_))) rfl
  refine And.intro ?_ ?_
  · simp [AllP, under, gB, wB, inR_iff, IntKind.bits]
  refine (cXc).use [24, 25, 26, 0, 1] ?_ (by (repeat' (first | exact trivial | exact rfl | exact fun _ _ => rfl | exact Or.inl rfl | refine And.intro ?_ ?_))) rfl
  refine And.intro ?_ ?_
  · simp [AllP, under, gB, wB, inR_iff, IntKind.bits]
  refine (t23_f).use [] ?_ (by (repeat' (first | exact trivial | exact rfl | exact fun _ _ => rfl | exact Or.inl rfl | refine And.intro ?_ ?_))) rfl
  refine And.intro ?_ ?_
  · simp [AllP, under, gB, wB, inR_iff, IntKind.bits]
  refine (nXc).use [27, 28, 29, 0, 1] ?_ (by (repeat' (first | exact trivial | exact rfl | exact fun _ _ => rfl | exact Or.inl rfl | refine And.intro ?_ ?_))) rfl
  refine And.intro ?_ ?_
  · simp [AllP, under, gB, wB, inR_iff, IntKind.bits]
  refine CallP.frameH t23_t [] (by (repeat' (first | exact trivial | exact rfl | exact fun _ _ => rfl | exact Or.inl rfl | refine And.intro ?_ ?_))) rfl ?_
  rintro ce h' ⟨c, hc3, hc4, rfl, rfl⟩
  refine ⟨rfl, ?_⟩
  refine And.intro ?_ ?_
  · simp [AllP, under, gB, wB, inR_iff, IntKind.bits]
  refine (kYc c).use [30, 31, 32, 0, 1] ?_ (by (repeat' (first | exact trivial | exact rfl | exact fun _ _ => rfl | exact Or.inl rfl | refine And.intro ?_ ?_))) rfl
  refine And.intro ?_ ?_
  · simp [AllP, under, gB, wB, inR_iff, IntKind.bits]
  refine cutP [] [(1, .ptr 2 0), (2, .int .i64 0), (3, .ptr 3 0), (4, .int .i64 0), (5, .ptr 4 0), (6, .int .i64 0), (7, .slice 5 2 0 2 cap), (8, .int .i64 0), (9, .int .i64 28), (10, .int .i64 0), (11, .int .i64 2), (12, .int .i64 2), (13, .int .i64 0), (14, .int .i64 6), (15, .int .i64 0), (16, .int .i64 0), (17, .int .i64 3), (18, .int .i64 0), (19, .int .i64 3), (20, .int .i64 0)] (fun _ => [some (.glob 0 [.int .i64 0, .int .i64 1, .int .i64 3, .int .i64 6, .int .i64 9, .int .i64 11, .int .i64 12]), some db, some (.cells [.int .i64 13, .int .i64 14]), some (.cells [.int .i64 7, .int .i64 9]), some (.cells [.int .i64 5, .int .i64 6]), some (.arr 2 2 cap (prow [(29, 33), (87, 91)]))]) ?_ ?_
  · refine ent_tau [0, 1, 5, 9, 13, 17] ⟨?_, by (repeat' (first | exact trivial | exact rfl | exact congrArg (SV.int .i64) (Int.natCast_succ _).symm | refine And.intro ?_ ?_)), rfl⟩
    (repeat' (first | exact trivial | exact rfl | exact fun _ _ => rfl | exact Or.inl rfl | refine And.intro ?_ ?_))
  refine drawP E_ok [2, 3, 4] pl14_10 (by kernel_rfl) ?_
  refine And.intro (And.intro ?_ ?_) trivial
  · (repeat' (first | exact trivial | exact fun _ => rfl | exact rfl | refine And.intro ?_ ?_))
  refine (t24 13 14).use [] ?_ (by (repeat' (first | exact trivial | exact rfl | exact fun _ _ => rfl | exact Or.inl rfl | refine And.intro ?_ ?_))) rfl
  refine And.intro (And.intro ?_ (And.intro (fun h => ?_) (fun h => absurd h (by decide)))) trivial
  · (repeat' (first | exact trivial | exact fun _ => rfl | exact rfl | refine And.intro ?_ ?_))
  refine (t24 7 9).use [] ?_ (by (repeat' (first | exact trivial | exact rfl | exact fun _ _ => rfl | exact Or.inl rfl | refine And.intro ?_ ?_))) rfl
  refine And.intro (And.intro ?_ (And.intro (fun h => ?_) (fun h => absurd h (by decide)))) trivial
  · (repeat' (first | exact trivial | exact fun _ => rfl | exact rfl | refine And.intro ?_ ?_))
  refine (t24 5 6).use [] ?_ (by (repeat' (first | exact trivial | exact rfl | exact fun _ _ => rfl | exact Or.inl rfl | refine And.intro ?_ ?_))) rfl
  refine And.intro (And.intro ?_ (And.intro (fun h => ?_) (fun h => absurd h (by decide)))) trivial
  · (repeat' (first | exact trivial | exact fun _ => rfl | exact rfl | refine And.intro ?_ ?_))
  refine (t24 29 33).use [] ?_ (by (repeat' (first | exact trivial | exact rfl | exact fun _ _ => rfl | exact Or.inl rfl | refine And.intro ?_ ?_))) rfl
  refine And.intro (And.intro ?_ (And.intro (fun h => ?_) (fun h => absurd h (by decide)))) trivial
  · (repeat' (first | exact trivial | exact fun _ => rfl | exact rfl | refine And.intro ?_ ?_))
  refine (t24 87 91).use [] ?_ (by (repeat' (first | exact trivial | exact rfl | exact fun _ _ => rfl | exact Or.inl rfl | refine And.intro ?_ ?_))) rfl
  refine And.intro (And.intro ?_ (And.intro (fun h => ?_) (fun h => absurd h (by decide)))) trivial
  · (repeat' (first | exact trivial | exact fun _ => rfl | exact rfl | refine And.intro ?_ ?_))
  skip
  refine And.intro (And.intro ?_ (And.intro (fun h => ?_) (fun h => absurd h (by decide)))) trivial
  · (repeat' (first | exact trivial | exact fun _ => rfl | exact rfl | refine And.intro ?_ ?_))
  refine (t19 [(29, 33), (87, 91)] [(29, 33), (87, 91)] cap 2 (by decide)).use [5, 6] ?_ ?_ rfl
  rotate_left
  · (repeat' (first | exact trivial | exact rfl | exact fun _ _ => rfl | exact Or.inl rfl | refine And.intro ?_ ?_))
    intro k hk
    rcases lt2 hk with rfl | rfl <;> rfl
  refine And.intro ?_ ?_
  · (repeat' (first | exact trivial | exact fun _ => rfl | exact rfl | refine And.intro ?_ ?_))
  refine And.intro rfl ?_
  refine And.intro ?_ ?_
  · (repeat' (first | exact trivial | exact fun _ => rfl | exact rfl | refine And.intro ?_ ?_))
  exact ent_tau [0, 1] ⟨by (repeat' (first | exact trivial | exact rfl | exact fun _ _ => rfl | exact Or.inl rfl | refine And.intro ?_ ?_)), by (repeat' (first | exact trivial | exact rfl | exact congrArg (SV.int .i64) (Int.natCast_succ _).symm | refine And.intro ?_ ?_)), rfl⟩
end Go.Proofs.YtipbempkngfdbaaDoor
/-
  The tables that the rows of this seat list, as blocks.
-/
namespace Go.Proofs.YtipbempkngfdbaaDoor
open Go Go.Sy
set_option maxRecDepth 100000

theorem gDone : Tryd.prog.globalNamed "dipworks/tide.done" = some 0 := by kernel_rfl
theorem gDb : Tryd.prog.globalNamed "math/bits.deBruijn64tab" = some 1 := by kernel_rfl
theorem gDoneT : (Tryd.prog.globals[0]?).map (·.type) = some 148 := by kernel_rfl
theorem gDbT : (Tryd.prog.globals[1]?).map (·.type) = some 162 := by kernel_rfl
theorem c148 : Tryd.prog.cellsOf 148 = 7 := by kernel_rfl
theorem c162 : Tryd.prog.cellsOf 162 = 64 := by kernel_rfl
theorem c3 : Tryd.prog.cellsOf 3 = 1 := by kernel_rfl
theorem c5 : Tryd.prog.cellsOf 5 = 1 := by kernel_rfl
def tDone : List Int := [0, 1, 3, 6, 9, 11, 12]
def tDb : List Int := [0, 1, 56, 2, 57, 49, 28, 3, 61, 58, 42, 50, 38, 29, 17, 4, 62, 47, 59, 36, 45, 43, 51, 22, 53, 39, 33, 30, 24, 18, 12, 5, 63, 55, 48, 27, 60, 41, 37, 16, 46, 35, 44, 21, 52, 32, 23, 11, 54, 26, 40, 15, 34, 20, 31, 10, 25, 14, 19, 9, 13, 8, 7, 6]
theorem tabDb {W : World} (h : laidMetH Tryd.prog Rows.tideNamesRow.laid W) : Lib.TabIs Tryd.prog W "math/bits.deBruijn64tab" .u8 tDb :=
  Lib.tabIs_of_head (rest := [("dipworks/tide.done", Rows.laid_dipworks_tide_done)]) gDb gDbT Tryd.underlying162 Tryd.underlying5 c5 c162 h
theorem tabDone {W : World} (h : laidMetH Tryd.prog Rows.tideNamesRow.laid W) : Lib.TabIs Tryd.prog W "dipworks/tide.done" .i64 tDone :=
  Lib.tabIs_of_head (rest := []) gDone gDoneT Tryd.underlying148 Tryd.underlying3 c3 c148 (laidMet.tail (x := ("math/bits.deBruijn64tab", Rows.laid_math_bits_deBruijn64tab)) h)

/-- A world that holds both tables. -/
theorem satHB {W : World} (h : laidMetH Tryd.prog Rows.tideNamesRow.laid W) : Sat (fun j => [((0 : Nat), (0 : Nat)), (1, 0)][j]?) (fun _ _ => False) HB W (fun _ => False) W := by
  refine satRo _ rfl ?_ ?_
  · intro i x hx
    match i, hx with
    | 0, hx => cases hx; exact ⟨_, rfl, rfl⟩
    | 1, hx => cases hx; exact ⟨_, rfl, rfl⟩
  · intro i o a ho ha
    match i, ho, ha with
    | 0, ho, ha => cases ho; cases ha; exact glob_holds (tabDone h) gDone
    | 1, ho, ha => cases ho; cases ha; exact glob_holds (tabDb h) gDb
end Go.Proofs.YtipbempkngfdbaaDoor
/-
  Contract: dipworkslaw01.TideNames.
-/
namespace Go.Proofs.YtipbempkngfdbaaDoor
open Go Go.Sy
set_option linter.unusedSimpArgs false
set_option maxRecDepth 100000
set_option maxHeartbeats 4000000
attribute [local irreducible] CallP CodeP Ent YieldP

def msX : Nat → Int := ix [30, 0, 10, 45, 90]
def loX : Nat → Int := ix [26, 11, 13, 35, 26]
def hiX : Nat → Int := ix [26, 12, 14, 36, 26]
theorem lt5 {k : Nat} (h : k < 5) : k = 0 ∨ k = 1 ∨ k = 2 ∨ k = 3 ∨ k = 4 := by omega
theorem hXkc (k : Nat) (hk : k < 5) : CallP Tryd.prog 22 [(TX 1 1).A, .int .i64 (msX k)] (TX 1 1).HG (Ret (.tup [.agg [.int .i64 (loX k), .int .i64 (hiX k)], .int .i64 0]) (TX 1 1).HG) := by
  rcases lt5 hk with rfl | rfl | rfl | rfl | rfl
  · exact hX30c
  · exact hX0c
  · exact hX10c
  · exact hX45c
  · exact hX90c
theorem t5 : CallP Tryd.prog 5 [] HB (Ret (.bool true) HB) := by
  refine callR (E := E) E_ok Tryd.func5 rfl ?_
  refine And.intro ?_ ?_
  · simp [AllP, under, gB, wB, inR_iff, IntKind.bits]
  refine loopP E_ok [22, 23] (fun k : Nat => [(24, .int .i64 k)]) (fun _ H => H.set 2 (some (.arr 3 5 5 (row3 msX loX hiX)))) (fun k => k ≤ 5) (fun k => 5 - k) 0 (Nat.zero_le _) ?_ ?_
  · refine ent_tau [0, 1, 2] ⟨?_, by (repeat' (first | exact trivial | exact rfl | exact congrArg (SV.int .i64) (Int.natCast_succ _).symm | refine And.intro ?_ ?_)), rfl⟩
    (repeat' (first | exact trivial | exact rfl | exact fun _ _ => rfl | exact Or.inl rfl | refine And.intro ?_ ?_))
    intro k hk
    rcases lt5 hk with rfl | rfl | rfl | rfl | rfl <;> rfl
  · intro k hk
    refine And.intro ?_ (And.intro (fun hn => ?_) (fun hn => ?_))
    · simp [AllP, under, gB, wB, inR_iff, IntKind.bits]
    · have hn' : k < 5 := by
        have : (k : Int) < 5 := by simpa using hn
        omega
      have ek : (0 + (k : Int).toNat) = k := by omega
      have hX := hXkc k hn'
      refine And.intro ?_ ?_
      · simp [AllP, under, gB, wB, inR_iff, IntKind.bits]
        omega
      refine cutP [22, 23, 24] [(2, .ptr 3 0)] (fun H => [H.getD 0 none, H.getD 1 none, H.getD 2 none, some (.cells [.int .i64 (msX k), .int .i64 (loX k), .int .i64 (hiX k)])]) ?_ ?_
      · refine ent_tau [0, 1, 2, 3] ⟨?_, by (repeat' (first | exact trivial | exact rfl | exact congrArg (SV.int .i64) (Int.natCast_succ _).symm | refine And.intro ?_ ?_)), rfl⟩
        (repeat' (first | exact trivial | exact rfl | exact fun _ _ => rfl | exact Or.inl rfl | refine And.intro ?_ ?_))
        rw [ek]
        rfl
      refine drawP E_ok [3] pl5_4 (by kernel_rfl) ?_
      (repeat' (first | exact trivial | exact fun _ => rfl | exact rfl | refine And.intro ?_ ?_))
      · refine (t23_f).use [] ?_ (by (repeat' (first | exact trivial | exact rfl | exact fun _ _ => rfl | exact Or.inl rfl | refine And.intro ?_ ?_))) rfl
        (repeat' (first | exact trivial | exact fun _ => rfl | exact rfl | refine And.intro ?_ ?_))
        · refine (hX).use [4, 5, 6, 0, 1] ?_ (by (repeat' (first | exact trivial | exact rfl | exact fun _ _ => rfl | exact Or.inl rfl | refine And.intro ?_ ?_))) rfl
          (repeat' (first | exact trivial | exact fun _ => rfl | exact rfl | refine And.intro ?_ ?_))
          refine cutP [22, 23, 24] [(2, .ptr 3 0), (3, .ptr 4 0), (4, .int .i64 0)] (fun H => [H.getD 0 none, H.getD 1 none, H.getD 2 none, some (.cells [.int .i64 (msX k), .int .i64 (loX k), .int .i64 (hiX k)]), some (.cells [.int .i64 (loX k), .int .i64 (hiX k)])]) ?_ ?_
          · refine ent_tau [0, 1, 2, 3, 7] ⟨?_, by (repeat' (first | exact trivial | exact rfl | exact congrArg (SV.int .i64) (Int.natCast_succ _).symm | refine And.intro ?_ ?_)), rfl⟩
            (repeat' (first | exact trivial | exact rfl | exact fun _ _ => rfl | exact Or.inl rfl | refine And.intro ?_ ?_))
          refine drawP E_ok [3, 4] pl5_5 (by kernel_rfl) ?_
          (repeat' (first | exact trivial | exact fun _ => rfl | exact rfl | refine And.intro ?_ ?_))
          refine (t24 (loX k) (hiX k)).use [] ?_ (by (repeat' (first | exact trivial | exact rfl | exact fun _ _ => rfl | exact Or.inl rfl | refine And.intro ?_ ?_))) rfl
          (repeat' (first | exact trivial | exact fun _ => rfl | exact rfl | refine And.intro ?_ ?_))
          · simp [under, gB, wB]
          · simp [under, gB, wB]
          · intro h
            simp at h
          · intro _
            refine And.intro ?_ ⟨k + 1, hn', by omega, ?_⟩
            · simp [AllP, under, gB, wB, inR_iff, IntKind.bits]
              omega
            · exact ent_tau [0, 1, 2] ⟨by (repeat' (first | exact trivial | exact rfl | exact fun _ _ => rfl | exact Or.inl rfl | refine And.intro ?_ ?_)), by (repeat' (first | exact trivial | exact rfl | exact congrArg (SV.int .i64) (Int.natCast_succ _).symm | refine And.intro ?_ ?_)), rfl⟩
        · refine (hX).use [4, 5, 6, 0, 1] ?_ (by (repeat' (first | exact trivial | exact rfl | exact fun _ _ => rfl | exact Or.inl rfl | refine And.intro ?_ ?_))) rfl
          (repeat' (first | exact trivial | exact fun _ => rfl | exact rfl | refine And.intro ?_ ?_))
          refine cutP [22, 23, 24] [(2, .ptr 3 0), (3, .ptr 4 0), (4, .int .i64 0)] (fun H => [H.getD 0 none, H.getD 1 none, H.getD 2 none, some (.cells [.int .i64 (msX k), .int .i64 (loX k), .int .i64 (hiX k)]), some (.cells [.int .i64 (loX k), .int .i64 (hiX k)])]) ?_ ?_
          · refine ent_tau [0, 1, 2, 3, 7] ⟨?_, by (repeat' (first | exact trivial | exact rfl | exact congrArg (SV.int .i64) (Int.natCast_succ _).symm | refine And.intro ?_ ?_)), rfl⟩
            (repeat' (first | exact trivial | exact rfl | exact fun _ _ => rfl | exact Or.inl rfl | refine And.intro ?_ ?_))
          refine drawP E_ok [3, 4] pl5_5 (by kernel_rfl) ?_
          (repeat' (first | exact trivial | exact fun _ => rfl | exact rfl | refine And.intro ?_ ?_))
          refine (t24 (loX k) (hiX k)).use [] ?_ (by (repeat' (first | exact trivial | exact rfl | exact fun _ _ => rfl | exact Or.inl rfl | refine And.intro ?_ ?_))) rfl
          (repeat' (first | exact trivial | exact fun _ => rfl | exact rfl | refine And.intro ?_ ?_))
          · simp [under, gB, wB]
          · simp [under, gB, wB]
          · intro h
            simp at h
          · intro _
            refine And.intro ?_ ⟨k + 1, hn', by omega, ?_⟩
            · simp [AllP, under, gB, wB, inR_iff, IntKind.bits]
              omega
            · exact ent_tau [0, 1, 2] ⟨by (repeat' (first | exact trivial | exact rfl | exact fun _ _ => rfl | exact Or.inl rfl | refine And.intro ?_ ?_)), by (repeat' (first | exact trivial | exact rfl | exact congrArg (SV.int .i64) (Int.natCast_succ _).symm | refine And.intro ?_ ?_)), rfl⟩
      · refine (t23_f).use [] ?_ (by (repeat' (first | exact trivial | exact rfl | exact fun _ _ => rfl | exact Or.inl rfl | refine And.intro ?_ ?_))) rfl
        (repeat' (first | exact trivial | exact fun _ => rfl | exact rfl | refine And.intro ?_ ?_))
        refine (hX).use [5, 6, 7, 0, 1] ?_ (by (repeat' (first | exact trivial | exact rfl | exact fun _ _ => rfl | exact Or.inl rfl | refine And.intro ?_ ?_))) rfl
        (repeat' (first | exact trivial | exact fun _ => rfl | exact rfl | refine And.intro ?_ ?_))
        refine cutP [22, 23, 24] [(2, .ptr 3 0), (3, .ptr 4 0), (4, .int .i64 0)] (fun H => [H.getD 0 none, H.getD 1 none, H.getD 2 none, some (.cells [.int .i64 (msX k), .int .i64 (loX k), .int .i64 (hiX k)]), some (.cells [.int .i64 (loX k), .int .i64 (hiX k)])]) ?_ ?_
        · refine ent_tau [0, 1, 2, 3, 4] ⟨?_, by (repeat' (first | exact trivial | exact rfl | exact congrArg (SV.int .i64) (Int.natCast_succ _).symm | refine And.intro ?_ ?_)), rfl⟩
          (repeat' (first | exact trivial | exact rfl | exact fun _ _ => rfl | exact Or.inl rfl | refine And.intro ?_ ?_))
        refine drawP E_ok [3, 4] pl5_5 (by kernel_rfl) ?_
        (repeat' (first | exact trivial | exact fun _ => rfl | exact rfl | refine And.intro ?_ ?_))
        refine (t24 (loX k) (hiX k)).use [] ?_ (by (repeat' (first | exact trivial | exact rfl | exact fun _ _ => rfl | exact Or.inl rfl | refine And.intro ?_ ?_))) rfl
        (repeat' (first | exact trivial | exact fun _ => rfl | exact rfl | refine And.intro ?_ ?_))
        · simp [under, gB, wB]
        · simp [under, gB, wB]
        · intro h
          simp at h
        · intro _
          refine And.intro ?_ ⟨k + 1, hn', by omega, ?_⟩
          · simp [AllP, under, gB, wB, inR_iff, IntKind.bits]
            omega
          · exact ent_tau [0, 1, 2] ⟨by (repeat' (first | exact trivial | exact rfl | exact fun _ _ => rfl | exact Or.inl rfl | refine And.intro ?_ ?_)), by (repeat' (first | exact trivial | exact rfl | exact congrArg (SV.int .i64) (Int.natCast_succ _).symm | refine And.intro ?_ ?_)), rfl⟩
    · have hn' : k = 5 := by
        have : ¬ ((k : Int) < 5) := by simpa using hn
        omega
      subst hn'
      refine And.intro ?_ ?_
      · simp [AllP, under, gB, wB, inR_iff, IntKind.bits]
      refine And.intro trivial ?_
      refine (t23_f).use [] ?_ (by (repeat' (first | exact trivial | exact rfl | exact fun _ _ => rfl | exact Or.inl rfl | refine And.intro ?_ ?_))) rfl
      refine And.intro ?_ ?_
      · simp [AllP, under, gB, wB, inR_iff, IntKind.bits]
      refine (dX1c).use [3, 4, 5, 0, 1] ?_ (by (repeat' (first | exact trivial | exact rfl | exact fun _ _ => rfl | exact Or.inl rfl | refine And.intro ?_ ?_))) rfl
      refine And.intro ?_ ?_
      · simp [AllP, under, gB, wB, inR_iff, IntKind.bits]
      refine (t23_f).use [] ?_ (by (repeat' (first | exact trivial | exact rfl | exact fun _ _ => rfl | exact Or.inl rfl | refine And.intro ?_ ?_))) rfl
      refine And.intro ?_ ?_
      · simp [AllP, under, gB, wB, inR_iff, IntKind.bits]
      refine (dX2c).use [7, 8, 9, 0, 1] ?_ (by (repeat' (first | exact trivial | exact rfl | exact fun _ _ => rfl | exact Or.inl rfl | refine And.intro ?_ ?_))) rfl
      refine And.intro ?_ ?_
      · simp [AllP, under, gB, wB, inR_iff, IntKind.bits]
      refine (t23_f).use [] ?_ (by (repeat' (first | exact trivial | exact rfl | exact fun _ _ => rfl | exact Or.inl rfl | refine And.intro ?_ ?_))) rfl
      refine And.intro ?_ ?_
      · simp [AllP, under, gB, wB, inR_iff, IntKind.bits]
      refine (fXtc).use [11, 12, 13, 0, 1] ?_ (by (repeat' (first | exact trivial | exact rfl | exact fun _ _ => rfl | exact Or.inl rfl | refine And.intro ?_ ?_))) rfl
      refine And.intro ?_ ?_
      · simp [AllP, under, gB, wB, inR_iff, IntKind.bits]
      refine CallP.frameH t23_t [] (by (repeat' (first | exact trivial | exact rfl | exact fun _ _ => rfl | exact Or.inl rfl | refine And.intro ?_ ?_))) rfl ?_
      rintro ce h' ⟨c14, hc14, hd14, rfl, rfl⟩
      refine ⟨rfl, ?_⟩
      refine And.intro ?_ ?_
      · simp [AllP, under, gB, wB, inR_iff, IntKind.bits]
      refine (cYc c14).use [14, 15, 16, 0, 1] ?_ (by (repeat' (first | exact trivial | exact rfl | exact fun _ _ => rfl | exact Or.inl rfl | refine And.intro ?_ ?_))) rfl
      refine And.intro ?_ ?_
      · simp [AllP, under, gB, wB, inR_iff, IntKind.bits]
      refine (t23_f).use [] ?_ (by (repeat' (first | exact trivial | exact rfl | exact fun _ _ => rfl | exact Or.inl rfl | refine And.intro ?_ ?_))) rfl
      refine And.intro ?_ ?_
      · simp [AllP, under, gB, wB, inR_iff, IntKind.bits]
      refine (kXc).use [17, 18, 19, 0, 1] ?_ (by (repeat' (first | exact trivial | exact rfl | exact fun _ _ => rfl | exact Or.inl rfl | refine And.intro ?_ ?_))) rfl
      refine And.intro ?_ ?_
      · simp [AllP, under, gB, wB, inR_iff, IntKind.bits]
      refine CallP.frameH t23_t [] (by (repeat' (first | exact trivial | exact rfl | exact fun _ _ => rfl | exact Or.inl rfl | refine And.intro ?_ ?_))) rfl ?_
      rintro ce h' ⟨c20, hc20, hd20, rfl, rfl⟩
      refine ⟨rfl, ?_⟩
      refine And.intro ?_ ?_
      · simp [AllP, under, gB, wB, inR_iff, IntKind.bits]
      refine (hY30c c20).use [20, 21, 22, 0, 1] ?_ (by (repeat' (first | exact trivial | exact rfl | exact fun _ _ => rfl | exact Or.inl rfl | refine And.intro ?_ ?_))) rfl
      refine And.intro ?_ ?_
      · simp [AllP, under, gB, wB, inR_iff, IntKind.bits]
      refine cutP [] [(5, .ptr 2 0), (6, .int .i64 0), (7, .ptr 3 0), (8, .int .i64 0), (9, .int .i64 29), (10, .int .i64 0), (11, .int .i64 0), (12, .int .i64 0), (13, .int .i64 0), (14, .int .i64 4), (15, .ptr 4 0), (16, .int .i64 10)] (fun _ => [some (.glob 0 [.int .i64 0, .int .i64 1, .int .i64 3, .int .i64 6, .int .i64 9, .int .i64 11, .int .i64 12]), some db, some (.cells [.int .i64 0, .int .i64 0]), some (.cells [.int .i64 6, .int .i64 6]), some (.cells [.int .i64 0, .int .i64 0])]) ?_ ?_
      · refine ent_tau [0, 1, 6, 10, 23] ⟨?_, by (repeat' (first | exact trivial | exact rfl | exact congrArg (SV.int .i64) (Int.natCast_succ _).symm | refine And.intro ?_ ?_)), rfl⟩
        (repeat' (first | exact trivial | exact rfl | exact fun _ _ => rfl | exact Or.inl rfl | refine And.intro ?_ ?_))
      refine drawP E_ok [2, 3, 4] pl5_14 (by kernel_rfl) ?_
      refine And.intro (And.intro ?_ (And.intro (fun h => ?_) (fun h => absurd h (by decide)))) trivial
      · (repeat' (first | exact trivial | exact fun _ => rfl | exact rfl | refine And.intro ?_ ?_))
      refine (t14).use [0, 1] ?_ (by (repeat' (first | exact trivial | exact rfl | exact fun _ _ => rfl | exact Or.inl rfl | refine And.intro ?_ ?_))) rfl
      refine And.intro (And.intro ?_ (And.intro (fun h => ?_) (fun h => absurd h (by decide)))) trivial
      · (repeat' (first | exact trivial | exact fun _ => rfl | exact rfl | refine And.intro ?_ ?_))
      refine (t24 0 0).use [] ?_ (by (repeat' (first | exact trivial | exact rfl | exact fun _ _ => rfl | exact Or.inl rfl | refine And.intro ?_ ?_))) rfl
      refine And.intro (And.intro ?_ (And.intro (fun h => ?_) (fun h => absurd h (by decide)))) trivial
      · (repeat' (first | exact trivial | exact fun _ => rfl | exact rfl | refine And.intro ?_ ?_))
      refine (t24 6 6).use [] ?_ (by (repeat' (first | exact trivial | exact rfl | exact fun _ _ => rfl | exact Or.inl rfl | refine And.intro ?_ ?_))) rfl
      refine And.intro ?_ ?_
      · (repeat' (first | exact trivial | exact fun _ => rfl | exact rfl | refine And.intro ?_ ?_))
      refine And.intro rfl ?_
      refine And.intro ?_ ?_
      · (repeat' (first | exact trivial | exact fun _ => rfl | exact rfl | refine And.intro ?_ ?_))
      exact ent_tau [0, 1] ⟨by (repeat' (first | exact trivial | exact rfl | exact fun _ _ => rfl | exact Or.inl rfl | refine And.intro ?_ ?_)), by (repeat' (first | exact trivial | exact rfl | exact congrArg (SV.int .i64) (Int.natCast_succ _).symm | refine And.intro ?_ ?_)), rfl⟩
end Go.Proofs.YtipbempkngfdbaaDoor
