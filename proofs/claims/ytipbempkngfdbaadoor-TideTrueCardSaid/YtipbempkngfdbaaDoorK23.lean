/-
  Parts: B26, Tab, C5, Sy27, C1, C2.
-/
import Derived.Test.YtipbempkngfdbaaDoorK22
import Derived.Test.YtipbempkngfdbaaDoorK15
import Derived.Test.YtipbempkngfdbaaDoorK11
import Derived.Test.YtipbempkngfdbaaDoorK17
import Derived.Test.YtipbempkngfdbaaDoorRows
set_option linter.unusedVariables false
/-
  Contract: the law package's alive.
-/
namespace Go.Proofs.YtipbempkngfdbaaDoor
open Go Go.Sy
set_option linter.unusedSimpArgs false
set_option maxRecDepth 100000
set_option maxHeartbeats 4000000
attribute [local irreducible] CallP CodeP Ent YieldP

/-- The tables of the program. -/
def HB : SHeap := [some (.glob 0 [.int .i64 0, .int .i64 1, .int .i64 3, .int .i64 6, .int .i64 9, .int .i64 11, .int .i64 12]), some db]
theorem hX10c : CallP Tryd.prog 22 [(TX 1 1).A, .int .i64 10] (TX 1 1).HG (Ret (.tup [.agg [.int .i64 13, .int .i64 14], .int .i64 0]) (TX 1 1).HG) := by
  have h := t22 (TX 1 1) 10
  rwa [hX10] at h
theorem hX30c : CallP Tryd.prog 22 [(TX 1 1).A, .int .i64 30] (TX 1 1).HG (Ret (.tup [.agg [.int .i64 26, .int .i64 26], .int .i64 0]) (TX 1 1).HG) := by
  have h := t22 (TX 1 1) 30
  rwa [hX30] at h
theorem hX0c : CallP Tryd.prog 22 [(TX 1 1).A, .int .i64 0] (TX 1 1).HG (Ret (.tup [.agg [.int .i64 11, .int .i64 12], .int .i64 0]) (TX 1 1).HG) := by
  have h := t22 (TX 1 1) 0
  rwa [hX0] at h
theorem hX45c : CallP Tryd.prog 22 [(TX 1 1).A, .int .i64 45] (TX 1 1).HG (Ret (.tup [.agg [.int .i64 35, .int .i64 36], .int .i64 0]) (TX 1 1).HG) := by
  have h := t22 (TX 1 1) 45
  rwa [hX45] at h
theorem hX90c : CallP Tryd.prog 22 [(TX 1 1).A, .int .i64 90] (TX 1 1).HG (Ret (.tup [.agg [.int .i64 26, .int .i64 26], .int .i64 0]) (TX 1 1).HG) := by
  have h := t22 (TX 1 1) 90
  rwa [hX90] at h
theorem dX0c : CallP Tryd.prog 25 [(TX 1 1).A, .int .i64 0, .int .i64 10] (TX 1 1).HG (Ret (.tup [.agg [.int .i64 7, .int .i64 9], .int .i64 0]) (TX 1 1).HG) := by
  have h := t25 (TX 1 1) 0 10
  rwa [dX0] at h
theorem dX1c : CallP Tryd.prog 25 [(TX 1 1).A, .int .i64 1, .int .i64 10] (TX 1 1).HG (Ret (.tup [.agg [.int .i64 0, .int .i64 0], .int .i64 0]) (TX 1 1).HG) := by
  have h := t25 (TX 1 1) 1 10
  rwa [dX1] at h
theorem dX2c : CallP Tryd.prog 25 [(TX 1 1).A, .int .i64 1, .int .i64 30] (TX 1 1).HG (Ret (.tup [.agg [.int .i64 6, .int .i64 6], .int .i64 0]) (TX 1 1).HG) := by
  have h := t25 (TX 1 1) 1 30
  rwa [dX2] at h
theorem sXc : CallP Tryd.prog 31 [(TX 1 1).A, .int .i64 0] (TX 1 1).HG (Ret (.tup [.agg [.int .i64 5, .int .i64 6], .int .i64 0]) (TX 1 1).HG) := by
  have h := t31 (TX 1 1) 0
  rwa [sX] at h
theorem fXfc : CallP Tryd.prog 17 [(TX 1 1).A, .int .i64 1, .int .i64 5, .int .i64 0, .bool false] (TX 1 1).HG (Ret (.tup [.int .i64 28, .int .i64 0]) (TX 1 1).HG) := by
  have h := t17 (TX 1 1) 1 5 0 false
  rwa [fXf] at h
theorem fXtc : CallP Tryd.prog 17 [(TX 1 1).A, .int .i64 1, .int .i64 5, .int .i64 0, .bool true] (TX 1 1).HG (Ret (.tup [.int .i64 29, .int .i64 0]) (TX 1 1).HG) := by
  have h := t17 (TX 1 1) 1 5 0 true
  rwa [fXt] at h
theorem pXc : CallP Tryd.prog 32 [(TX 1 1).A, .int .i64 30, .int .i64 5, .int .i64 8] (TX 1 1).HG (Ret (.tup [.int .i64 2, .int .i64 2, .int .i64 0]) (TX 1 1).HG) := by
  have h := t32 (TX 1 1) 30 5 8
  rwa [pX] at h
theorem cXc : CallP Tryd.prog 26 [(TX 1 1).A] (TX 1 1).HG (Ret (.tup [.int .i64 6, .int .i64 0]) (TX 1 1).HG) := by
  have h := t26 (TX 1 1)
  rwa [cX] at h
theorem nXc : CallP Tryd.prog 37 [(TX 1 1).A, .int .i64 0] (TX 1 1).HG (Ret (.tup [.int .i64 0, .int .i64 3, .int .i64 0]) (TX 1 1).HG) := by
  have h := t37 (TX 1 1) 0
  rwa [nX] at h
theorem kXc : CallP Tryd.prog 20 [(TX 1 1).A] (TX 1 1).HG (Ret (.tup [.int .i64 0, .int .i64 4]) (TX 1 1).HG) := by
  have h := t20 (TX 1 1)
  rwa [kX] at h
theorem kYc (c : Nat) : CallP Tryd.prog 20 [(TX 2 c).A] (TX 2 c).HG (Ret (.tup [.int .i64 3, .int .i64 0]) (TX 2 c).HG) := by
  have h := t20 (TX 2 c)
  rwa [kY] at h
theorem cYc (c : Nat) : CallP Tryd.prog 26 [(TX 2 c).A] (TX 2 c).HG (Ret (.tup [.int .i64 0, .int .i64 0]) (TX 2 c).HG) := by
  have h := t26 (TX 2 c)
  rwa [cY] at h
theorem hY30c (c : Nat) : CallP Tryd.prog 22 [(TX 2 c).A, .int .i64 30] (TX 2 c).HG (Ret (.tup [.agg [.int .i64 0, .int .i64 0], .int .i64 10]) (TX 2 c).HG) := by
  have h := t22 (TX 2 c) 30
  rwa [hY30] at h
theorem vXc : CallP Tryd.prog 15 [(TX 1 1).A, .int .i64 1, .int .i64 5, .int .i64 8] (TX 1 1).HG (fun ce h' => ∃ cap, 2 ≤ cap ∧ cap ≤ 9223372036854775807 ∧ ce = .ret (.tup [.slice 5 2 0 2 cap, .int .i64 0]) ∧ h' = (TX 1 1).HG ++ [some (.arr 2 2 cap (prow [(29, 33), (87, 91)]))]) := by
  have h := t15 (TX 1 1) 1 5 8
  rw [vX] at h
  refine h.mono ?_
  rintro ce h' (⟨h0, _⟩ | ⟨_, cap, h1, h2, h3, h4⟩)
  · cases h0
  · exact ⟨cap, h1, h2, h3, h4⟩
theorem t14 : CallP Tryd.prog 14 [] HB (Ret (.bool true) HB) := by
  refine callR (E := E) E_ok Tryd.func14 rfl ?_
  refine And.intro ?_ ?_
  · simp [AllP, under, gB, wB, inR_iff, IntKind.bits]
  refine (t23_f).use [] ?_ (by (repeat' (first | exact trivial | exact rfl | exact fun _ _ => rfl | exact Or.inl rfl | refine And.intro ?_ ?_))) rfl
  refine And.intro ?_ ?_
  · simp [AllP, under, gB, wB, inR_iff, IntKind.bits]
  refine (hX10c).use [2, 3, 4, 0, 1] ?_ (by (repeat' (first | exact trivial | exact rfl | exact fun _ _ => rfl | exact Or.inl rfl | refine And.intro ?_ ?_))) rfl
  refine And.intro ?_ ?_
  · simp [AllP, under, gB, wB, inR_iff, IntKind.bits]
  refine (t23_f).use [] ?_ (by (repeat' (first | exact trivial | exact rfl | exact fun _ _ => rfl | exact Or.inl rfl | refine And.intro ?_ ?_))) rfl
  refine And.intro ?_ ?_
  · simp [AllP, under, gB, wB, inR_iff, IntKind.bits]
  refine (dX0c).use [6, 7, 8, 0, 1] ?_ (by (repeat' (first | exact trivial | exact rfl | exact fun _ _ => rfl | exact Or.inl rfl | refine And.intro ?_ ?_))) rfl
  refine And.intro ?_ ?_
  · simp [AllP, under, gB, wB, inR_iff, IntKind.bits]
  refine (t23_f).use [] ?_ (by (repeat' (first | exact trivial | exact rfl | exact fun _ _ => rfl | exact Or.inl rfl | refine And.intro ?_ ?_))) rfl
  refine And.intro ?_ ?_
  · simp [AllP, under, gB, wB, inR_iff, IntKind.bits]
  refine (sXc).use [10, 11, 12, 0, 1] ?_ (by (repeat' (first | exact trivial | exact rfl | exact fun _ _ => rfl | exact Or.inl rfl | refine And.intro ?_ ?_))) rfl
  refine And.intro ?_ ?_
  · simp [AllP, under, gB, wB, inR_iff, IntKind.bits]
  refine (t23_f).use [] ?_ (by (repeat' (first | exact trivial | exact rfl | exact fun _ _ => rfl | exact Or.inl rfl | refine And.intro ?_ ?_))) rfl
  refine And.intro ?_ ?_
  · simp [AllP, under, gB, wB, inR_iff, IntKind.bits]
  refine CallP.frameH vXc [14, 15, 16, 0, 1] (by (repeat' (first | exact trivial | exact rfl | exact fun _ _ => rfl | exact Or.inl rfl | refine And.intro ?_ ?_))) rfl ?_
  rintro ce h' ⟨cap, hc1, hc2, rfl, rfl⟩
  refine ⟨rfl, ?_⟩
  refine And.intro ?_ ?_
  · simp [AllP, under, gB, wB, inR_iff, IntKind.bits]
  refine (t23_f).use [] ?_ (by (repeat' (first | exact trivial | exact rfl | exact fun _ _ => rfl | exact Or.inl rfl | refine And.intro ?_ ?_))) rfl
  refine And.intro ?_ ?_
  · simp [AllP, under, gB, wB, inR_iff, IntKind.bits]
  refine (fXfc).use [18, 19, 20, 0, 1] ?_ (by (repeat' (first | exact trivial | exact rfl | exact fun _ _ => rfl | exact Or.inl rfl | refine And.intro ?_ ?_))) rfl
  refine And.intro ?_ ?_
  · simp [AllP, under, gB, wB, inR_iff, IntKind.bits]
  refine (t23_f).use [] ?_ (by (repeat' (first | exact trivial | exact rfl | exact fun _ _ => rfl | exact Or.inl rfl | refine And.intro ?_ ?_))) rfl
  refine And.intro ?_ ?_
  · simp [AllP, under, gB, wB, inR_iff, IntKind.bits]
  refine (pXc).use [21, 22, 23, 0, 1] ?_ (by (repeat' (first | exact trivial | exact rfl | exact fun _ _ => rfl | exact Or.inl rfl | refine And.intro ?_ ?_))) rfl
  refine And.intro ?_ ?_
  · simp [AllP, under, gB, wB, inR_iff, IntKind.bits]
  refine (t23_f).use [] ?_ (by (repeat' (first | exact trivial | exact rfl | exact fun _ _ => rfl | exact Or.inl rfl | refine And.intro ?_ ?_))) rfl
  refine And.intro ?_ ?_
  · simp [AllP, under, gB, wB, inR_iff, IntKind.bits]
  refine (cXc).use [24, 25, 26, 0, 1] ?_ (by (repeat' (first | exact trivial | exact rfl | exact fun _ _ => rfl | exact Or.inl rfl | refine And.intro ?_ ?_))) rfl
  refine And.intro ?_ ?_
  · simp [AllP, under, gB, wB, inR_iff, IntKind.bits]
  refine (t23_f).use [] ?_ (by (repeat' (first | exact trivial | exact rfl | exact fun _ _ => rfl | exact Or.inl rfl | refine And.intro ?_ ?_))) rfl
  refine And.intro ?_ ?_
  · simp [AllP, under, gB, wB, inR_iff, IntKind.bits]
  refine (nXc).use [27, 28, 29, 0, 1] ?_ (by (repeat' (first | exact trivial | exact rfl | exact fun _ _ => rfl | exact Or.inl rfl | refine And.intro ?_ ?_))) rfl
  refine And.intro ?_ ?_
  · simp [AllP, under, gB, wB, inR_iff, IntKind.bits]
  refine CallP.frameH t23_t [] (by (repeat' (first | exact trivial | exact rfl | exact fun _ _ => rfl | exact Or.inl rfl | refine And.intro ?_ ?_))) rfl ?_
  rintro ce h' ⟨c, hc3, hc4, rfl, rfl⟩
  refine ⟨rfl, ?_⟩
  refine And.intro ?_ ?_
  · simp [AllP, under, gB, wB, inR_iff, IntKind.bits]
  refine (kYc c).use [30, 31, 32, 0, 1] ?_ (by (repeat' (first | exact trivial | exact rfl | exact fun _ _ => rfl | exact Or.inl rfl | refine And.intro ?_ ?_))) rfl
  refine And.intro ?_ ?_
  · simp [AllP, under, gB, wB, inR_iff, IntKind.bits]
  refine cutP [] [(1, .ptr 2 0), (2, .int .i64 0), (3, .ptr 3 0), (4, .int .i64 0), (5, .ptr 4 0), (6, .int .i64 0), (7, .slice 5 2 0 2 cap), (8, .int .i64 0), (9, .int .i64 28), (10, .int .i64 0), (11, .int .i64 2), (12, .int .i64 2), (13, .int .i64 0), (14, .int .i64 6), (15, .int .i64 0), (16, .int .i64 0), (17, .int .i64 3), (18, .int .i64 0), (19, .int .i64 3), (20, .int .i64 0)] (fun _ => [some (.glob 0 [.int .i64 0, .int .i64 1, .int .i64 3, .int .i64 6, .int .i64 9, .int .i64 11, .int .i64 12]), some db, some (.cells [.int .i64 13, .int .i64 14]), some (.cells [.int .i64 7, .int .i64 9]), some (.cells [.int .i64 5, .int .i64 6]), some (.arr 2 2 cap (prow [(29, 33), (87, 91)]))]) ?_ ?_
  · refine ent_tau [0, 1, 5, 9, 13, 17] ⟨?_, by (repeat' (first | exact trivial | exact rfl | exact congrArg (SV.int .i64) (Int.natCast_succ _).symm | refine And.intro ?_ ?_)), rfl⟩
    (repeat' (first | exact trivial | exact rfl | exact fun _ _ => rfl | exact Or.inl rfl | refine And.intro ?_ ?_))
  refine drawP E_ok [2, 3, 4] pl14_10 (by kernel_rfl) ?_
  refine And.intro (And.intro ?_ ?_) trivial
  · (repeat' (first | exact trivial | exact fun _ => rfl | exact rfl | refine And.intro ?_ ?_))
  refine (t24 13 14).use [] ?_ (by (repeat' (first | exact trivial | exact rfl | exact fun _ _ => rfl | exact Or.inl rfl | refine And.intro ?_ ?_))) rfl
  refine And.intro (And.intro ?_ (And.intro (fun h => ?_) (fun h => absurd h (by decide)))) trivial
  · (repeat' (first | exact trivial | exact fun _ => rfl | exact rfl | refine And.intro ?_ ?_))
  refine (t24 7 9).use [] ?_ (by (repeat' (first | exact trivial | exact rfl | exact fun _ _ => rfl | exact Or.inl rfl | refine And.intro ?_ ?_))) rfl
  refine And.intro (And.intro ?_ (And.intro (fun h => ?_) (fun h => absurd h (by decide)))) trivial
  · (repeat' (first | exact trivial | exact fun _ => rfl | exact rfl | refine And.intro ?_ ?_))
  refine (t24 5 6).use [] ?_ (by (repeat' (first | exact trivial | exact rfl | exact fun _ _ => rfl | exact Or.inl rfl | refine And.intro ?_ ?_))) rfl
  refine And.intro (And.intro ?_ (And.intro (fun h => ?_) (fun h => absurd h (by decide)))) trivial
  · (repeat' (first | exact trivial | exact fun _ => rfl | exact rfl | refine And.intro ?_ ?_))
  refine (t24 29 33).use [] ?_ (by (repeat' (first | exact trivial | exact rfl | exact fun _ _ => rfl | exact Or.inl rfl | refine And.intro ?_ ?_))) rfl
  refine And.intro (And.intro ?_ (And.intro (fun h => ?_) (fun h => absurd h (by decide)))) trivial
  · (repeat' (first | exact trivial | exact fun _ => rfl | exact rfl | refine And.intro ?_ ?_))
  refine (t24 87 91).use [] ?_ (by (repeat' (first | exact trivial | exact rfl | exact fun _ _ => rfl | exact Or.inl rfl | refine And.intro ?_ ?_))) rfl
  refine And.intro (And.intro ?_ (And.intro (fun h => ?_) (fun h => absurd h (by decide)))) trivial
  · (repeat' (first | exact trivial | exact fun _ => rfl | exact rfl | refine And.intro ?_ ?_))
  skip
  refine And.intro (And.intro ?_ (And.intro (fun h => ?_) (fun h => absurd h (by decide)))) trivial
  · (repeat' (first | exact trivial | exact fun _ => rfl | exact rfl | refine And.intro ?_ ?_))
  refine (t19 [(29, 33), (87, 91)] [(29, 33), (87, 91)] cap 2 (by decide)).use [5, 6] ?_ ?_ rfl
  rotate_left
  · (repeat' (first | exact trivial | exact rfl | exact fun _ _ => rfl | exact Or.inl rfl | refine And.intro ?_ ?_))
    intro k hk
    rcases lt2 hk with rfl | rfl <;> rfl
  refine And.intro ?_ ?_
  · (repeat' (first | exact trivial | exact fun _ => rfl | exact rfl | refine And.intro ?_ ?_))
  refine And.intro rfl ?_
  refine And.intro ?_ ?_
  · (repeat' (first | exact trivial | exact fun _ => rfl | exact rfl | refine And.intro ?_ ?_))
  exact ent_tau [0, 1] ⟨by (repeat' (first | exact trivial | exact rfl | exact fun _ _ => rfl | exact Or.inl rfl | refine And.intro ?_ ?_)), by (repeat' (first | exact trivial | exact rfl | exact congrArg (SV.int .i64) (Int.natCast_succ _).symm | refine And.intro ?_ ?_)), rfl⟩
end Go.Proofs.YtipbempkngfdbaaDoor
/-
  The tables that the rows of this seat list, as blocks.
-/
namespace Go.Proofs.YtipbempkngfdbaaDoor
open Go Go.Sy
set_option maxRecDepth 100000

theorem gDone : Tryd.prog.globalNamed "dipworks/tide.done" = some 0 := by kernel_rfl
theorem gDb : Tryd.prog.globalNamed "math/bits.deBruijn64tab" = some 1 := by kernel_rfl
theorem gDoneT : (Tryd.prog.globals[0]?).map (·.type) = some 148 := by kernel_rfl
theorem gDbT : (Tryd.prog.globals[1]?).map (·.type) = some 162 := by kernel_rfl
theorem c148 : Tryd.prog.cellsOf 148 = 7 := by kernel_rfl
theorem c162 : Tryd.prog.cellsOf 162 = 64 := by kernel_rfl
theorem c3 : Tryd.prog.cellsOf 3 = 1 := by kernel_rfl
theorem c5 : Tryd.prog.cellsOf 5 = 1 := by kernel_rfl
def tDone : List Int := [0, 1, 3, 6, 9, 11, 12]
def tDb : List Int := [0, 1, 56, 2, 57, 49, 28, 3, 61, 58, 42, 50, 38, 29, 17, 4, 62, 47, 59, 36, 45, 43, 51, 22, 53, 39, 33, 30, 24, 18, 12, 5, 63, 55, 48, 27, 60, 41, 37, 16, 46, 35, 44, 21, 52, 32, 23, 11, 54, 26, 40, 15, 34, 20, 31, 10, 25, 14, 19, 9, 13, 8, 7, 6]
theorem tabDb {W : World} (h : laidMetH Tryd.prog Rows.tideNamesRow.laid W) : Lib.TabIs Tryd.prog W "math/bits.deBruijn64tab" .u8 tDb :=
  Lib.tabIs_of_head (rest := [("dipworks/tide.done", Rows.laid_dipworks_tide_done)]) gDb gDbT Tryd.underlying162 Tryd.underlying5 c5 c162 h
theorem tabDone {W : World} (h : laidMetH Tryd.prog Rows.tideNamesRow.laid W) : Lib.TabIs Tryd.prog W "dipworks/tide.done" .i64 tDone :=
  Lib.tabIs_of_head (rest := []) gDone gDoneT Tryd.underlying148 Tryd.underlying3 c3 c148 (laidMet.tail (x := ("math/bits.deBruijn64tab", Rows.laid_math_bits_deBruijn64tab)) h)

/-- A world that holds both tables. -/
theorem satHB {W : World} (h : laidMetH Tryd.prog Rows.tideNamesRow.laid W) : Sat (fun j => [((0 : Nat), (0 : Nat)), (1, 0)][j]?) (fun _ _ => False) HB W (fun _ => False) W := by
  refine satRo _ rfl ?_ ?_
  · intro i x hx
    match i, hx with
    | 0, hx => cases hx; exact ⟨_, rfl, rfl⟩
    | 1, hx => cases hx; exact ⟨_, rfl, rfl⟩
  · intro i o a ho ha
    match i, ho, ha with
    | 0, ho, ha => cases ho; cases ha; exact glob_holds (tabDone h) gDone
    | 1, ho, ha => cases ho; cases ha; exact glob_holds (tabDb h) gDb
end Go.Proofs.YtipbempkngfdbaaDoor
/-
  A tide that is handed to a statement, as rows that are only read.
-/
namespace Go.Proofs.YtipbempkngfdbaaDoor
open Go Go.Sy Go.ChangeShapes Go.WideShapes Go.ChangeAt Go.RowKit
set_option maxRecDepth 100000

section
variable {H : Type} {enc : TypeId × Value → H} {w : World} {base : Nat} {sp : Nat → Bool} {held : Bool}
theorem it3 : IntT enc Tryd.prog w base sp held 3 1 := IntT.int Tryd.underlying3 c3
theorem it41 : IntT enc Tryd.prog w base sp held 41 2 := IntT.two Tryd.underlying41 it3 it3 rfl rfl (by kernel_rfl)
theorem it54 : IntT enc Tryd.prog w base sp held 54 3 := IntT.two (n := 1) (m := 2) Tryd.underlying54 it3 it41 rfl rfl (by kernel_rfl)
theorem it62 : IntT enc Tryd.prog w base sp held 62 4 := IntT.three (n := 1) (m := 1) (k := 2) Tryd.underlying62 it3 it3 it41 rfl rfl rfl (by kernel_rfl)

theorem den_three {η : Nam} {x y z : SV} {a b c : Value} (hx : den η x = some a) (hy : den η y = some b) (hz : den η z = some c) : den η (.agg [x, y, z]) = some (.agg #[a, b, c]) := by
  simp [den, denL, hx, hy, hz]
/-- A slice of rows, whether it is nil or not. -/
theorem partOpen {t e : TypeId} {sz : Nat} {v : Value} {d : DataW H} {ps : List MemPlace} {r : Reach} {b0 : Nat} (ht : Tryd.prog.underlying t = some (.slice e)) (he : IntT enc Tryd.prog w base sp held e sz)
    (h0 : ∃ cs T fz, w.heap[0]? = some (.cells cs T fz)) (hval : Cell.okWide Tryd.prog w r b0 t v) {fuel : Nat} (h : DataW.trod enc Tryd.prog w base sp held fuel t [v] = some (d, ps)) :
    ∃ (b : Bool) (a : Nat × Nat) (n c : Nat), (∀ (η : Nam) i, η i = some a → den η (.osl b i sz n c) = some v) ∧ ∃ cs T fz, w.heap[a.1]? = some (.cells cs T fz) ∧ ∀ k, k < n → ∀ j, j < sz → cs[a.2 + (k * sz + j)]? = some (.int .i64 (cellI w a (k * sz + j))) := by
  rcases sliceOpen ht he hval h with rfl | ⟨a, n, c, rfl, _, _, cs, T, fz, h1, h2⟩
  · obtain ⟨cs, T, fz, h1⟩ := h0
    exact ⟨false, (0, 0), 0, 0, fun η i _ => by simp [den], cs, T, fz, h1, fun k hk => by omega⟩
  · exact ⟨true, a, n, c, fun η i hi => by simp [den, hi], cs, T, fz, h1, h2⟩

/-- The tide that an argument is. -/
structure TideIn (w : World) (v : Value) (t : TD) (a0 a1 a2 : Nat × Nat) : Prop where
  ok : t.ok
  den : ∀ η : Nam, η 0 = some a0 → η 1 = some a1 → η 2 = some a2 → den η t.A = some v
  m : ∀ (η : Nam) F, (SObj.roa 3 t.nM (row3 t.mi t.mlo t.mhi)).holds η a0 F w
  s : ∀ (η : Nam) F, (SObj.roa 2 t.nS (row2 t.slo t.shi)).holds η a1 F w
  l : ∀ (η : Nam) F, (SObj.roa 4 t.nL (row4 t.lp t.lm t.llo t.lhi)).holds η a2 F w
theorem tideOpen {v : Value} {d : DataW H} {ps : List MemPlace} {r : Reach} {b0 : Nat} (h0 : ∃ cs T fz, w.heap[0]? = some (.cells cs T fz)) (hval : Value.okWide Tryd.prog w r b0 26 v)
    (h : DataW.Trod enc Tryd.prog w base sp held 26 v d ps) : ∃ t a0 a1 a2, TideIn w v t a0 a1 a2 := by
  unfold Value.okWide at hval
  rw [Tryd.underlying26] at hval
  obtain ⟨cs, rfl, hsz, ts, hts, _, hc⟩ := hval
  have e1 : Tryd.prog.cellsOf 26 = 3 := by kernel_rfl
  have e2 : Tryd.prog.cellTypes Tryd.prog.depth 26 = some [22, 23, 24] := by kernel_rfl
  have e3 : Tryd.prog.cellsOf 22 = 1 := by kernel_rfl
  have e4 : Tryd.prog.cellsOf 23 = 1 := by kernel_rfl
  have e5 : Tryd.prog.cellsOf 24 = 1 := by kernel_rfl
  rw [e1] at hsz
  rw [e2] at hts
  cases hts
  obtain ⟨fuel, h⟩ := h
  obtain ⟨v0, v1, v2, rfl⟩ : ∃ v0 v1 v2, cs = #[v0, v1, v2] := by
    obtain ⟨l⟩ := cs
    match l, hsz with
    | [a, b, c], _ => exact ⟨a, b, c, rfl⟩
  obtain ⟨xs, n, rfl, hx, _, hlen, hf⟩ := DataW.trod_struct Tryd.underlying26 h
  have hlen' : xs.length = 3 := hlen
  have f0 : DataW.trod enc Tryd.prog w base sp held n 22 (([v0, v1, v2].drop 0).take (Tryd.prog.cellsOf 22)) = xs[0]? := hf 0 _ rfl
  rw [e3, List.getElem?_eq_getElem (by omega)] at f0
  have f1 : DataW.trod enc Tryd.prog w base sp held n 23 (([v0, v1, v2].drop 1).take (Tryd.prog.cellsOf 23)) = xs[1]? := hf 1 _ rfl
  rw [e4, List.getElem?_eq_getElem (by omega)] at f1
  have f2 : DataW.trod enc Tryd.prog w base sp held n 24 (([v0, v1, v2].drop 2).take (Tryd.prog.cellsOf 24)) = xs[2]? := hf 2 _ rfl
  rw [e5, List.getElem?_eq_getElem (by omega)] at f2
  obtain ⟨u0, hu0, w0⟩ := hc 0 v0 rfl
  obtain ⟨u1, hu1, w1⟩ := hc 1 v1 rfl
  obtain ⟨u2, hu2, w2⟩ := hc 2 v2 rfl
  cases hu0
  cases hu1
  cases hu2
  obtain ⟨bM, a0, nM, cM, d0, cs0, T0, z0, g0, k0⟩ := partOpen Tryd.underlying22 it54 h0 w0 f0
  obtain ⟨bS, a1, nS, cS, d1, cs1, T1, z1, g1, k1⟩ := partOpen Tryd.underlying23 it41 h0 w1 f1
  obtain ⟨bL, a2, nL, cL, d2, cs2, T2, z2, g2, k2⟩ := partOpen Tryd.underlying24 it62 h0 w2 f2
  refine ⟨⟨nM, nS, nL, fun k => cellI w a0 (k * 3), fun k => cellI w a0 (k * 3 + 1), fun k => cellI w a0 (k * 3 + 2), fun k => cellI w a1 (k * 2), fun k => cellI w a1 (k * 2 + 1), fun k => cellI w a2 (k * 4), fun k => cellI w a2 (k * 4 + 1), fun k => cellI w a2 (k * 4 + 2), fun k => cellI w a2 (k * 4 + 3), bM, bS, bL, cM, cS, cL⟩, a0, a1, a2, ?_, ?_, ?_, ?_, ?_⟩
  · constructor <;> intro k <;> exact cellI_ok _ _ _
  · intro η q0 q1 q2
    exact den_three (d0 η 0 q0) (d1 η 1 q1) (d2 η 2 q2)
  · intro η F
    refine ⟨cs0, T0, z0, g0, fun k hk => ⟨_, rfl, rfl, fun j v hj => ?_⟩⟩
    match j, hj with
    | 0, hj => cases hj; exact k0 k hk 0 (by omega)
    | 1, hj => cases hj; exact k0 k hk 1 (by omega)
    | 2, hj => cases hj; exact k0 k hk 2 (by omega)
  · intro η F
    refine ⟨cs1, T1, z1, g1, fun k hk => ⟨_, rfl, rfl, fun j v hj => ?_⟩⟩
    match j, hj with
    | 0, hj => cases hj; exact k1 k hk 0 (by omega)
    | 1, hj => cases hj; exact k1 k hk 1 (by omega)
  · intro η F
    refine ⟨cs2, T2, z2, g2, fun k hk => ⟨_, rfl, rfl, fun j v hj => ?_⟩⟩
    match j, hj with
    | 0, hj => cases hj; exact k2 k hk 0 (by omega)
    | 1, hj => cases hj; exact k2 k hk 1 (by omega)
    | 2, hj => cases hj; exact k2 k hk 2 (by omega)
    | 3, hj => cases hj; exact k2 k hk 3 (by omega)
end

/-- A world that holds the rows of a tide, and both tables. -/
theorem satHG {w : World} {v : Value} {t : TD} {a0 a1 a2 : Nat × Nat} (h : TideIn w v t a0 a1 a2) (hL : laidMetH Tryd.prog Rows.tideNamesRow.laid w) :
    Sat (fun j => [a0, a1, a2, ((0 : Nat), (0 : Nat)), (1, 0)][j]?) (fun _ _ => False) t.HG w (fun _ => False) w := by
  refine satRo _ rfl ?_ ?_
  · intro i x hx
    match i, hx with
    | 0, hx => cases hx; exact ⟨_, rfl, rfl⟩
    | 1, hx => cases hx; exact ⟨_, rfl, rfl⟩
    | 2, hx => cases hx; exact ⟨_, rfl, rfl⟩
    | 3, hx => cases hx; exact ⟨_, rfl, rfl⟩
    | 4, hx => cases hx; exact ⟨_, rfl, rfl⟩
  · intro i o a ho ha
    match i, ho, ha with
    | 0, ho, ha => cases ho; cases ha; exact h.m _ _
    | 1, ho, ha => cases ho; cases ha; exact h.s _ _
    | 2, ho, ha => cases ho; cases ha; exact h.l _ _
    | 3, ho, ha => cases ho; cases ha; exact glob_holds (tabDone hL) gDone
    | 4, ho, ha => cases ho; cases ha; exact glob_holds (tabDb hL) gDb
/-- The first block holds cells. -/
theorem cells0 {w : World} (hL : laidMetH Tryd.prog Rows.tideNamesRow.laid w) : ∃ cs T fz, w.heap[0]? = some (.cells cs T fz) := by
  have h := tabDone hL
  unfold Lib.TabIs World.var? at h
  rw [gDone] at h
  simp only [Option.bind_some] at h
  split at h
  · rename_i e
    exact ⟨_, _, _, e⟩
  · cases h
end Go.Proofs.YtipbempkngfdbaaDoor
/-
  Code that is walked up to some place, and said anew there.
-/
namespace Go.Sy
open Go
set_option maxRecDepth 100000

/-- As X, but stops behind k steps. -/
def XK (E : Env) (P : Program) (r : Option Nat) (n : Nat) : Nat → Code → St → List Prop → KS → Prop
  | 0, c, s, ob, K => fcP ob fun ob => AllP ob ∧ CodeP P r n c s fun se s => K se s []
  | k + 1, .seq a b, s, ob, K => X E P r n a s ob (seqK (fun s ob => XK E P r n k b s ob K) K)
  | _ + 1, c, s, ob, K => X E P r n c s ob K
theorem XK_owed {E : Env} {P : Program} {r : Option Nat} {n : Nat} : ∀ (k : Nat) (c : Code) (s : St) (ob : List Prop) (K : KS), Good K → XK E P r n k c s ob K → AllP ob
  | 0, c, s, ob, K, _, h => by
    simp only [XK, fcP_eq] at h
    exact h.1
  | k + 1, c, s, ob, K, hK, h => by
    cases c with
    | seq a b =>
      refine X_owed a s ob _ (fun se s ob hk => ?_) h
      cases se with
      | normal => exact XK_owed k b s ob K hK hk
      | _ => exact hK _ _ _ hk
    | _ => exact X_owed _ s ob K hK h
theorem XK_ok {E : Env} {P : Program} (hE : E.ok P) {r : Option Nat} {n : Nat} : ∀ (k : Nat) (c : Code) (s : St) (ob : List Prop) (K : KS) (K0 : SE → St → Prop), Good K → (∀ se s ob, K se s ob → K0 se s) → XK E P r n k c s ob K → CodeP P r n c s K0
  | 0, c, s, ob, K, K0, hK, hKK, h => by
    simp only [XK, fcP_eq] at h
    exact fun η0 η φ w0 Ef w a h1 h2 h3 h4 h5 => wpIn_mono (h.2 η0 η φ w0 Ef w a h1 h2 h3 h4 h5) fun e a w ⟨se, s, η', φ', k, rest⟩ => ⟨se, s, η', φ', hKK _ _ _ k, rest⟩
  | k + 1, c, s, ob, K, K0, hK, hKK, h => by
    cases c with
    | seq a b =>
      have hb : ∀ s ob, XK E P r n k b s ob K → CodeP P r n b s K0 := fun s ob hk => XK_ok hE k b s ob K K0 hK hKK hk
      have ha := X_ok hE a s ob _ (fun se s => match se with | .normal => CodeP P r n b s K0 | se => K0 se s) (fun se s ob hk => by
        cases se with
        | normal => exact XK_owed k b s ob K hK hk
        | _ => exact hK _ _ _ hk) (fun se s ob hk => by
        cases se with
        | normal => exact hb _ _ hk
        | _ => exact hKK _ _ _ hk) h
      intro η0 η φ w0 Ef w a' h1 h2 h3 h4 h5
      refine wpIn_seq (wpIn_mono (ha η0 η φ w0 Ef w a' h1 h2 h3 h4 h5) ?_)
      rintro e a w ⟨se, s, η', φ', k, p1, p2, pe, p3, p4, p5⟩
      cases se with
      | normal =>
        have pe : e = .normal := pe
        subst pe
        exact k η0 η' φ' w0 Ef w a p1 p2 p3 p4 p5
      | exit i =>
        have pe : e = .exit i := pe
        subst pe
        exact ⟨.exit i, s, η', φ', k, p1, p2, rfl, p3, p4, p5⟩
      | goto l =>
        have pe : e = .goto l := pe
        subst pe
        exact ⟨.goto l, s, η', φ', k, p1, p2, rfl, p3, p4, p5⟩
      | ret =>
        have pe : e = .ret := pe
        subst pe
        exact ⟨.ret, s, η', φ', k, p1, p2, rfl, p3, p4, p5⟩
      | panic v =>
        obtain ⟨u, hu, rfl⟩ := pe
        exact ⟨.panic v, s, η', φ', k, p1, p2, ⟨u, hu, rfl⟩, p3, p4, p5⟩
    | _ => exact X_ok hE _ s ob K K0 hK hKK h
/-- Code, walked up to some place. -/
theorem codeP_XK {E : Env} {P : Program} (hE : E.ok P) (k : Nat) {r : Option Nat} {n : Nat} {c : Code} {s : St} {K : SE → St → Prop} (h : fcSt s fun s => XK E P r n k c s [] fun se s ob => fcP ob fun ob => AllP ob ∧ K se s) : CodeP P r n c s K := by
  rw [fcSt_eq] at h
  exact XK_ok hE k c s [] _ K (fun se s ob hk => by rw [fcP_eq] at hk; exact hk.1) (fun se s ob hk => by rw [fcP_eq] at hk; exact hk.2) h
theorem callP_enterK {E : Env} {P : Program} (hE : E.ok P) (k : Nat) {f : Nat} {fn : Func} {c : Code} {args : List SV} {h : SHeap} {K : CE → SHeap → Prop} (hf : P.funcs[f]? = some fn) (hb : fn.body = some c)
    (hx : XK E P none h.length k c ⟨initT args fn.ntmps, h, []⟩ [] (retKS E fn.results.toList K)) : CallP P f args h K := by
  intro η φ w0 Ef w vs hs hd
  have hc := XK_ok hE k c _ _ _ (fun se s => ∃ ob, retKS E fn.results.toList K se s ob) (retKS_good E fn.results.toList K) (fun se s ob hk => ⟨ob, hk⟩) hx η η φ w0 Ef w { tmps := vs.toArray ++ Array.replicate (fn.ntmps - vs.toArray.size) undef, defers := [] } (Pin.refl _ _) (Nat.le_refl _) hs (initT_ok hd fn.ntmps) rfl
  refine calls_of_wp hf hb (wp_mono (wpIn_wide.1 hc) ?_)
  rintro e a w' ⟨se, s, η', φ', ⟨ob, k⟩, p1, p2, pe, p3, p4, p5⟩
  unfold retKS at k
  split at k
  · rename_i hD
    split at k
    · rename_i us ob' hr
      rw [fcP_eq, fcV_eq] at k
      obtain ⟨ko, k⟩ := k
      obtain ⟨u, h1, h2⟩ := run_results (P := P) hE p3 p4 hr (AllP_iff.2 fun p hp => AllP_iff.1 ko p (List.mem_append_left _ hp))
      have pe : e = .normal := pe
      subst pe
      rw [hD] at p5
      exact ⟨by simpa [DRel] using p5.symm, u, h2, _, _, η', φ', k, p2, p1, ⟨u, h1, rfl⟩, p3⟩
    · exact k.elim
  · rename_i hD
    split at k
    · rename_i us ob' hr
      rw [fcP_eq, fcV_eq] at k
      obtain ⟨ko, k⟩ := k
      obtain ⟨u, h1, h2⟩ := run_results (P := P) hE p3 p4 hr (AllP_iff.2 fun p hp => AllP_iff.1 ko p (List.mem_append_left _ hp))
      have pe : e = .ret := pe
      subst pe
      rw [hD] at p5
      exact ⟨by simpa [DRel] using p5.symm, u, h2, _, _, η', φ', k, p2, p1, ⟨u, h1, rfl⟩, p3⟩
    · exact k.elim
  · rename_i v hD
    rw [fcP_eq] at k
    obtain ⟨u, hu, rfl⟩ := pe
    rw [hD] at p5
    exact ⟨by simpa [DRel] using p5.symm, _, _, η', φ', k.2, p2, p1, ⟨u, hu, rfl⟩, p3⟩
  · exact k.elim
/-- A function, walked up to some place. -/
theorem callRK {E : Env} {P : Program} (hE : E.ok P) (k : Nat) {f : Nat} {fn : Func} {c : Code} {args : List SV} {h h2 : SHeap} {v' : SV} (hf : P.funcs[f]? = some fn) (hb : fn.body = some c)
    (hx : XK E P none h.length k c ⟨initT args fn.ntmps, h, []⟩ [] (retKS E fn.results.toList fun ce h1 => match ce with
      | .ret v => Ent h.length ⟨[some (none, v)], h1, []⟩ ⟨[some (none, v')], h2, []⟩
      | .panic _ => False)) : CallP P f args h (Ret v' h2) :=
  CallP.ent ((callP_enterK hE k hf hb hx).mono fun ce h1 hk => by
    cases ce with
    | ret v => exact ⟨.ret v', h2, ⟨rfl, rfl⟩, hk⟩
    | panic v => exact hk.elim)
theorem callKK {E : Env} {P : Program} (hE : E.ok P) (k : Nat) {f : Nat} {fn : Func} {c : Code} {args : List SV} {h : SHeap} {K : CE → SHeap → Prop} (hf : P.funcs[f]? = some fn) (hb : fn.body = some c)
    (hx : XK E P none h.length k c ⟨initT args fn.ntmps, h, []⟩ [] (retKS E fn.results.toList fun ce h1 => ∃ ce' h2, K ce' h2 ∧ EntC h.length ce h1 ce' h2)) : CallP P f args h K :=
  CallP.ent (callP_enterK hE k hf hb hx)
/-- What is left of code behind k steps. -/
def dropSeq : Nat → Code → Code
  | 0, c => c
  | k + 1, .seq _ b => dropSeq k b
  | _ + 1, c => c
def sufC (f : Func) (k : Nat) : Code := match f.body with
  | some c => dropSeq k c
  | none => .skip
/-- What is left to show of a function that is to return v in h2. -/
def KRet (E : Env) (f : Func) (n : Nat) (v' : SV) (h2 : SHeap) : SE → St → Prop := fun se s => retKS E f.results.toList (fun ce h1 => match ce with
  | .ret v => Ent n ⟨[some (none, v)], h1, []⟩ ⟨[some (none, v')], h2, []⟩
  | .panic _ => False) se s []
/-- The next part of a function, walked by itself. -/
theorem CodeP.part {P : Program} {r : Option Nat} {n : Nat} {c : Code} {s t : St} {K : SE → St → Prop} (hc : CodeP P r n c t K) (he : Ent n s t) : CodeP P r n c s (fun se s => fcP [] fun ob => AllP ob ∧ K se s) :=
  CodeP.pre he (hc.mono fun se s h => by rw [fcP_eq]; exact ⟨trivial, h⟩)
end Go.Sy
/-
  The plain law on heights: a height between two marks, as truths have it.
-/
namespace Go.Proofs.YtipbempkngfdbaaDoor
open Go Go.Sy
set_option maxRecDepth 100000

/-! ### The least and the greatest of a list -/
theorem hul_le {a : Tr → Int} {g : List Tr} : ∀ {k : Nat}, ∀ i, i < k → hulLo a g k ≤ a (g.getD i tr0) ∧ a (g.getD i tr0) ≤ hulHi a g k
  | 0, i, h => by omega
  | k + 1, i, h => by
    simp only [hulLo, hulHi, seeLo, seeHi]
    rcases Nat.lt_succ_iff_lt_or_eq.1 h with h | rfl
    · obtain ⟨h1, h2⟩ := hul_le (a := a) (g := g) i h
      have : nz k = true := by cases k <;> first | omega | rfl
      rw [this]
      simp only [if_true]
      constructor <;> split <;> omega
    · constructor <;> split <;> (try split) <;> omega
theorem hul_at {a : Tr → Int} {g : List Tr} : ∀ {k : Nat}, 0 < k → (∃ i, i < k ∧ hulLo a g k = a (g.getD i tr0)) ∧ (∃ i, i < k ∧ hulHi a g k = a (g.getD i tr0))
  | 0, h => by omega
  | k + 1, _ => by
    simp only [hulLo, hulHi, seeLo, seeHi]
    cases k with
    | zero => exact ⟨⟨0, by omega, by simp [nz]⟩, ⟨0, by omega, by simp [nz]⟩⟩
    | succ k =>
      obtain ⟨⟨i, hi, e1⟩, ⟨j, hj, e2⟩⟩ := hul_at (a := a) (g := g) (k := k + 1) (by omega)
      refine ⟨?_, ?_⟩
      · by_cases h : hulLo a g (k + 1) ≤ a (g.getD (k + 1) tr0)
        · exact ⟨i, by omega, by simp only [nz, if_true, if_pos h]; exact e1⟩
        · exact ⟨k + 1, by omega, by simp only [nz, if_true, if_neg h]⟩
      · by_cases h : a (g.getD (k + 1) tr0) ≤ hulHi a g (k + 1)
        · exact ⟨j, by omega, by simp only [nz, if_true, if_pos h]; exact e2⟩
        · exact ⟨k + 1, by omega, by simp only [nz, if_true, if_neg h]⟩
theorem hul_mem {a : Tr → Int} {g : List Tr} {x : Tr} (hx : x ∈ g) : hulLo a g g.length ≤ a x ∧ a x ≤ hulHi a g g.length := by
  obtain ⟨i, hi, rfl⟩ := List.getElem_of_mem hx
  have := hul_le (a := a) (g := g) (k := g.length) i hi
  rwa [List.getD_eq_getElem?_getD, List.getElem?_eq_getElem hi] at this
theorem hul_ex {a : Tr → Int} {g : List Tr} (hg : g ≠ []) : (∃ x ∈ g, hulLo a g g.length = a x) ∧ (∃ x ∈ g, hulHi a g g.length = a x) := by
  obtain ⟨⟨i, hi, e1⟩, ⟨j, hj, e2⟩⟩ := hul_at (a := a) (g := g) (k := g.length) (List.length_pos_iff.2 hg)
  exact ⟨⟨_, getD_mem hi, e1⟩, ⟨_, getD_mem hj, e2⟩⟩

/-! ### Heights of a truth -/
theorem tls_h {t : TD} : ∀ (r : Nat) (h : Nat → Int), r ≤ t.nM → ∀ x ∈ t.tls r h, (∀ i, i < t.nM - r → x.h i = h i) ∧ ∀ i, t.nM - r ≤ i → i < t.nM → t.mlo i ≤ x.h i ∧ x.h i ≤ t.mhi i
  | 0, h, _, x, hx => by
    simp only [TD.tls] at hx
    split at hx
    · simp at hx
      subst hx
      exact ⟨fun i _ => rfl, fun i h1 h2 => by omega⟩
    · simp at hx
  | r + 1, h, hr, x, hx => by
    simp only [TD.tls] at hx
    obtain ⟨j, hj, hx⟩ := catF_mem hx
    obtain ⟨h1, h2⟩ := tls_h r _ (by omega) x hx
    refine ⟨fun i hi => ?_, fun i hi hi' => ?_⟩
    · rw [h1 i (by omega)]
      simp only [upd]
      rw [if_neg (by omega)]
    · rcases Nat.eq_or_lt_of_le hi with rfl | hlt
      · rw [h1 _ (by omega)]
        simp only [upd, if_true]
        omega
      · exact h2 i (by omega) hi'
theorem all_h {t : TD} {x : Tr} (hx : x ∈ t.all) {i : Nat} (hi : i < t.nM) : t.mlo i ≤ x.h i ∧ x.h i ≤ t.mhi i :=
  (tls_h t.nM _ (Nat.le_refl _) x hx).2 i (by omega) hi

/-! ### How far the water has moved -/
def moved (lg d : Int) : Int := tw (6 * d / lg) * lg + (tw (6 * d / lg + 1) - tw (6 * d / lg)) * (6 * d % lg)
theorem tw_mono {a b : Int} (h : a ≤ b) : tw a ≤ tw b := by
  unfold tw
  repeat' split
  all_goals omega
theorem moved_mono {lg d d' : Int} (hl : 0 < lg) (h : d ≤ d') : moved lg d ≤ moved lg d' := by
  unfold moved
  have e1 := Int.mul_ediv_add_emod (6 * d) lg
  have e2 := Int.mul_ediv_add_emod (6 * d') lg
  have r1 := Int.emod_nonneg (6 * d) (b := lg) (by omega)
  have r2 := Int.emod_nonneg (6 * d') (b := lg) (by omega)
  have r3 := Int.emod_lt_of_pos (6 * d) hl
  have hq : 6 * d / lg ≤ 6 * d' / lg := Int.ediv_le_ediv hl (by omega)
  generalize 6 * d / lg = q at *
  generalize 6 * d' / lg = q' at *
  generalize 6 * d % lg = r at *
  generalize 6 * d' % lg = r' at *
  have s1 := tw_step q
  have s2 := tw_step q'
  rcases Int.lt_or_eq_of_le hq with hlt | rfl
  · have m1 : tw (q + 1) ≤ tw q' := tw_mono (by omega)
    have a1 : (tw (q + 1) - tw q) * r ≤ (tw (q + 1) - tw q) * lg := Int.mul_le_mul_of_nonneg_left (by omega) (by omega)
    have a2 : tw (q + 1) * lg ≤ tw q' * lg := Int.mul_le_mul_of_nonneg_right m1 (by omega)
    have a3 : 0 ≤ (tw (q' + 1) - tw q') * r' := Int.mul_nonneg (by omega) r2
    have a4 : (tw (q + 1) - tw q) * lg = tw (q + 1) * lg - tw q * lg := Int.sub_mul ..
    omega
  · have : r ≤ r' := by omega
    have a1 : (tw (q + 1) - tw q) * r ≤ (tw (q + 1) - tw q) * r' := Int.mul_le_mul_of_nonneg_left this (by omega)
    omega
theorem moved_zero (lg : Int) : moved lg 0 = 0 := by simp [moved, tw]
theorem moved_all {lg : Int} (hl : 0 < lg) : moved lg lg = 12 * lg := by
  unfold moved
  rw [Int.mul_ediv_cancel 6 (by omega), Int.mul_emod_left]
  simp [tw]
theorem moved_half {lg d : Int} (hl : 0 < lg) (h : 2 * d = lg) : moved lg d = 6 * lg := by
  unfold moved
  rw [show 6 * d = 3 * lg by omega, Int.mul_ediv_cancel 3 (by omega), Int.mul_emod_left]
  simp [tw]

/-- Between heights a and b. -/
def mid (a b lg f : Int) : Int := (a * (12 * lg - f) + b * f) / (12 * lg)
theorem mid_eq (a b lg f : Int) : a * (12 * lg - f) + b * f = a * (12 * lg) + (b - a) * f := by
  rw [Int.mul_sub, Int.sub_mul]
  omega
theorem mid_zero {a b lg : Int} (hl : 0 < lg) : mid a b lg 0 = a := by
  unfold mid
  rw [Int.sub_zero, Int.mul_zero, Int.add_zero, Int.mul_ediv_cancel a (by omega)]
theorem mid_all {a b lg : Int} (hl : 0 < lg) : mid a b lg (12 * lg) = b := by
  unfold mid
  rw [Int.sub_self, Int.mul_zero, Int.zero_add, Int.mul_ediv_cancel b (by omega)]
theorem mid_up {a b lg f f' : Int} (hl : 0 < lg) (hab : a ≤ b) (hf : f ≤ f') : mid a b lg f ≤ mid a b lg f' := by
  unfold mid
  rw [mid_eq, mid_eq]
  have := Int.mul_le_mul_of_nonneg_left hf (show 0 ≤ b - a by omega)
  exact Int.ediv_le_ediv (by omega) (by omega)
theorem mid_down {a b lg f f' : Int} (hl : 0 < lg) (hab : b ≤ a) (hf : f ≤ f') : mid a b lg f' ≤ mid a b lg f := by
  unfold mid
  rw [mid_eq, mid_eq]
  have := Int.mul_le_mul_of_nonneg_left hf (show 0 ≤ a - b by omega)
  have e1 : (a - b) * f = -((b - a) * f) := by rw [← Int.neg_mul]; congr 1; omega
  have e2 : (a - b) * f' = -((b - a) * f') := by rw [← Int.neg_mul]; congr 1; omega
  exact Int.ediv_le_ediv (by omega) (by omega)
theorem mid_half {a b lg : Int} (hl : 0 < lg) : mid a b lg (6 * lg) = (a + b) / 2 := by
  unfold mid
  rw [show a * (12 * lg - 6 * lg) + b * (6 * lg) = (a + b) * (6 * lg) by rw [Int.add_mul]; congr 2; omega, show 12 * lg = 2 * (6 * lg) by omega]
  exact Int.mul_ediv_mul_of_pos_left _ _ (by omega)
theorem mid_lo {a b lg f l : Int} (hl : 0 < lg) (h0 : 0 ≤ f) (h1 : f ≤ 12 * lg) (ha : l ≤ a) (hb : l ≤ b) : l ≤ mid a b lg f := by
  rcases Int.le_total a b with h | h
  · have := mid_up hl h h0
    rw [mid_zero hl] at this
    omega
  · have := mid_down hl h h1
    rw [mid_all hl] at this
    omega
theorem mid_hi {a b lg f l : Int} (hl : 0 < lg) (h0 : 0 ≤ f) (h1 : f ≤ 12 * lg) (ha : a ≤ l) (hb : b ≤ l) : mid a b lg f ≤ l := by
  rcases Int.le_total a b with h | h
  · have := mid_up hl h h1
    rw [mid_all hl] at this
    omega
  · have := mid_down hl h h0
    rw [mid_zero hl] at this
    omega
end Go.Proofs.YtipbempkngfdbaaDoor
/-
  The plain law of TideMoves.
-/
namespace Go.Proofs.YtipbempkngfdbaaDoor
open Go Go.Sy
set_option maxRecDepth 100000

theorem mi_le {t : TD} (hv : t.Valid) : ∀ {j i : Nat}, i ≤ j → j < t.nM → t.mi i ≤ t.mi j
  | 0, i, h, _ => by
    have : i = 0 := by omega
    subst this
    exact Int.le_refl _
  | j + 1, i, h, hj => by
    rcases Nat.eq_or_lt_of_le h with rfl | h'
    · exact Int.le_refl _
    · have h1 := mi_le hv (j := j) (i := i) (by omega) (by omega)
      have h2 := hv.step (i := j + 1) (by omega) hj
      have e : j + 1 - 1 = j := by omega
      rw [e] at h2
      omega

theorem stand_nx {t : TD} (hv : t.Valid) {m : Int} (hm : t.isMin m) (h : Nat → Int) :
    t.stand h m = mid (h (t.nx m - 1)) (h (t.nx m)) (t.mi (t.nx m) - t.mi (t.nx m - 1)) (moved (t.mi (t.nx m) - t.mi (t.nx m - 1)) (m - t.mi (t.nx m - 1))) := by
  obtain ⟨g1, g2, g3, g4⟩ := TD.stand_spec hv hm
  simp only [TD.stand, mid, moved]
  have r1 := Int.emod_nonneg (6 * (m - t.mi (t.nx m - 1))) (b := t.mi (t.nx m) - t.mi (t.nx m - 1)) (by omega)
  split
  · rfl
  · rename_i hr
    have e : 6 * (m - t.mi (t.nx m - 1)) % (t.mi (t.nx m) - t.mi (t.nx m - 1)) = 0 := by omega
    rw [e, Int.mul_zero]

theorem stand_at {t : TD} (hv : t.Valid) {i : Nat} (h1 : 1 ≤ i) (hi : i < t.nM) {m : Int} (ha : t.mi (i - 1) ≤ m) (hb : m ≤ t.mi i) (h : Nat → Int) :
    t.stand h m = mid (h (i - 1)) (h i) (t.mi i - t.mi (i - 1)) (moved (t.mi i - t.mi (i - 1)) (m - t.mi (i - 1))) := by
  have hm : t.isMin m := ⟨Int.le_trans (mi_le hv (Nat.zero_le _) (by omega)) ha, Int.le_trans hb (mi_le hv (by omega) (by have := hv.1.1; omega))⟩
  rw [stand_nx hv hm]
  obtain ⟨k1, k2, k3, k4, k5⟩ := t.nx_spec hv hm
  obtain ⟨g1, g2, g3, g4⟩ := TD.stand_spec hv hm
  have st := hv.step (i := i) (by omega) hi
  rcases Nat.lt_trichotomy (t.nx m) i with hk | hk | hk
  · have h2 := mi_le hv (i := t.nx m) (j := i - 1) (by omega) (by omega)
    have h3 : t.nx m = i - 1 := by
      rcases Nat.eq_or_lt_of_le (show t.nx m ≤ i - 1 by omega) with h | h
      · exact h
      · have h4 := mi_le hv (i := t.nx m) (j := i - 1 - 1) (by omega) (by omega)
        have h5 := hv.step (i := i - 1) (by omega) (by omega)
        omega
    have e1 : m - t.mi (i - 1) = 0 := by omega
    have e2 : m - t.mi (t.nx m - 1) = t.mi (t.nx m) - t.mi (t.nx m - 1) := by omega
    rw [e1, e2, moved_zero, moved_all (by omega), mid_zero (by omega), mid_all (by omega), h3]
  · rw [hk]
  · have := k5 i h1 hk
    omega

/-- What is told of the height at a minute, where there are truths. -/
structure Hull (t : TD) (m lo hi : Int) : Prop where
  v : t.height m = ⟨(lo, hi), 0⟩
  bnd : ∀ x ∈ t.all, lo ≤ t.stand x.h m ∧ t.stand x.h m ≤ hi
  lo : ∃ x ∈ t.all, t.stand x.h m = lo
  hi : ∃ x ∈ t.all, t.stand x.h m = hi
theorem hull {t : TD} (hv : t.Valid) (hn : t.all ≠ []) {m : Int} (hm : t.isMin m) : ∃ lo hi, Hull t m lo hi := by
  refine ⟨_, _, ⟨by unfold TD.height; rw [if_neg (fun h => h hv), if_neg (fun h => h hm), if_neg hn], fun x hx => hul_mem hx, ?_, ?_⟩⟩
  · obtain ⟨⟨x, hx, e⟩, _⟩ := hul_ex (a := fun x => t.stand x.h m) hn
    exact ⟨x, hx, e.symm⟩
  · obtain ⟨_, x, hx, e⟩ := hul_ex (a := fun x => t.stand x.h m) hn
    exact ⟨x, hx, e.symm⟩

/-- What TideMoves asks of the told heights s (at m), n (at m + 1), x and y (at the marks a and b), and half. -/
structure Moves (al ah bl bh sl sh nl nh xl xh yl yh : Int) : Prop where
  x : al ≤ xl ∧ xh ≤ ah
  y : bl ≤ yl ∧ yh ≤ bh
  s : min xl yl ≤ sl ∧ sh ≤ max xh yh
  up : xh ≤ yl → sl ≤ nl ∧ sh ≤ nh
  down : yh ≤ xl → nl ≤ sl ∧ nh ≤ sh
theorem moves {t : TD} (hv : t.Valid) {i : Nat} (h1 : 1 ≤ i) (hi : i < t.nM) {m : Int} (ha : t.mi (i - 1) ≤ m) (hb : m < t.mi i) {sl sh nl nh xl xh yl yh : Int}
    (s : Hull t m sl sh) (n : Hull t (m + 1) nl nh) (x : Hull t (t.mi (i - 1)) xl xh) (y : Hull t (t.mi i) yl yh) :
    Moves (t.mlo (i - 1)) (t.mhi (i - 1)) (t.mlo i) (t.mhi i) sl sh nl nh xl xh yl yh := by
  have st := hv.step (i := i) (by omega) hi
  have hl : 0 < t.mi i - t.mi (i - 1) := by omega
  have eS := fun h => stand_at hv h1 hi ha (Int.le_of_lt hb) h
  have eN := fun h => stand_at hv h1 hi (m := m + 1) (by omega) (by omega) h
  have eX : ∀ h, t.stand h (t.mi (i - 1)) = h (i - 1) := fun h => by
    rw [stand_at hv h1 hi (m := t.mi (i - 1)) (by omega) (by omega) h, Int.sub_self, moved_zero, mid_zero hl]
  have eY : ∀ h, t.stand h (t.mi i) = h i := fun h => by
    rw [stand_at hv h1 hi (m := t.mi i) (by omega) (by omega) h, moved_all hl, mid_all hl]
  have f0 : 0 ≤ moved (t.mi i - t.mi (i - 1)) (m - t.mi (i - 1)) := by
    have := moved_mono hl (show 0 ≤ m - t.mi (i - 1) by omega)
    rw [moved_zero] at this
    exact this
  have f1 : moved (t.mi i - t.mi (i - 1)) (m - t.mi (i - 1)) ≤ 12 * (t.mi i - t.mi (i - 1)) := by
    have := moved_mono hl (show m - t.mi (i - 1) ≤ t.mi i - t.mi (i - 1) by omega)
    rw [moved_all hl] at this
    exact this
  have fn : moved (t.mi i - t.mi (i - 1)) (m - t.mi (i - 1)) ≤ moved (t.mi i - t.mi (i - 1)) (m + 1 - t.mi (i - 1)) := moved_mono hl (by omega)
  have bX : ∀ w ∈ t.all, xl ≤ w.h (i - 1) ∧ w.h (i - 1) ≤ xh := fun w hw => by have := x.bnd w hw; rwa [eX] at this
  have bY : ∀ w ∈ t.all, yl ≤ w.h i ∧ w.h i ≤ yh := fun w hw => by have := y.bnd w hw; rwa [eY] at this
  constructor
  · obtain ⟨u, hu, e1⟩ := x.lo
    obtain ⟨v, hw, e2⟩ := x.hi
    rw [eX] at e1 e2
    have := all_h hu (i := i - 1) (by omega)
    have := all_h hw (i := i - 1) (by omega)
    omega
  · obtain ⟨u, hu, e1⟩ := y.lo
    obtain ⟨v, hw, e2⟩ := y.hi
    rw [eY] at e1 e2
    have := all_h hu hi
    have := all_h hw hi
    omega
  · obtain ⟨u, hu, e1⟩ := s.lo
    obtain ⟨v, hw, e2⟩ := s.hi
    rw [eS] at e1 e2
    have a1 := bX u hu
    have a2 := bY u hu
    have a3 := bX v hw
    have a4 := bY v hw
    have b1 := mid_lo (l := min xl yl) hl f0 f1 (show min xl yl ≤ u.h (i - 1) by omega) (show min xl yl ≤ u.h i by omega)
    have b2 := mid_hi (l := max xh yh) hl f0 f1 (show v.h (i - 1) ≤ max xh yh by omega) (show v.h i ≤ max xh yh by omega)
    omega
  · intro hxy
    obtain ⟨u, hu, e1⟩ := n.lo
    obtain ⟨v, hw, e2⟩ := s.hi
    have c1 := (s.bnd u hu).1
    have c2 := (n.bnd v hw).2
    rw [eN] at e1 c2
    rw [eS] at e2 c1
    have a1 := bX u hu
    have a2 := bY u hu
    have a3 := bX v hw
    have a4 := bY v hw
    have d1 := mid_up hl (show u.h (i - 1) ≤ u.h i by omega) fn
    have d2 := mid_up hl (show v.h (i - 1) ≤ v.h i by omega) fn
    omega
  · intro hxy
    obtain ⟨u, hu, e1⟩ := s.lo
    obtain ⟨v, hw, e2⟩ := n.hi
    have c1 := (n.bnd u hu).1
    have c2 := (s.bnd v hw).2
    rw [eS] at e1 c2
    rw [eN] at e2 c1
    have a1 := bX u hu
    have a2 := bY u hu
    have a3 := bX v hw
    have a4 := bY v hw
    have d1 := mid_down hl (show u.h i ≤ u.h (i - 1) by omega) fn
    have d2 := mid_down hl (show v.h i ≤ v.h (i - 1) by omega) fn
    omega
theorem movesHalf {t : TD} (hv : t.Valid) {i : Nat} (h1 : 1 ≤ i) (hi : i < t.nM) {m : Int} (hm : 2 * m = t.mi (i - 1) + t.mi i) {kl kh xl xh yl yh : Int}
    (k : Hull t m kl kh) (x : Hull t (t.mi (i - 1)) xl xh) (y : Hull t (t.mi i) yl yh) : (xl + yl) / 2 ≤ kl ∧ kh ≤ (xh + yh) / 2 := by
  have st := hv.step (i := i) (by omega) hi
  have hl : 0 < t.mi i - t.mi (i - 1) := by omega
  have eK : ∀ h, t.stand h m = (h (i - 1) + h i) / 2 := fun h => by
    rw [stand_at hv h1 hi (m := m) (by omega) (by omega) h, moved_half hl (by omega), mid_half hl]
  have eX : ∀ h, t.stand h (t.mi (i - 1)) = h (i - 1) := fun h => by
    rw [stand_at hv h1 hi (m := t.mi (i - 1)) (by omega) (by omega) h, Int.sub_self, moved_zero, mid_zero hl]
  have eY : ∀ h, t.stand h (t.mi i) = h i := fun h => by
    rw [stand_at hv h1 hi (m := t.mi i) (by omega) (by omega) h, moved_all hl, mid_all hl]
  obtain ⟨u, hu, e1⟩ := k.lo
  obtain ⟨v, hw, e2⟩ := k.hi
  have a1 := x.bnd u hu
  have a2 := y.bnd u hu
  have a3 := x.bnd v hw
  have a4 := y.bnd v hw
  rw [eX] at a1 a3
  rw [eY] at a2 a4
  rw [eK] at e1 e2
  omega
end Go.Proofs.YtipbempkngfdbaaDoor
