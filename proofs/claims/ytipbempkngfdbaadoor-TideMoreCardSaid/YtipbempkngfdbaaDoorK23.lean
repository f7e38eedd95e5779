/-
  Parts: B26, Tab, C5, C1, C2, C11, C12.
-/
import Derived.Test.YtipbempkngfdbaaDoorK22
import Derived.Test.YtipbempkngfdbaaDoorK15
import Derived.Test.YtipbempkngfdbaaDoorK17
import Derived.Test.YtipbempkngfdbaaDoorK18
import Derived.Test.YtipbempkngfdbaaDoorRows
/-
  Contract: the law package's alive.
-/
namespace Go.Proofs.YtipbempkngfdbaaDoor
open Go Go.Sy
set_option linter.unusedSimpArgs false
set_option maxRecDepth 100000
set_option maxHeartbeats 4000000
attribute [local irreducible] CallP CodeP Ent YieldP

/-- The tables of the program. -/
def HB : SHeap := [some (.glob 0 [.int .i64 0, .int .i64 1, .int .i64 3, .int .i64 6, .int .i64 9, .int .i64 11, .int .i64 12]), some db]
theorem hX10c : CallP Tryd.prog 22 [(TX 1 1).A, .int .i64 10] (TX 1 1).HG (Ret (.tup [.agg [.int .i64 13, .int .i64 14], .int .i64 0]) (TX 1 1).HG) := by
  have h := t22 (TX 1 1) 10
  rwa [hX10] at h
theorem hX30c : CallP Tryd.prog 22 [(TX 1 1).A, .int .i64 30] (TX 1 1).HG (Ret (.tup [.agg [.int .i64 26, .int .i64 26], .int .i64 0]) (TX 1 1).HG) := by
  have h := t22 (TX 1 1) 30
  rwa [hX30] at h
theorem hX0c : CallP Tryd.prog 22 [(TX 1 1).A, .int .i64 0] (TX 1 1).HG (Ret (.tup [.agg [.int .i64 11, .int .i64 12], .int .i64 0]) (TX 1 1).HG) := by
  have h := t22 (TX 1 1) 0
  rwa [hX0] at h
theorem hX45c : CallP Tryd.prog 22 [(TX 1 1).A, .int .i64 45] (TX 1 1).HG (Ret (.tup [.agg [.int .i64 35, .int .i64 36], .int .i64 0]) (TX 1 1).HG) := by
  have h := t22 (TX 1 1) 45
  rwa [hX45] at h
theorem hX90c : CallP Tryd.prog 22 [(TX 1 1).A, .int .i64 90] (TX 1 1).HG (Ret (.tup [.agg [.int .i64 26, .int .i64 26], .int .i64 0]) (TX 1 1).HG) := by
  have h := t22 (TX 1 1) 90
  rwa [hX90] at h
theorem dX0c : CallP Tryd.prog 25 [(TX 1 1).A, .int .i64 0, .int .i64 10] (TX 1 1).HG (Ret (.tup [.agg [.int .i64 7, .int .i64 9], .int .i64 0]) (TX 1 1).HG) := by
  have h := t25 (TX 1 1) 0 10
  rwa [dX0] at h
theorem dX1c : CallP Tryd.prog 25 [(TX 1 1).A, .int .i64 1, .int .i64 10] (TX 1 1).HG (Ret (.tup [.agg [.int .i64 0, .int .i64 0], .int .i64 0]) (TX 1 1).HG) := by
  have h := t25 (TX 1 1) 1 10
  rwa [dX1] at h
theorem dX2c : CallP Tryd.prog 25 [(TX 1 1).A, .int .i64 1, .int .i64 30] (TX 1 1).HG (Ret (.tup [.agg [.int .i64 6, .int .i64 6], .int .i64 0]) (TX 1 1).HG) := by
  have h := t25 (TX 1 1) 1 30
  rwa [dX2] at h
theorem sXc : CallP Tryd.prog 31 [(TX 1 1).A, .int .i64 0] (TX 1 1).HG (Ret (.tup [.agg [.int .i64 5, .int .i64 6], .int .i64 0]) (TX 1 1).HG) := by
  have h := t31 (TX 1 1) 0
  rwa [sX] at h
theorem fXfc : CallP Tryd.prog 17 [(TX 1 1).A, .int .i64 1, .int .i64 5, .int .i64 0, .bool false] (TX 1 1).HG (Ret (.tup [.int .i64 28, .int .i64 0]) (TX 1 1).HG) := by
  have h := t17 (TX 1 1) 1 5 0 false
  rwa [fXf] at h
theorem fXtc : CallP Tryd.prog 17 [(TX 1 1).A, .int .i64 1, .int .i64 5, .int .i64 0, .bool true] (TX 1 1).HG (Ret (.tup [.int .i64 29, .int .i64 0]) (TX 1 1).HG) := by
  have h := t17 (TX 1 1) 1 5 0 true
  rwa [fXt] at h
theorem pXc : CallP Tryd.prog 32 [(TX 1 1).A, .int .i64 30, .int .i64 5, .int .i64 8] (TX 1 1).HG (Ret (.tup [.int .i64 2, .int .i64 2, .int .i64 0]) (TX 1 1).HG) := by
  have h := t32 (TX 1 1) 30 5 8
  rwa [pX] at h
theorem cXc : CallP Tryd.prog 26 [(TX 1 1).A] (TX 1 1).HG (Ret (.tup [.int .i64 6, .int .i64 0]) (TX 1 1).HG) := by
  have h := t26 (TX 1 1)
  rwa [cX] at h
theorem nXc : CallP Tryd.prog 37 [(TX 1 1).A, .int .i64 0] (TX 1 1).HG (Ret (.tup [.int .i64 0, .int .i64 3, .int .i64 0]) (TX 1 1).HG) := by
  have h := t37 (TX 1 1) 0
  rwa [nX] at h
theorem kXc : CallP Tryd.prog 20 [(TX 1 1).A] (TX 1 1).HG (Ret (.tup [.int .i64 0, .int .i64 4]) (TX 1 1).HG) := by
  have h := t20 (TX 1 1)
  rwa [kX] at h
theorem kYc (c : Nat) : CallP Tryd.prog 20 [(TX 2 c).A] (TX 2 c).HG (Ret (.tup [.int .i64 3, .int .i64 0]) (TX 2 c).HG) := by
  have h := t20 (TX 2 c)
  rwa [kY] at h
theorem cYc (c : Nat) : CallP Tryd.prog 26 [(TX 2 c).A] (TX 2 c).HG (Ret (.tup [.int .i64 0, .int .i64 0]) (TX 2 c).HG) := by
  have h := t26 (TX 2 c)
  rwa [cY] at h
theorem hY30c (c : Nat) : CallP Tryd.prog 22 [(TX 2 c).A, .int .i64 30] (TX 2 c).HG (Ret (.tup [.agg [.int .i64 0, .int .i64 0], .int .i64 10]) (TX 2 c).HG) := by
  have h := t22 (TX 2 c) 30
  rwa [hY30] at h
theorem vXc : CallP Tryd.prog 15 [(TX 1 1).A, .int .i64 1, .int .i64 5, .int .i64 8] (TX 1 1).HG (fun ce h' => ∃ cap, 2 ≤ cap ∧ cap ≤ 9223372036854775807 ∧ ce = .ret (.tup [.slice 5 2 0 2 cap, .int .i64 0]) ∧ h' = (TX 1 1).HG ++ [some (.arr 2 2 cap (prow [(29, 33), (87, 91)]))]) := by
  have h := t15 (TX 1 1) 1 5 8
  rw [vX] at h
  refine h.mono ?_
  rintro ce h' (⟨h0, _⟩ | ⟨_, cap, h1, h2, h3, h4⟩)
  · cases h0
  · exact ⟨cap, h1, h2, h3, h4⟩
theorem t14 : CallP Tryd.prog 14 [] HB (Ret (.bool true) HB) := by
  refine callR (E := E) E_ok Tryd.func14 rfl ?_
  refine And.intro ?_ ?_
  · simp [AllP, under, gB, wB, inR_iff, IntKind.bits]
  refine (t23_f).use [] ?_ (by (repeat' (first | exact trivial | exact rfl | exact fun _ _ => rfl | exact Or.inl rfl | refine And.intro ?_ ?_))) rfl
  refine And.intro ?_ ?_
  · simp [AllP, under, gB, wB, inR_iff, IntKind.bits]
  refine (hX10c).use [2, 3, 4, 0, 1] ?_ (by (repeat' (first | exact trivial | exact rfl | exact fun _ _ => rfl | exact Or.inl rfl | refine And.intro ?_ ?_))) rfl
  refine And.intro ?_ ?_
  · simp [AllP, under, gB, wB, inR_iff, IntKind.bits]
  refine (t23_f).use [] ?_ (by (repeat' (first | exact trivial | exact rfl | exact fun _ _ => rfl | exact Or.inl rfl | refine And.intro ?_ ?_))) rfl
  refine And.intro ?_ ?_
  · simp [AllP, under, gB, wB, inR_iff, IntKind.bits]
  refine (dX0c).use [6, 7, 8, 0, 1] ?_ (by (repeat' (first | exact trivial | exact rfl | exact fun _ _ => rfl | exact Or.inl rfl | refine And.intro ?_ ?_))) rfl
  refine And.intro ?_ ?_
  · simp [AllP, under, gB, wB, inR_iff, IntKind.bits]
  refine (t23_f).use [] ?_ (by (repeat' (first | exact trivial | exact rfl | exact fun _ _ => rfl | exact Or.inl rfl | refine And.intro ?_ ?_))) rfl
  refine And.intro ?_ ?_
  · simp [AllP, under, gB, wB, inR_iff, IntKind.bits]
  refine (sXc).use [10, 11, 12, 0, 1] ?_ (by (repeat' (first | exact trivial | exact rfl | exact fun _ _ => rfl | exact Or.inl rfl | refine And.intro ?_ ?_))) rfl
  refine And.intro ?_ ?_
  · simp [AllP, under, gB, wB, inR_iff, IntKind.bits]
  refine (t23_f).use [] ?_ (by (repeat' (first | exact trivial | exact rfl | exact fun _ _ => rfl | exact Or.inl rfl | refine And.intro ?_ ?_))) rfl
  refine And.intro ?_ ?_
  · simp [AllP, under, gB, wB, inR_iff, IntKind.bits]
  refine CallP.frameH vXc [14, 15, 16, 0, 1] (by (repeat' (first | exact trivial | exact rfl | exact fun _ _ => rfl | exact Or.inl rfl | refine And.intro ?_ ?_))) rfl ?_
  rintro ce h' ⟨cap, hc1, hc2, rfl, rfl⟩
  refine ⟨rfl, ?_⟩
  refine And.intro ?_ ?_
  · simp [AllP, under, gB, wB, inR_iff, IntKind.bits]
  refine (t23_f).use [] ?_ (by (repeat' (first | exact trivial | exact rfl | exact fun _ _ => rfl | exact Or.inl rfl | refine And.intro ?_ ?_))) rfl
  refine And.intro ?_ ?_
  · simp [AllP, under, gB, wB, inR_iff, IntKind.bits]
  refine (fXfc).use [18, 19, 20, 0, 1] ?_ (by (repeat' (first | exact trivial | exact rfl | exact fun _ _ => rfl | exact Or.inl rfl | refine And.intro ?_ ?_))) rfl
  refine And.intro ?_ ?_
  · simp [AllP, under, gB, wB, inR_iff, IntKind.bits]
  refine (t23_f).use [] ?_ (by (repeat' (first | exact trivial | exact rfl | exact fun _ _ => rfl | exact Or.inl rfl | refine And.intro ?_ ?_))) rfl
  refine And.intro ?_ ?_
  · simp [AllP, under, gB, wB, inR_iff, IntKind.bits]
  refine (pXc).use [21, 22, 23, 0, 1] ?_ (by (repeat' (first | exact trivial | exact rfl | exact fun _ _ => rfl | exact Or.inl rfl | refine And.intro ?_ ?_))) rfl
  refine And.intro ?_ ?_
  · simp [AllP, under, gB, wB, inR_iff, IntKind.bits]
  refine (t23_f).use [] ?_ (by (repeat' (first | exact trivial | exact rfl | exact fun _ _ => rfl | exact Or.inl rfl | refine And.intro ?_ ?_))) rfl
  refine And.intro ?_ ?_
  · simp [AllP, under, gB, wB, inR_iff, IntKind.bits]
  refine (cXc).use [24, 25, 26, 0, 1] ?_ (by (repeat' (first | exact trivial | exact rfl | exact fun _ _ => rfl | exact Or.inl rfl | refine And.intro ?_ ?_))) rfl
  refine And.intro ?_ ?_
  · simp [AllP, under, gB, wB, inR_iff, IntKind.bits]
  refine (t23_f).use [] ?_ (by (repeat' (first | exact trivial | exact rfl | exact fun _ _ => rfl | exact Or.inl rfl | refine And.intro ?_ ?_))) rfl
  refine And.intro ?_ ?_
  · simp [AllP, under, gB, wB, inR_iff, IntKind.bits]
  refine (nXc).use [27, 28, 29, 0, 1] ?_ (by (repeat' (first | exact trivial | exact rfl | exact fun _ _ => rfl | exact Or.inl rfl | refine And.intro ?_ ?_))) rfl
  refine And.intro ?_ ?_
  · simp [AllP, under, gB, wB, inR_iff, IntKind.bits]
  refine CallP.frameH t23_t [] (by (repeat' (first | exact trivial | exact rfl | exact fun _ _ => rfl | exact Or.inl rfl | refine And.intro ?_ ?_))) rfl ?_
  rintro ce h' ⟨c, hc3, hc4, rfl, rfl⟩
  refine ⟨rfl, ?_⟩
  refine And.intro ?_ ?_
  · simp [AllP, under, gB, wB, inR_iff, IntKind.bits]
  refine (kYc c).use [30, 31, 32, 0, 1] ?_ (by (repeat' (first | exact trivial | exact rfl | exact fun _ _ => rfl | exact Or.inl rfl | refine And.intro ?_ ?_))) rfl
  refine And.intro ?_ ?_
  · simp [AllP, under, gB, wB, inR_iff, IntKind.bits]
  refine cutP [] [(1, .ptr 2 0), (2, .int .i64 0), (3, .ptr 3 0), (4, .int .i64 0), (5, .ptr 4 0), (6, .int .i64 0), (7, .slice 5 2 0 2 cap), (8, .int .i64 0), (9, .int .i64 28), (10, .int .i64 0), (11, .int .i64 2), (12, .int .i64 2), (13, .int .i64 0), (14, .int .i64 6), (15, .int .i64 0), (16, .int .i64 0), (17, .int .i64 3), (18, .int .i64 0), (19, .int .i64 3), (20, .int .i64 0)] (fun _ => [some (.glob 0 [.int .i64 0, .int .i64 1, .int .i64 3, .int .i64 6, .int .i64 9, .int .i64 11, .int .i64 12]), some db, some (.cells [.int .i64 13, .int .i64 14]), some (.cells [.int .i64 7, .int .i64 9]), some (.cells [.int .i64 5, .int .i64 6]), some (.arr 2 2 cap (prow [(29, 33), (87, 91)]))]) ?_ ?_
  · refine ent_tau [0, 1, 5, 9, 13, 17] ⟨?_, by (repeat' (first | exact trivial | exact rfl | exact congrArg (SV.int .i64) (Int.natCast_succ _).symm | refine And.intro ?_ ?_)), rfl⟩
    (repeat' (first | exact trivial | exact rfl | exact fun _ _ => rfl | exact Or.inl rfl | refine And.intro ?_ ?_))
  refine drawP E_ok [2, 3, 4] pl14_10 (by kernel_rfl) ?_
  refine And.intro (And.intro ?_ ?_) trivial
  · (repeat' (first | exact trivial | exact fun _ => rfl | exact rfl | refine And.intro ?_ ?_))
  refine (t24 13 14).use [] ?_ (by (repeat' (first | exact trivial | exact rfl | exact fun _ _ => rfl | exact Or.inl rfl | refine And.intro ?_ ?_))) rfl
  refine And.intro (And.intro ?_ (And.intro (fun h => ?_) (fun h => absurd h (by decide)))) trivial
  · (repeat' (first | exact trivial | exact fun _ => rfl | exact rfl | refine And.intro ?_ ?_))
  refine (t24 7 9).use [] ?_ (by (repeat' (first | exact trivial | exact rfl | exact fun _ _ => rfl | exact Or.inl rfl | refine And.intro ?_ ?_))) rfl
  refine And.intro (And.intro ?_ (And.intro (fun h => ?_) (fun h => absurd h (by decide)))) trivial
  · (repeat' (first | exact trivial | exact fun _ => rfl | exact rfl | refine And.intro ?_ ?_))
  refine (t24 5 6).use [] ?_ (by (repeat' (first | exact trivial | exact rfl | exact fun _ _ => rfl | exact Or.inl rfl | refine And.intro ?_ ?_))) rfl
  refine And.intro (And.intro ?_ (And.intro (fun h => ?_) (fun h => absurd h (by decide)))) trivial
  · (repeat' (first | exact trivial | exact fun _ => rfl | exact rfl | refine And.intro ?_ ?_))
  refine (t24 29 33).use [] ?_ (by (repeat' (first | exact trivial | exact rfl | exact fun _ _ => rfl | exact Or.inl rfl | refine And.intro ?_ ?_))) rfl
  refine And.intro (And.intro ?_ (And.intro (fun h => ?_) (fun h => absurd h (by decide)))) trivial
  · (repeat' (first | exact trivial | exact fun _ => rfl | exact rfl | refine And.intro ?_ ?_))
  refine (t24 87 91).use [] ?_ (by (repeat' (first | exact trivial | exact rfl | exact fun _ _ => rfl | exact Or.inl rfl | refine And.intro ?_ ?_))) rfl
  refine And.intro (And.intro ?_ (And.intro (fun h => ?_) (fun h => absurd h (by decide)))) trivial
  · (repeat' (first | exact trivial | exact fun _ => rfl | exact rfl | refine And.intro ?_ ?_))
  skip
  refine And.intro (And.intro ?_ (And.intro (fun h => ?_) (fun h => absurd h (by decide)))) trivial
  · (repeat' (first | exact trivial | exact fun _ => rfl | exact rfl | refine And.intro ?_ ?_))
  refine (t19 [(29, 33), (87, 91)] [(29, 33), (87, 91)] cap 2 (by decide)).use [5, 6] ?_ ?_ rfl
  rotate_left
  · (repeat' (first | exact trivial | exact rfl | exact fun _ _ => rfl | exact Or.inl rfl | refine And.intro ?_ ?_))
    intro k hk
    rcases lt2 hk with rfl | rfl <;> rfl
  refine And.intro ?_ ?_
  · (repeat' (first | exact trivial | exact fun _ => rfl | exact rfl | refine And.intro ?_ ?_))
  refine And.intro rfl ?_
  refine And.intro ?_ ?_
  · (repeat' (first | exact trivial | exact fun _ => rfl | exact rfl | refine And.intro ?_ ?_))
  exact ent_tau [0, 1] ⟨by (repeat' (first | exact trivial | exact rfl | exact fun _ _ => rfl | exact Or.inl rfl | refine And.intro ?_ ?_)), by (repeat' (first | exact trivial | exact rfl | exact congrArg (SV.int .i64) (Int.natCast_succ _).symm | refine And.intro ?_ ?_)), rfl⟩
end Go.Proofs.YtipbempkngfdbaaDoor
/-
  The tables that the rows of this seat list, as blocks.
-/
namespace Go.Proofs.YtipbempkngfdbaaDoor
open Go Go.Sy
set_option maxRecDepth 100000

theorem gDone : Tryd.prog.globalNamed "dipworks/tide.done" = some 0 := by kernel_rfl
theorem gDb : Tryd.prog.globalNamed "math/bits.deBruijn64tab" = some 1 := by kernel_rfl
theorem gDoneT : (Tryd.prog.globals[0]?).map (·.type) = some 148 := by kernel_rfl
theorem gDbT : (Tryd.prog.globals[1]?).map (·.type) = some 162 := by kernel_rfl
theorem c148 : Tryd.prog.cellsOf 148 = 7 := by kernel_rfl
theorem c162 : Tryd.prog.cellsOf 162 = 64 := by kernel_rfl
theorem c3 : Tryd.prog.cellsOf 3 = 1 := by kernel_rfl
theorem c5 : Tryd.prog.cellsOf 5 = 1 := by kernel_rfl
def tDone : List Int := [0, 1, 3, 6, 9, 11, 12]
def tDb : List Int := [0, 1, 56, 2, 57, 49, 28, 3, 61, 58, 42, 50, 38, 29, 17, 4, 62, 47, 59, 36, 45, 43, 51, 22, 53, 39, 33, 30, 24, 18, 12, 5, 63, 55, 48, 27, 60, 41, 37, 16, 46, 35, 44, 21, 52, 32, 23, 11, 54, 26, 40, 15, 34, 20, 31, 10, 25, 14, 19, 9, 13, 8, 7, 6]
theorem tabDb {W : World} (h : laidMetH Tryd.prog Rows.tideNamesRow.laid W) : Lib.TabIs Tryd.prog W "math/bits.deBruijn64tab" .u8 tDb :=
  Lib.tabIs_of_head (rest := [("dipworks/tide.done", Rows.laid_dipworks_tide_done)]) gDb gDbT Tryd.underlying162 Tryd.underlying5 c5 c162 h
theorem tabDone {W : World} (h : laidMetH Tryd.prog Rows.tideNamesRow.laid W) : Lib.TabIs Tryd.prog W "dipworks/tide.done" .i64 tDone :=
  Lib.tabIs_of_head (rest := []) gDone gDoneT Tryd.underlying148 Tryd.underlying3 c3 c148 (laidMet.tail (x := ("math/bits.deBruijn64tab", Rows.laid_math_bits_deBruijn64tab)) h)

/-- A world that holds both tables. -/
theorem satHB {W : World} (h : laidMetH Tryd.prog Rows.tideNamesRow.laid W) : Sat (fun j => [((0 : Nat), (0 : Nat)), (1, 0)][j]?) (fun _ _ => False) HB W (fun _ => False) W := by
  refine satRo _ rfl ?_ ?_
  · intro i x hx
    match i, hx with
    | 0, hx => cases hx; exact ⟨_, rfl, rfl⟩
    | 1, hx => cases hx; exact ⟨_, rfl, rfl⟩
  · intro i o a ho ha
    match i, ho, ha with
    | 0, ho, ha => cases ho; cases ha; exact glob_holds (tabDone h) gDone
    | 1, ho, ha => cases ho; cases ha; exact glob_holds (tabDb h) gDb
end Go.Proofs.YtipbempkngfdbaaDoor
/-
  A tide that is handed to a statement, as rows that are only read.
-/
namespace Go.Proofs.YtipbempkngfdbaaDoor
open Go Go.Sy Go.ChangeShapes Go.WideShapes Go.ChangeAt Go.RowKit
set_option maxRecDepth 100000

section
variable {H : Type} {enc : TypeId × Value → H} {w : World} {base : Nat} {sp : Nat → Bool} {held : Bool}
theorem it3 : IntT enc Tryd.prog w base sp held 3 1 := IntT.int Tryd.underlying3 c3
theorem it41 : IntT enc Tryd.prog w base sp held 41 2 := IntT.two Tryd.underlying41 it3 it3 rfl rfl (by kernel_rfl)
theorem it54 : IntT enc Tryd.prog w base sp held 54 3 := IntT.two (n := 1) (m := 2) Tryd.underlying54 it3 it41 rfl rfl (by kernel_rfl)
theorem it62 : IntT enc Tryd.prog w base sp held 62 4 := IntT.three (n := 1) (m := 1) (k := 2) Tryd.underlying62 it3 it3 it41 rfl rfl rfl (by kernel_rfl)

theorem den_three {η : Nam} {x y z : SV} {a b c : Value} (hx : den η x = some a) (hy : den η y = some b) (hz : den η z = some c) : den η (.agg [x, y, z]) = some (.agg #[a, b, c]) := by
  simp [den, denL, hx, hy, hz]
/-- A slice of rows, whether it is nil or not. -/
theorem partOpen {t e : TypeId} {sz : Nat} {v : Value} {d : DataW H} {ps : List MemPlace} {r : Reach} {b0 : Nat} (ht : Tryd.prog.underlying t = some (.slice e)) (he : IntT enc Tryd.prog w base sp held e sz)
    (h0 : ∃ cs T fz, w.heap[0]? = some (.cells cs T fz)) (hval : Cell.okWide Tryd.prog w r b0 t v) {fuel : Nat} (h : DataW.trod enc Tryd.prog w base sp held fuel t [v] = some (d, ps)) :
    ∃ (b : Bool) (a : Nat × Nat) (n c : Nat), (∀ (η : Nam) i, η i = some a → den η (.osl b i sz n c) = some v) ∧ ∃ cs T fz, w.heap[a.1]? = some (.cells cs T fz) ∧ ∀ k, k < n → ∀ j, j < sz → cs[a.2 + (k * sz + j)]? = some (.int .i64 (cellI w a (k * sz + j))) := by
  rcases sliceOpen ht he hval h with rfl | ⟨a, n, c, rfl, _, _, cs, T, fz, h1, h2⟩
  · obtain ⟨cs, T, fz, h1⟩ := h0
    exact ⟨false, (0, 0), 0, 0, fun η i _ => by simp [den], cs, T, fz, h1, fun k hk => by omega⟩
  · exact ⟨true, a, n, c, fun η i hi => by simp [den, hi], cs, T, fz, h1, h2⟩

/-- The tide that an argument is. -/
structure TideIn (w : World) (v : Value) (t : TD) (a0 a1 a2 : Nat × Nat) : Prop where
  ok : t.ok
  den : ∀ η : Nam, η 0 = some a0 → η 1 = some a1 → η 2 = some a2 → den η t.A = some v
  m : ∀ (η : Nam) F, (SObj.roa 3 t.nM (row3 t.mi t.mlo t.mhi)).holds η a0 F w
  s : ∀ (η : Nam) F, (SObj.roa 2 t.nS (row2 t.slo t.shi)).holds η a1 F w
  l : ∀ (η : Nam) F, (SObj.roa 4 t.nL (row4 t.lp t.lm t.llo t.lhi)).holds η a2 F w
theorem tideOpen {v : Value} {d : DataW H} {ps : List MemPlace} {r : Reach} {b0 : Nat} (h0 : ∃ cs T fz, w.heap[0]? = some (.cells cs T fz)) (hval : Value.okWide Tryd.prog w r b0 26 v)
    (h : DataW.Trod enc Tryd.prog w base sp held 26 v d ps) : ∃ t a0 a1 a2, TideIn w v t a0 a1 a2 := by
  unfold Value.okWide at hval
  rw [Tryd.underlying26] at hval
  obtain ⟨cs, rfl, hsz, ts, hts, _, hc⟩ := hval
  have e1 : Tryd.prog.cellsOf 26 = 3 := by kernel_rfl
  have e2 : Tryd.prog.cellTypes Tryd.prog.depth 26 = some [22, 23, 24] := by kernel_rfl
  have e3 : Tryd.prog.cellsOf 22 = 1 := by kernel_rfl
  have e4 : Tryd.prog.cellsOf 23 = 1 := by kernel_rfl
  have e5 : Tryd.prog.cellsOf 24 = 1 := by kernel_rfl
  rw [e1] at hsz
  rw [e2] at hts
  cases hts
  obtain ⟨fuel, h⟩ := h
  obtain ⟨v0, v1, v2, rfl⟩ : ∃ v0 v1 v2, cs = #[v0, v1, v2] := by
    obtain ⟨l⟩ := cs
    match l, hsz with
    | [a, b, c], _ => exact ⟨a, b, c, rfl⟩
  obtain ⟨xs, n, rfl, hx, _, hlen, hf⟩ := DataW.trod_struct Tryd.underlying26 h
  have hlen' : xs.length = 3 := hlen
  have f0 : DataW.trod enc Tryd.prog w base sp held n 22 (([v0, v1, v2].drop 0).take (Tryd.prog.cellsOf 22)) = xs[0]? := hf 0 _ rfl
  rw [e3, List.getElem?_eq_getElem (by omega)] at f0
  have f1 : DataW.trod enc Tryd.prog w base sp held n 23 (([v0, v1, v2].drop 1).take (Tryd.prog.cellsOf 23)) = xs[1]? := hf 1 _ rfl
  rw [e4, List.getElem?_eq_getElem (by omega)] at f1
  have f2 : DataW.trod enc Tryd.prog w base sp held n 24 (([v0, v1, v2].drop 2).take (Tryd.prog.cellsOf 24)) = xs[2]? := hf 2 _ rfl
  rw [e5, List.getElem?_eq_getElem (by omega)] at f2
  obtain ⟨u0, hu0, w0⟩ := hc 0 v0 rfl
  obtain ⟨u1, hu1, w1⟩ := hc 1 v1 rfl
  obtain ⟨u2, hu2, w2⟩ := hc 2 v2 rfl
  cases hu0
  cases hu1
  cases hu2
  obtain ⟨bM, a0, nM, cM, d0, cs0, T0, z0, g0, k0⟩ := partOpen Tryd.underlying22 it54 h0 w0 f0
  obtain ⟨bS, a1, nS, cS, d1, cs1, T1, z1, g1, k1⟩ := partOpen Tryd.underlying23 it41 h0 w1 f1
  obtain ⟨bL, a2, nL, cL, d2, cs2, T2, z2, g2, k2⟩ := partOpen Tryd.underlying24 it62 h0 w2 f2
  refine ⟨⟨nM, nS, nL, fun k => cellI w a0 (k * 3), fun k => cellI w a0 (k * 3 + 1), fun k => cellI w a0 (k * 3 + 2), fun k => cellI w a1 (k * 2), fun k => cellI w a1 (k * 2 + 1), fun k => cellI w a2 (k * 4), fun k => cellI w a2 (k * 4 + 1), fun k => cellI w a2 (k * 4 + 2), fun k => cellI w a2 (k * 4 + 3), bM, bS, bL, cM, cS, cL⟩, a0, a1, a2, ?_, ?_, ?_, ?_, ?_⟩
  · constructor <;> intro k <;> exact cellI_ok _ _ _
  · intro η q0 q1 q2
    exact den_three (d0 η 0 q0) (d1 η 1 q1) (d2 η 2 q2)
  · intro η F
    refine ⟨cs0, T0, z0, g0, fun k hk => ⟨_, rfl, rfl, fun j v hj => ?_⟩⟩
    match j, hj with
    | 0, hj => cases hj; exact k0 k hk 0 (by omega)
    | 1, hj => cases hj; exact k0 k hk 1 (by omega)
    | 2, hj => cases hj; exact k0 k hk 2 (by omega)
  · intro η F
    refine ⟨cs1, T1, z1, g1, fun k hk => ⟨_, rfl, rfl, fun j v hj => ?_⟩⟩
    match j, hj with
    | 0, hj => cases hj; exact k1 k hk 0 (by omega)
    | 1, hj => cases hj; exact k1 k hk 1 (by omega)
  · intro η F
    refine ⟨cs2, T2, z2, g2, fun k hk => ⟨_, rfl, rfl, fun j v hj => ?_⟩⟩
    match j, hj with
    | 0, hj => cases hj; exact k2 k hk 0 (by omega)
    | 1, hj => cases hj; exact k2 k hk 1 (by omega)
    | 2, hj => cases hj; exact k2 k hk 2 (by omega)
    | 3, hj => cases hj; exact k2 k hk 3 (by omega)
end

/-- A world that holds the rows of a tide, and both tables. -/
theorem satHG {w : World} {v : Value} {t : TD} {a0 a1 a2 : Nat × Nat} (h : TideIn w v t a0 a1 a2) (hL : laidMetH Tryd.prog Rows.tideNamesRow.laid w) :
    Sat (fun j => [a0, a1, a2, ((0 : Nat), (0 : Nat)), (1, 0)][j]?) (fun _ _ => False) t.HG w (fun _ => False) w := by
  refine satRo _ rfl ?_ ?_
  · intro i x hx
    match i, hx with
    | 0, hx => cases hx; exact ⟨_, rfl, rfl⟩
    | 1, hx => cases hx; exact ⟨_, rfl, rfl⟩
    | 2, hx => cases hx; exact ⟨_, rfl, rfl⟩
    | 3, hx => cases hx; exact ⟨_, rfl, rfl⟩
    | 4, hx => cases hx; exact ⟨_, rfl, rfl⟩
  · intro i o a ho ha
    match i, ho, ha with
    | 0, ho, ha => cases ho; cases ha; exact h.m _ _
    | 1, ho, ha => cases ho; cases ha; exact h.s _ _
    | 2, ho, ha => cases ho; cases ha; exact h.l _ _
    | 3, ho, ha => cases ho; cases ha; exact glob_holds (tabDone hL) gDone
    | 4, ho, ha => cases ho; cases ha; exact glob_holds (tabDb hL) gDb
/-- The first block holds cells. -/
theorem cells0 {w : World} (hL : laidMetH Tryd.prog Rows.tideNamesRow.laid w) : ∃ cs T fz, w.heap[0]? = some (.cells cs T fz) := by
  have h := tabDone hL
  unfold Lib.TabIs World.var? at h
  rw [gDone] at h
  simp only [Option.bind_some] at h
  split at h
  · rename_i e
    exact ⟨_, _, _, e⟩
  · cases h
end Go.Proofs.YtipbempkngfdbaaDoor
/-
  The plain law on heights: a height between two marks, as truths have it.
-/
namespace Go.Proofs.YtipbempkngfdbaaDoor
open Go Go.Sy
set_option maxRecDepth 100000

/-! ### The least and the greatest of a list -/
theorem hul_le {a : Tr → Int} {g : List Tr} : ∀ {k : Nat}, ∀ i, i < k → hulLo a g k ≤ a (g.getD i tr0) ∧ a (g.getD i tr0) ≤ hulHi a g k
  | 0, i, h => by omega
  | k + 1, i, h => by
    simp only [hulLo, hulHi, seeLo, seeHi]
    rcases Nat.lt_succ_iff_lt_or_eq.1 h with h | rfl
    · obtain ⟨h1, h2⟩ := hul_le (a := a) (g := g) i h
      have : nz k = true := by cases k <;> first | omega | rfl
      rw [this]
      simp only [if_true]
      constructor <;> split <;> omega
    · constructor <;> split <;> (try split) <;> omega
theorem hul_at {a : Tr → Int} {g : List Tr} : ∀ {k : Nat}, 0 < k → (∃ i, i < k ∧ hulLo a g k = a (g.getD i tr0)) ∧ (∃ i, i < k ∧ hulHi a g k = a (g.getD i tr0))
  | 0, h => by omega
  | k + 1, _ => by
    simp only [hulLo, hulHi, seeLo, seeHi]
    cases k with
    | zero => exact ⟨⟨0, by omega, by simp [nz]⟩, ⟨0, by omega, by simp [nz]⟩⟩
    | succ k =>
      obtain ⟨⟨i, hi, e1⟩, ⟨j, hj, e2⟩⟩ := hul_at (a := a) (g := g) (k := k + 1) (by omega)
      refine ⟨?_, ?_⟩
      · by_cases h : hulLo a g (k + 1) ≤ a (g.getD (k + 1) tr0)
        · exact ⟨i, by omega, by simp only [nz, if_true, if_pos h]; exact e1⟩
        · exact ⟨k + 1, by omega, by simp only [nz, if_true, if_neg h]⟩
      · by_cases h : a (g.getD (k + 1) tr0) ≤ hulHi a g (k + 1)
        · exact ⟨j, by omega, by simp only [nz, if_true, if_pos h]; exact e2⟩
        · exact ⟨k + 1, by omega, by simp only [nz, if_true, if_neg h]⟩
theorem hul_mem {a : Tr → Int} {g : List Tr} {x : Tr} (hx : x ∈ g) : hulLo a g g.length ≤ a x ∧ a x ≤ hulHi a g g.length := by
  obtain ⟨i, hi, rfl⟩ := List.getElem_of_mem hx
  have := hul_le (a := a) (g := g) (k := g.length) i hi
  rwa [List.getD_eq_getElem?_getD, List.getElem?_eq_getElem hi] at this
theorem hul_ex {a : Tr → Int} {g : List Tr} (hg : g ≠ []) : (∃ x ∈ g, hulLo a g g.length = a x) ∧ (∃ x ∈ g, hulHi a g g.length = a x) := by
  obtain ⟨⟨i, hi, e1⟩, ⟨j, hj, e2⟩⟩ := hul_at (a := a) (g := g) (k := g.length) (List.length_pos_iff.2 hg)
  exact ⟨⟨_, getD_mem hi, e1⟩, ⟨_, getD_mem hj, e2⟩⟩

/-! ### Heights of a truth -/
theorem tls_h {t : TD} : ∀ (r : Nat) (h : Nat → Int), r ≤ t.nM → ∀ x ∈ t.tls r h, (∀ i, i < t.nM - r → x.h i = h i) ∧ ∀ i, t.nM - r ≤ i → i < t.nM → t.mlo i ≤ x.h i ∧ x.h i ≤ t.mhi i
  | 0, h, _, x, hx => by
    simp only [TD.tls] at hx
    split at hx
    · simp at hx
      subst hx
      exact ⟨fun i _ => rfl, fun i h1 h2 => by omega⟩
    · simp at hx
  | r + 1, h, hr, x, hx => by
    simp only [TD.tls] at hx
    obtain ⟨j, hj, hx⟩ := catF_mem hx
    obtain ⟨h1, h2⟩ := tls_h r _ (by omega) x hx
    refine ⟨fun i hi => ?_, fun i hi hi' => ?_⟩
    · rw [h1 i (by omega)]
      simp only [upd]
      rw [if_neg (by omega)]
    · rcases Nat.eq_or_lt_of_le hi with rfl | hlt
      · rw [h1 _ (by omega)]
        simp only [upd, if_true]
        omega
      · exact h2 i (by omega) hi'
theorem all_h {t : TD} {x : Tr} (hx : x ∈ t.all) {i : Nat} (hi : i < t.nM) : t.mlo i ≤ x.h i ∧ x.h i ≤ t.mhi i :=
  (tls_h t.nM _ (Nat.le_refl _) x hx).2 i (by omega) hi

/-! ### How far the water has moved -/
def moved (lg d : Int) : Int := tw (6 * d / lg) * lg + (tw (6 * d / lg + 1) - tw (6 * d / lg)) * (6 * d % lg)
theorem tw_mono {a b : Int} (h : a ≤ b) : tw a ≤ tw b := by
  unfold tw
  repeat' split
  all_goals omega
theorem moved_mono {lg d d' : Int} (hl : 0 < lg) (h : d ≤ d') : moved lg d ≤ moved lg d' := by
  unfold moved
  have e1 := Int.mul_ediv_add_emod (6 * d) lg
  have e2 := Int.mul_ediv_add_emod (6 * d') lg
  have r1 := Int.emod_nonneg (6 * d) (b := lg) (by omega)
  have r2 := Int.emod_nonneg (6 * d') (b := lg) (by omega)
  have r3 := Int.emod_lt_of_pos (6 * d) hl
  have hq : 6 * d / lg ≤ 6 * d' / lg := Int.ediv_le_ediv hl (by omega)
  generalize 6 * d / lg = q at *
  generalize 6 * d' / lg = q' at *
  generalize 6 * d % lg = r at *
  generalize 6 * d' % lg = r' at *
  have s1 := tw_step q
  have s2 := tw_step q'
  rcases Int.lt_or_eq_of_le hq with hlt | rfl
  · have m1 : tw (q + 1) ≤ tw q' := tw_mono (by omega)
    have a1 : (tw (q + 1) - tw q) * r ≤ (tw (q + 1) - tw q) * lg := Int.mul_le_mul_of_nonneg_left (by omega) (by omega)
    have a2 : tw (q + 1) * lg ≤ tw q' * lg := Int.mul_le_mul_of_nonneg_right m1 (by omega)
    have a3 : 0 ≤ (tw (q' + 1) - tw q') * r' := Int.mul_nonneg (by omega) r2
    have a4 : (tw (q + 1) - tw q) * lg = tw (q + 1) * lg - tw q * lg := Int.sub_mul ..
    omega
  · have : r ≤ r' := by omega
    have a1 : (tw (q + 1) - tw q) * r ≤ (tw (q + 1) - tw q) * r' := Int.mul_le_mul_of_nonneg_left this (by omega)
    omega
theorem moved_zero (lg : Int) : moved lg 0 = 0 := by simp [moved, tw]
theorem moved_all {lg : Int} (hl : 0 < lg) : moved lg lg = 12 * lg := by
  unfold moved
  rw [Int.mul_ediv_cancel 6 (by omega), Int.mul_emod_left]
  simp [tw]
theorem moved_half {lg d : Int} (hl : 0 < lg) (h : 2 * d = lg) : moved lg d = 6 * lg := by
  unfold moved
  rw [show 6 * d = 3 * lg by omega, Int.mul_ediv_cancel 3 (by omega), Int.mul_emod_left]
  simp [tw]

/-- Between heights a and b. -/
def mid (a b lg f : Int) : Int := (a * (12 * lg - f) + b * f) / (12 * lg)
theorem mid_eq (a b lg f : Int) : a * (12 * lg - f) + b * f = a * (12 * lg) + (b - a) * f := by
  rw [Int.mul_sub, Int.sub_mul]
  omega
theorem mid_zero {a b lg : Int} (hl : 0 < lg) : mid a b lg 0 = a := by
  unfold mid
  rw [Int.sub_zero, Int.mul_zero, Int.add_zero, Int.mul_ediv_cancel a (by omega)]
theorem mid_all {a b lg : Int} (hl : 0 < lg) : mid a b lg (12 * lg) = b := by
  unfold mid
  rw [Int.sub_self, Int.mul_zero, Int.zero_add, Int.mul_ediv_cancel b (by omega)]
theorem mid_up {a b lg f f' : Int} (hl : 0 < lg) (hab : a ≤ b) (hf : f ≤ f') : mid a b lg f ≤ mid a b lg f' := by
  unfold mid
  rw [mid_eq, mid_eq]
  have := Int.mul_le_mul_of_nonneg_left hf (show 0 ≤ b - a by omega)
  exact Int.ediv_le_ediv (by omega) (by omega)
theorem mid_down {a b lg f f' : Int} (hl : 0 < lg) (hab : b ≤ a) (hf : f ≤ f') : mid a b lg f' ≤ mid a b lg f := by
  unfold mid
  rw [mid_eq, mid_eq]
  have := Int.mul_le_mul_of_nonneg_left hf (show 0 ≤ a - b by omega)
  have e1 : (a - b) * f = -((b - a) * f) := by rw [← Int.neg_mul]; congr 1; omega
  have e2 : (a - b) * f' = -((b - a) * f') := by rw [← Int.neg_mul]; congr 1; omega
  exact Int.ediv_le_ediv (by omega) (by omega)
theorem mid_half {a b lg : Int} (hl : 0 < lg) : mid a b lg (6 * lg) = (a + b) / 2 := by
  unfold mid
  rw [show a * (12 * lg - 6 * lg) + b * (6 * lg) = (a + b) * (6 * lg) by rw [Int.add_mul]; congr 2; omega, show 12 * lg = 2 * (6 * lg) by omega]
  exact Int.mul_ediv_mul_of_pos_left _ _ (by omega)
theorem mid_lo {a b lg f l : Int} (hl : 0 < lg) (h0 : 0 ≤ f) (h1 : f ≤ 12 * lg) (ha : l ≤ a) (hb : l ≤ b) : l ≤ mid a b lg f := by
  rcases Int.le_total a b with h | h
  · have := mid_up hl h h0
    rw [mid_zero hl] at this
    omega
  · have := mid_down hl h h1
    rw [mid_all hl] at this
    omega
theorem mid_hi {a b lg f l : Int} (hl : 0 < lg) (h0 : 0 ≤ f) (h1 : f ≤ 12 * lg) (ha : a ≤ l) (hb : b ≤ l) : mid a b lg f ≤ l := by
  rcases Int.le_total a b with h | h
  · have := mid_up hl h h1
    rw [mid_all hl] at this
    omega
  · have := mid_down hl h h0
    rw [mid_zero hl] at this
    omega
end Go.Proofs.YtipbempkngfdbaaDoor
/-
  The plain law of TideMoves.
-/
namespace Go.Proofs.YtipbempkngfdbaaDoor
open Go Go.Sy
set_option maxRecDepth 100000

theorem mi_le {t : TD} (hv : t.Valid) : ∀ {j i : Nat}, i ≤ j → j < t.nM → t.mi i ≤ t.mi j
  | 0, i, h, _ => by
    have : i = 0 := by omega
    subst this
    exact Int.le_refl _
  | j + 1, i, h, hj => by
    rcases Nat.eq_or_lt_of_le h with rfl | h'
    · exact Int.le_refl _
    · have h1 := mi_le hv (j := j) (i := i) (by omega) (by omega)
      have h2 := hv.step (i := j + 1) (by omega) hj
      have e : j + 1 - 1 = j := by omega
      rw [e] at h2
      omega

theorem stand_nx {t : TD} (hv : t.Valid) {m : Int} (hm : t.isMin m) (h : Nat → Int) :
    t.stand h m = mid (h (t.nx m - 1)) (h (t.nx m)) (t.mi (t.nx m) - t.mi (t.nx m - 1)) (moved (t.mi (t.nx m) - t.mi (t.nx m - 1)) (m - t.mi (t.nx m - 1))) := by
  obtain ⟨g1, g2, g3, g4⟩ := TD.stand_spec hv hm
  simp only [TD.stand, mid, moved]
  have r1 := Int.emod_nonneg (6 * (m - t.mi (t.nx m - 1))) (b := t.mi (t.nx m) - t.mi (t.nx m - 1)) (by omega)
  split
  · rfl
  · rename_i hr
    have e : 6 * (m - t.mi (t.nx m - 1)) % (t.mi (t.nx m) - t.mi (t.nx m - 1)) = 0 := by omega
    rw [e, Int.mul_zero]

theorem stand_at {t : TD} (hv : t.Valid) {i : Nat} (h1 : 1 ≤ i) (hi : i < t.nM) {m : Int} (ha : t.mi (i - 1) ≤ m) (hb : m ≤ t.mi i) (h : Nat → Int) :
    t.stand h m = mid (h (i - 1)) (h i) (t.mi i - t.mi (i - 1)) (moved (t.mi i - t.mi (i - 1)) (m - t.mi (i - 1))) := by
  have hm : t.isMin m := ⟨Int.le_trans (mi_le hv (Nat.zero_le _) (by omega)) ha, Int.le_trans hb (mi_le hv (by omega) (by have := hv.1.1; omega))⟩
  rw [stand_nx hv hm]
  obtain ⟨k1, k2, k3, k4, k5⟩ := t.nx_spec hv hm
  obtain ⟨g1, g2, g3, g4⟩ := TD.stand_spec hv hm
  have st := hv.step (i := i) (by omega) hi
  rcases Nat.lt_trichotomy (t.nx m) i with hk | hk | hk
  · have h2 := mi_le hv (i := t.nx m) (j := i - 1) (by omega) (by omega)
    have h3 : t.nx m = i - 1 := by
      rcases Nat.eq_or_lt_of_le (show t.nx m ≤ i - 1 by omega) with h | h
      · exact h
      · have h4 := mi_le hv (i := t.nx m) (j := i - 1 - 1) (by omega) (by omega)
        have h5 := hv.step (i := i - 1) (by omega) (by omega)
        omega
    have e1 : m - t.mi (i - 1) = 0 := by omega
    have e2 : m - t.mi (t.nx m - 1) = t.mi (t.nx m) - t.mi (t.nx m - 1) := by omega
    rw [e1, e2, moved_zero, moved_all (by omega), mid_zero (by omega), mid_all (by omega), h3]
  · rw [hk]
  · have := k5 i h1 hk
    omega

/-- What is told of the height at a minute, where there are truths. -/
structure Hull (t : TD) (m lo hi : Int) : Prop where
  v : t.height m = ⟨(lo, hi), 0⟩
  bnd : ∀ x ∈ t.all, lo ≤ t.stand x.h m ∧ t.stand x.h m ≤ hi
  lo : ∃ x ∈ t.all, t.stand x.h m = lo
  hi : ∃ x ∈ t.all, t.stand x.h m = hi
theorem hull {t : TD} (hv : t.Valid) (hn : t.all ≠ []) {m : Int} (hm : t.isMin m) : ∃ lo hi, Hull t m lo hi := by
  refine ⟨_, _, ⟨by unfold TD.height; rw [if_neg (fun h => h hv), if_neg (fun h => h hm), if_neg hn], fun x hx => hul_mem hx, ?_, ?_⟩⟩
  · obtain ⟨⟨x, hx, e⟩, _⟩ := hul_ex (a := fun x => t.stand x.h m) hn
    exact ⟨x, hx, e.symm⟩
  · obtain ⟨_, x, hx, e⟩ := hul_ex (a := fun x => t.stand x.h m) hn
    exact ⟨x, hx, e.symm⟩

/-- What TideMoves asks of the told heights s (at m), n (at m + 1), x and y (at the marks a and b), and half. -/
structure Moves (al ah bl bh sl sh nl nh xl xh yl yh : Int) : Prop where
  x : al ≤ xl ∧ xh ≤ ah
  y : bl ≤ yl ∧ yh ≤ bh
  s : min xl yl ≤ sl ∧ sh ≤ max xh yh
  up : xh ≤ yl → sl ≤ nl ∧ sh ≤ nh
  down : yh ≤ xl → nl ≤ sl ∧ nh ≤ sh
theorem moves {t : TD} (hv : t.Valid) {i : Nat} (h1 : 1 ≤ i) (hi : i < t.nM) {m : Int} (ha : t.mi (i - 1) ≤ m) (hb : m < t.mi i) {sl sh nl nh xl xh yl yh : Int}
    (s : Hull t m sl sh) (n : Hull t (m + 1) nl nh) (x : Hull t (t.mi (i - 1)) xl xh) (y : Hull t (t.mi i) yl yh) :
    Moves (t.mlo (i - 1)) (t.mhi (i - 1)) (t.mlo i) (t.mhi i) sl sh nl nh xl xh yl yh := by
  have st := hv.step (i := i) (by omega) hi
  have hl : 0 < t.mi i - t.mi (i - 1) := by omega
  have eS := fun h => stand_at hv h1 hi ha (Int.le_of_lt hb) h
  have eN := fun h => stand_at hv h1 hi (m := m + 1) (by omega) (by omega) h
  have eX : ∀ h, t.stand h (t.mi (i - 1)) = h (i - 1) := fun h => by
    rw [stand_at hv h1 hi (m := t.mi (i - 1)) (by omega) (by omega) h, Int.sub_self, moved_zero, mid_zero hl]
  have eY : ∀ h, t.stand h (t.mi i) = h i := fun h => by
    rw [stand_at hv h1 hi (m := t.mi i) (by omega) (by omega) h, moved_all hl, mid_all hl]
  have f0 : 0 ≤ moved (t.mi i - t.mi (i - 1)) (m - t.mi (i - 1)) := by
    have := moved_mono hl (show 0 ≤ m - t.mi (i - 1) by omega)
    rw [moved_zero] at this
    exact this
  have f1 : moved (t.mi i - t.mi (i - 1)) (m - t.mi (i - 1)) ≤ 12 * (t.mi i - t.mi (i - 1)) := by
    have := moved_mono hl (show m - t.mi (i - 1) ≤ t.mi i - t.mi (i - 1) by omega)
    rw [moved_all hl] at this
    exact this
  have fn : moved (t.mi i - t.mi (i - 1)) (m - t.mi (i - 1)) ≤ moved (t.mi i - t.mi (i - 1)) (m + 1 - t.mi (i - 1)) := moved_mono hl (by omega)
  have bX : ∀ w ∈ t.all, xl ≤ w.h (i - 1) ∧ w.h (i - 1) ≤ xh := fun w hw => by have := x.bnd w hw; rwa [eX] at this
  have bY : ∀ w ∈ t.all, yl ≤ w.h i ∧ w.h i ≤ yh := fun w hw => by have := y.bnd w hw; rwa [eY] at this
  constructor
  · obtain ⟨u, hu, e1⟩ := x.lo
    obtain ⟨v, hw, e2⟩ := x.hi
    rw [eX] at e1 e2
    have := all_h hu (i := i - 1) (by omega)
    have := all_h hw (i := i - 1) (by omega)
    omega
  · obtain ⟨u, hu, e1⟩ := y.lo
    obtain ⟨v, hw, e2⟩ := y.hi
    rw [eY] at e1 e2
    have := all_h hu hi
    have := all_h hw hi
    omega
  · obtain ⟨u, hu, e1⟩ := s.lo
    obtain ⟨v, hw, e2⟩ := s.hi
    rw [eS] at e1 e2
    have a1 := bX u hu
    have a2 := bY u hu
    have a3 := bX v hw
    have a4 := bY v hw
    have b1 := mid_lo (l := min xl yl) hl f0 f1 (show min xl yl ≤ u.h (i - 1) by omega) (show min xl yl ≤ u.h i by omega)
    have b2 := mid_hi (l := max xh yh) hl f0 f1 (show v.h (i - 1) ≤ max xh yh by omega) (show v.h i ≤ max xh yh by omega)
    omega
  · intro hxy
    obtain ⟨u, hu, e1⟩ := n.lo
    obtain ⟨v, hw, e2⟩ := s.hi
    have c1 := (s.bnd u hu).1
    have c2 := (n.bnd v hw).2
    rw [eN] at e1 c2
    rw [eS] at e2 c1
    have a1 := bX u hu
    have a2 := bY u hu
    have a3 := bX v hw
    have a4 := bY v hw
    have d1 := mid_up hl (show u.h (i - 1) ≤ u.h i by omega) fn
    have d2 := mid_up hl (show v.h (i - 1) ≤ v.h i by omega) fn
    omega
  · intro hxy
    obtain ⟨u, hu, e1⟩ := s.lo
    obtain ⟨v, hw, e2⟩ := n.hi
    have c1 := (n.bnd u hu).1
    have c2 := (s.bnd v hw).2
    rw [eS] at e1 c2
    rw [eN] at e2 c1
    have a1 := bX u hu
    have a2 := bY u hu
    have a3 := bX v hw
    have a4 := bY v hw
    have d1 := mid_down hl (show u.h i ≤ u.h (i - 1) by omega) fn
    have d2 := mid_down hl (show v.h i ≤ v.h (i - 1) by omega) fn
    omega
theorem movesHalf {t : TD} (hv : t.Valid) {i : Nat} (h1 : 1 ≤ i) (hi : i < t.nM) {m : Int} (hm : 2 * m = t.mi (i - 1) + t.mi i) {kl kh xl xh yl yh : Int}
    (k : Hull t m kl kh) (x : Hull t (t.mi (i - 1)) xl xh) (y : Hull t (t.mi i) yl yh) : (xl + yl) / 2 ≤ kl ∧ kh ≤ (xh + yh) / 2 := by
  have st := hv.step (i := i) (by omega) hi
  have hl : 0 < t.mi i - t.mi (i - 1) := by omega
  have eK : ∀ h, t.stand h m = (h (i - 1) + h i) / 2 := fun h => by
    rw [stand_at hv h1 hi (m := m) (by omega) (by omega) h, moved_half hl (by omega), mid_half hl]
  have eX : ∀ h, t.stand h (t.mi (i - 1)) = h (i - 1) := fun h => by
    rw [stand_at hv h1 hi (m := t.mi (i - 1)) (by omega) (by omega) h, Int.sub_self, moved_zero, mid_zero hl]
  have eY : ∀ h, t.stand h (t.mi i) = h i := fun h => by
    rw [stand_at hv h1 hi (m := t.mi i) (by omega) (by omega) h, moved_all hl, mid_all hl]
  obtain ⟨u, hu, e1⟩ := k.lo
  obtain ⟨v, hw, e2⟩ := k.hi
  have a1 := x.bnd u hu
  have a2 := y.bnd u hu
  have a3 := x.bnd v hw
  have a4 := y.bnd v hw
  rw [eX] at a1 a3
  rw [eY] at a2 a4
  rw [eK] at e1 e2
  omega
end Go.Proofs.YtipbempkngfdbaaDoor
/-
  Truths one by one: heights of marks and of sand, and which of them fit the looks.
-/
namespace Go.Proofs.YtipbempkngfdbaaDoor
open Go Go.Sy
set_option maxRecDepth 100000
set_option maxHeartbeats 4000000

/-! ### Lists -/
def catG {α : Type} (f : Int → List α) (lo : Int) : Nat → List α
  | 0 => []
  | c + 1 => catG f lo c ++ f (lo + c)
theorem catG_mem {α : Type} {f : Int → List α} {lo : Int} {x : α} : ∀ {c : Nat}, x ∈ catG f lo c ↔ ∃ v, lo ≤ v ∧ v < lo + c ∧ x ∈ f v
  | 0 => by
    simp only [catG, List.not_mem_nil, false_iff]
    rintro ⟨v, h1, h2, _⟩
    omega
  | c + 1 => by
    simp only [catG, List.mem_append, catG_mem (c := c)]
    constructor
    · rintro (⟨v, h1, h2, h3⟩ | h)
      · exact ⟨v, h1, by omega, h3⟩
      · exact ⟨lo + c, by omega, by omega, h⟩
    · rintro ⟨v, h1, h2, h3⟩
      by_cases h : v = lo + c
      · subst h; exact .inr h3
      · exact .inl ⟨v, h1, by omega, h3⟩
theorem catF_eq (f : Int → List Tr) (lo : Int) : ∀ c, catF f lo c = catG f lo c
  | 0 => rfl
  | c + 1 => by rw [catF, catG, catF_eq f lo c]
theorem catG_bind {α β : Type} (f : Int → List α) (g : α → List β) (lo : Int) : ∀ c, (catG f lo c).flatMap g = catG (fun v => (f v).flatMap g) lo c
  | 0 => rfl
  | c + 1 => by rw [catG, catG, List.flatMap_append, catG_bind f g lo c]
theorem catG_congr {α : Type} {f g : Int → List α} {lo : Int} : ∀ {c : Nat}, (∀ v, lo ≤ v → v < lo + c → f v = g v) → catG f lo c = catG g lo c
  | 0, _ => rfl
  | c + 1, h => by rw [catG, catG, catG_congr (c := c) fun v h1 h2 => h v h1 (by omega), h _ (by omega) (by omega)]
theorem catG_filter {α : Type} (f : Int → List α) (q : α → Bool) (lo : Int) : ∀ c, (catG f lo c).filter q = catG (fun v => (f v).filter q) lo c
  | 0 => rfl
  | c + 1 => by rw [catG, catG, List.filter_append, catG_filter f q lo c]
/-- All functions with numbers of spans, from place n - r on. -/
def lsts (lo hi : Nat → Int) (n : Nat) : Nat → (Nat → Int) → List (Nat → Int)
  | 0, h => [h]
  | r + 1, h => catG (fun v => lsts lo hi n r (upd h (n - (r + 1)) v)) (lo (n - (r + 1))) (hi (n - (r + 1)) - lo (n - (r + 1)) + 1).toNat
theorem lsts_mem {lo hi : Nat → Int} {n : Nat} : ∀ {r : Nat} {h x : Nat → Int}, r ≤ n → (x ∈ lsts lo hi n r h ↔ (∀ i, n - r ≤ i → i < n → lo i ≤ x i ∧ x i ≤ hi i) ∧ ∀ i, (i < n - r ∨ n ≤ i) → x i = h i)
  | 0, h, x, _ => by
    simp only [lsts, List.mem_singleton]
    constructor
    · rintro rfl
      exact ⟨fun i h1 h2 => by omega, fun i _ => rfl⟩
    · rintro ⟨_, h2⟩
      exact funext fun i => h2 i (by omega)
  | r + 1, h, x, hr => by
    simp only [lsts, catG_mem]
    constructor
    · rintro ⟨v, h1, h2, h3⟩
      obtain ⟨a, b⟩ := (lsts_mem (by omega)).1 h3
      have e := b (n - (r + 1)) (by omega)
      simp only [upd, if_true] at e
      refine ⟨fun i hi hi' => ?_, fun i hi => ?_⟩
      · by_cases hj : i = n - (r + 1)
        · subst hj; omega
        · exact a i (by omega) hi'
      · rw [b i (by omega)]
        simp only [upd]
        rw [if_neg (by omega)]
    · rintro ⟨a, b⟩
      have := a (n - (r + 1)) (Nat.le_refl _) (by omega)
      refine ⟨x (n - (r + 1)), this.1, by omega, (lsts_mem (by omega)).2 ⟨fun i hi hi' => a i (by omega) hi', fun i hi => ?_⟩⟩
      simp only [upd]
      split
      · rename_i e
        rw [e]
      · exact b i (by omega)
theorem catG_nodup {α : Type} {f : Int → List α} {lo : Int} (k : α → Int) : ∀ {c : Nat}, (∀ v, lo ≤ v → v < lo + c → (f v).Nodup ∧ ∀ x ∈ f v, k x = v) → (catG f lo c).Nodup
  | 0, _ => List.nodup_nil
  | c + 1, h => by
    rw [catG, List.nodup_append]
    refine ⟨catG_nodup k fun v h1 h2 => h v h1 (by omega), (h _ (by omega) (by omega)).1, fun a ha b hb e => ?_⟩
    subst e
    obtain ⟨v, h1, h2, h3⟩ := catG_mem.1 ha
    have e1 := (h v h1 (by omega)).2 a h3
    have e2 := (h _ (by omega) (by omega)).2 a hb
    omega
theorem lsts_nodup {lo hi : Nat → Int} {n : Nat} : ∀ {r : Nat} {h : Nat → Int}, r ≤ n → (lsts lo hi n r h).Nodup
  | 0, h, _ => by simp [lsts]
  | r + 1, h, hr => by
    rw [lsts]
    refine catG_nodup (fun x => x (n - (r + 1))) fun v _ _ => ⟨lsts_nodup (by omega), fun x hx => ?_⟩
    have := ((lsts_mem (by omega)).1 hx).2 (n - (r + 1)) (by omega)
    simpa [upd] using this

/-! ### Products -/
/-- How many numbers of the first c from lo on are so. -/
def cntI (q : Int → Bool) (lo : Int) : Nat → Nat
  | 0 => 0
  | c + 1 => cntI q lo c + if q (lo + c) = true then 1 else 0
def prodF (f : Nat → Nat) (a : Nat) : Nat → Nat
  | 0 => 1
  | r + 1 => f a * prodF f (a + 1) r
/-- From a on, r of them. -/
def allF (f : Nat → Bool) (a : Nat) : Nat → Bool
  | 0 => true
  | r + 1 => f a && allF f (a + 1) r
theorem allF_iff {f : Nat → Bool} : ∀ {r a : Nat}, allF f a r = true ↔ ∀ i, a ≤ i → i < a + r → f i = true
  | 0, a => by
    simp only [allF, true_iff]
    intro i h1 h2
    omega
  | r + 1, a => by
    simp only [allF, Bool.and_eq_true, allF_iff (r := r)]
    constructor
    · rintro ⟨h1, h2⟩ i hi hi'
      rcases Nat.eq_or_lt_of_le hi with rfl | h
      · exact h1
      · exact h2 i (by omega) (by omega)
    · exact fun h => ⟨h a (by omega) (by omega), fun i h1 h2 => h i (by omega) (by omega)⟩
theorem catG_count {α : Type} {f : Int → List α} {q : Int → Bool} {lo : Int} {N : Nat} : ∀ {c : Nat}, (∀ v, lo ≤ v → v < lo + c → (f v).length = if q v = true then N else 0) → (catG f lo c).length = cntI q lo c * N
  | 0, _ => by simp [catG, cntI]
  | c + 1, h => by
    rw [catG, List.length_append, catG_count (c := c) fun v h1 h2 => h v h1 (by omega), h _ (by omega) (by omega), cntI, Nat.add_mul]
    congr 1
    split <;> simp
theorem lsts_count {lo hi : Nat → Int} {n : Nat} (q : Nat → Int → Bool) : ∀ {r : Nat} {h : Nat → Int}, r ≤ n →
    ((lsts lo hi n r h).filter fun x => allF (fun i => q i (x i)) (n - r) r).length = prodF (fun i => cntI (q i) (lo i) (hi i - lo i + 1).toNat) (n - r) r
  | 0, h, _ => by simp [lsts, allF, prodF]
  | r + 1, h, hr => by
    have e1 : n - (r + 1) + 1 = n - r := by omega
    rw [lsts, catG_filter, prodF, e1]
    refine catG_count fun v _ _ => ?_
    have e : ∀ x ∈ lsts lo hi n r (upd h (n - (r + 1)) v), allF (fun i => q i (x i)) (n - (r + 1)) (r + 1) = (q (n - (r + 1)) v && allF (fun i => q i (x i)) (n - r) r) := fun x hx => by
      have := ((lsts_mem (by omega)).1 hx).2 (n - (r + 1)) (by omega)
      simp only [upd, if_true] at this
      rw [allF, e1, this]
    rw [List.filter_congr e]
    cases hq : q (n - (r + 1)) v
    · simp
    · simp only [Bool.true_and, if_true]
      exact lsts_count q (by omega)
theorem manyF_prod (x : Tr) (f : Nat → Nat) : ∀ (r a : Nat), (∀ i, a ≤ i → i < a + r → oc64 (x.s i) = (f i : Int)) → manyF x (a + r) = manyF x a * (prodF f a r : Int)
  | 0, a, _ => by simp [prodF]
  | r + 1, a, h => by
    have := manyF_prod x f r (a + 1) fun i h1 h2 => h i (by omega) (by omega)
    rw [show a + (r + 1) = a + 1 + r by omega, this, manyF, h a (by omega) (by omega), prodF, Int.mul_assoc]
    push_cast
    rfl
end Go.Proofs.YtipbempkngfdbaaDoor
/-
  What the set of heights of sand at a place says.
-/
namespace Go.Proofs.YtipbempkngfdbaaDoor
open Go Go.Sy
set_option maxRecDepth 100000
set_option maxHeartbeats 4000000

def maskF (f : Nat → Bool) : Nat → Nat
  | 0 => 0
  | c + 1 => maskF f c + if f c = true then 2 ^ c else 0
def cntN (f : Nat → Bool) : Nat → Nat
  | 0 => 0
  | c + 1 => cntN f c + if f c = true then 1 else 0
def loM (m : Nat) : Nat := if m % 2 = 1 then 0 else if m % 4 = 2 then 1 else 2
def hiM (m : Nat) : Nat := if 4 ≤ m then 3 else if 2 ≤ m then 2 else 1
theorem maskF_congr {f g : Nat → Bool} : ∀ {c : Nat}, (∀ j, j < c → f j = g j) → maskF f c = maskF g c
  | 0, _ => rfl
  | c + 1, h => by rw [maskF, maskF, maskF_congr (c := c) fun j hj => h j (by omega), h c (by omega)]
theorem cntN_congr {f g : Nat → Bool} : ∀ {c : Nat}, (∀ j, j < c → f j = g j) → cntN f c = cntN g c
  | 0, _ => rfl
  | c + 1, h => by rw [cntN, cntN, cntN_congr (c := c) fun j hj => h j (by omega), h c (by omega)]
theorem cntI_N (q : Int → Bool) (lo : Int) : ∀ c, cntI q lo c = cntN (fun j => q (lo + (j : Nat))) c
  | 0 => rfl
  | c + 1 => by rw [cntI, cntN, cntI_N q lo c]
def bs (a b d : Bool) (j : Nat) : Bool := [a, b, d].getD j false
theorem mask_d1 : ∀ c, c < 4 → ∀ a b d : Bool, maskF (bs a b d) c < 8 ∧ (maskF (bs a b d) c = 0 ↔ ∀ j, j < c → bs a b d j = false) := by decide
theorem mask_d3 : ∀ c, c < 4 → ∀ a b d : Bool, (if maskF (bs a b d) c = 0 then 0 else if maskF (bs a b d) c = 1 ∨ maskF (bs a b d) c = 2 ∨ maskF (bs a b d) c = 4 then 1 else if maskF (bs a b d) c = 7 then 3 else 2) = cntN (bs a b d) c := by decide
theorem mask_d4 : ∀ c, c < 4 → ∀ a b d : Bool, maskF (bs a b d) c ≠ 0 → loM (maskF (bs a b d) c) < c ∧ hiM (maskF (bs a b d) c) - 1 < c ∧ bs a b d (loM (maskF (bs a b d) c)) = true ∧ bs a b d (hiM (maskF (bs a b d) c) - 1) = true := by decide
theorem mask_d5 : ∀ c, c < 4 → ∀ a b d : Bool, maskF (bs a b d) c ≠ 0 → ∀ j, j < c → bs a b d j = true → loM (maskF (bs a b d) c) ≤ j ∧ j ≤ hiM (maskF (bs a b d) c) - 1 := by decide
theorem mask_d6 : ∀ c, c < 4 → ∀ a b d : Bool, ∀ j, j < c → (maskF (bs a b d) c).testBit j = bs a b d j := by decide
theorem oc_zero : oc64 0 = 0 := by decide
theorem bs_eq (f : Nat → Bool) {c : Nat} (hc : c < 4) : ∀ j, j < c → f j = bs (f 0) (f 1) (f 2) j := fun j hj => by
  have : j = 0 ∨ j = 1 ∨ j = 2 := by omega
  rcases this with rfl | rfl | rfl <;> rfl
theorem setF_mask {t : TD} {h : Nat → Int} {p : Nat} (h0 : 0 ≤ t.slo p) : ∀ c : Nat, t.setF h p c = ((maskF (fun j => t.ok1 h p (t.slo p + (j : Nat))) c * 2 ^ (t.slo p).toNat : Nat) : Int)
  | 0 => by simp [TD.setF, maskF]
  | c + 1 => by
    have e : (t.slo p + c).toNat = (t.slo p).toNat + c := by omega
    rw [TD.setF, setF_mask h0 c, e, maskF]
    split
    · rw [Nat.add_mul, ← Nat.pow_add, Nat.add_comm c]
      push_cast
      rfl
    · simp
/-- All that is said of the set of a place. -/
structure SetIs (t : TD) (h : Nat → Int) (p : Nat) : Prop where
  zero : t.set h p = 0 ↔ ∀ v, t.slo p ≤ v → v ≤ t.shi p → t.ok1 h p v = false
  many : oc64 (t.set h p) = (cntI (t.ok1 h p) (t.slo p) (t.shi p - t.slo p + 1).toNat : Int)
  ends : t.set h p ≠ 0 → (t.slo p ≤ loE (t.set h p) ∧ loE (t.set h p) ≤ t.shi p ∧ t.ok1 h p (loE (t.set h p)) = true) ∧ (t.slo p ≤ hiE (t.set h p) ∧ hiE (t.set h p) ≤ t.shi p ∧ t.ok1 h p (hiE (t.set h p)) = true) ∧
    ∀ v, t.slo p ≤ v → v ≤ t.shi p → t.ok1 h p v = true → loE (t.set h p) ≤ v ∧ v ≤ hiE (t.set h p)
  bit : ∀ v, t.slo p ≤ v → v ≤ t.shi p → bitAt (t.set h p) v = if t.ok1 h p v = true then ((2 ^ v.toNat : Nat) : Int) else 0
theorem set_is {t : TD} (hv : t.Valid) (h : Nat → Int) {p : Nat} (hp : p < t.nS) : SetIs t h p := by
  have hs := hv.2.2.2.2.1 p hp
  simp only [TD.sandOk] at hs
  obtain ⟨c, hc⟩ : ∃ c, c = (t.shi p - t.slo p + 1).toNat := ⟨_, rfl⟩
  have hc4 : c < 4 := by omega
  have hcs : (c : Int) = t.shi p - t.slo p + 1 := by omega
  obtain ⟨f, hf⟩ : ∃ f : Nat → Bool, f = fun j => t.ok1 h p (t.slo p + (j : Nat)) := ⟨_, rfl⟩
  have hfv : ∀ v, t.slo p ≤ v → t.ok1 h p v = f (v - t.slo p).toNat := fun v h1 => by
    rw [hf]
    show _ = t.ok1 h p (t.slo p + ((v - t.slo p).toNat : Int))
    rw [show t.slo p + ((v - t.slo p).toNat : Int) = v by omega]
  have e0 := setF_mask (t := t) (h := h) hs.1.1 c
  rw [← hf] at e0
  have eb := bs_eq f hc4
  have d0 := mask_d1 c hc4 (f 0) (f 1) (f 2)
  have d3 := mask_d3 c hc4 (f 0) (f 1) (f 2)
  have d4a := mask_d4 c hc4 (f 0) (f 1) (f 2)
  have d4b := mask_d5 c hc4 (f 0) (f 1) (f 2)
  have d5 := mask_d6 c hc4 (f 0) (f 1) (f 2)
  rw [← maskF_congr eb] at d0 d3 d4a d4b d5
  rw [← cntN_congr eb] at d3
  obtain ⟨d1, d2⟩ := d0
  obtain ⟨lo, hlo⟩ : ∃ lo : Nat, t.slo p = lo := ⟨(t.slo p).toNat, by omega⟩
  have hl61 : lo < 61 := by omega
  have eS : t.set h p = ((maskF f c * 2 ^ lo : Nat) : Int) := by
    rw [TD.set, ← hc, e0, hlo]
    rfl
  have p0 : 0 < 2 ^ lo := Nat.pow_pos (by omega)
  have z : t.set h p = 0 ↔ maskF f c = 0 := by
    rw [eS]
    constructor
    · intro h1
      have h2 : maskF f c * 2 ^ lo = 0 := by omega
      rcases Nat.mul_eq_zero.1 h2 with h3 | h3
      · exact h3
      · omega
    · intro h1
      rw [h1, Nat.zero_mul]
      rfl
  have few : maskF f c ≠ 0 → loE (t.set h p) = lo + loM (maskF f c) ∧ hiE (t.set h p) = lo + hiM (maskF f c) - 1 ∧ oc64 (t.set h p) = (if maskF f c = 1 ∨ maskF f c = 2 ∨ maskF f c = 4 then 1 else if maskF f c = 7 then 3 else 2) := fun h1 => by
    have hfew := few_all lo hl61 (maskF f c) d1 (by omega)
    simp only [fewOk, Bool.and_eq_true, decide_eq_true_eq] at hfew
    obtain ⟨_, a3, a4, a5⟩ := hfew
    rw [← eS] at a3 a4
    refine ⟨?_, ?_, a4⟩
    · rw [loE, a3, loM]
      push_cast
      congr 1
      repeat' split
      all_goals rfl
    · rw [hiE, eS, Int.toNat_natCast, a5, hiM]
      repeat' split
      all_goals (push_cast; omega)
  refine ⟨?_, ?_, ?_, ?_⟩
  · rw [z, d2]
    constructor
    · intro h1 v h2 h3
      rw [hfv v h2, eb (v - t.slo p).toNat (by omega)]
      exact h1 (v - t.slo p).toNat (by omega)
    · intro h1 j hj
      have := h1 (t.slo p + j) (by omega) (by omega)
      rw [hfv _ (by omega), show (t.slo p + (j : Int) - t.slo p).toNat = j by omega] at this
      rw [← eb j hj]
      exact this
  · rw [cntI_N, ← hc, ← hf, ← d3]
    by_cases h1 : maskF f c = 0
    · rw [z.2 h1, if_pos h1, oc_zero]
      rfl
    · rw [(few h1).2.2, if_neg h1]
      repeat' split
      all_goals rfl
  · intro h1
    have h1' : maskF f c ≠ 0 := fun h2 => h1 (z.2 h2)
    obtain ⟨f1, f2, _⟩ := few h1'
    obtain ⟨g1, g2, g3, g4⟩ := d4a h1'
    have g5 := d4b h1'
    have hh : 1 ≤ hiM (maskF f c) := by
      unfold hiM
      repeat' split
      all_goals omega
    rw [f1, f2]
    clear few z eS e0 d3 d4a d4b d5 p0 f1 f2 h1
    refine ⟨⟨by omega, by omega, ?_⟩, ⟨by omega, by omega, ?_⟩, fun v h2 h3 h4 => ?_⟩
    · rw [hfv _ (by omega), show ((lo : Int) + (loM (maskF f c) : Int) - t.slo p).toNat = loM (maskF f c) by omega, eb _ g1]
      exact g3
    · rw [hfv _ (by omega), show ((lo : Int) + (hiM (maskF f c) : Int) - 1 - t.slo p).toNat = hiM (maskF f c) - 1 by omega, eb _ g2]
      exact g4
    · rw [hfv v h2, eb (v - t.slo p).toNat (by omega)] at h4
      have := g5 (v - t.slo p).toNat (by omega) h4
      omega
  · intro v h2 h3
    have hm : maskF f c * 2 ^ lo < 2 ^ 64 := by
      have : 2 ^ lo ≤ 2 ^ 60 := Nat.pow_le_pow_right (by omega) (by omega)
      have := Nat.mul_le_mul (show maskF f c ≤ 7 by omega) this
      omega
    have := bitAt_or (maskF f c * 2 ^ lo) v.toNat hm (by omega)
    rw [show ((v.toNat : Nat) : Int) = v by omega] at this
    rw [eS, this]
    have e1 : (maskF f c * 2 ^ lo).testBit v.toNat = t.ok1 h p v := by
      rw [Nat.testBit_mul_two_pow, hfv v h2, eb (v - t.slo p).toNat (by omega), show (v - t.slo p).toNat = v.toNat - lo by omega, d5 (v.toNat - lo) (by omega)]
      simp
      omega
    rw [e1]
end Go.Proofs.YtipbempkngfdbaaDoor
