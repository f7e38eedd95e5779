/-
  Parts: Tab, C5, Sy27, C1, C2, C3, F3, G1, C11, C12, C13, C14, D2.
-/
import Derived.Test.YtipbempkngfdbaaDoorK15
import Derived.Test.YtipbempkngfdbaaDoorK22
import Derived.Test.YtipbempkngfdbaaDoorK11
import Derived.Test.YtipbempkngfdbaaDoorK17
import Derived.Test.YtipbempkngfdbaaDoorK18
import Derived.Test.YtipbempkngfdbaaDoorK21
import Derived.Test.YtipbempkngfdbaaDoorRows
set_option linter.unusedVariables false
/-
  The tables that the rows of this seat list, as blocks.
-/
namespace Go.Proofs.YtipbempkngfdbaaDoor
open Go Go.Sy
set_option maxRecDepth 100000

theorem gDone : Tryd.prog.globalNamed "dipworks/tide.done" = some 0 := by kernel_rfl
theorem gDb : Tryd.prog.globalNamed "math/bits.deBruijn64tab" = some 1 := by kernel_rfl
theorem gDoneT : (Tryd.prog.globals[0]?).map (·.type) = some 148 := by kernel_rfl
theorem gDbT : (Tryd.prog.globals[1]?).map (·.type) = some 162 := by kernel_rfl
theorem c148 : Tryd.prog.cellsOf 148 = 7 := by kernel_rfl
theorem c162 : Tryd.prog.cellsOf 162 = 64 := by kernel_rfl
theorem c3 : Tryd.prog.cellsOf 3 = 1 := by kernel_rfl
theorem c5 : Tryd.prog.cellsOf 5 = 1 := by kernel_rfl
def tDone : List Int := [0, 1, 3, 6, 9, 11, 12]
def tDb : List Int := [0, 1, 56, 2, 57, 49, 28, 3, 61, 58, 42, 50, 38, 29, 17, 4, 62, 47, 59, 36, 45, 43, 51, 22, 53, 39, 33, 30, 24, 18, 12, 5, 63, 55, 48, 27, 60, 41, 37, 16, 46, 35, 44, 21, 52, 32, 23, 11, 54, 26, 40, 15, 34, 20, 31, 10, 25, 14, 19, 9, 13, 8, 7, 6]
theorem tabDb {W : World} (h : laidMetH Tryd.prog Rows.tideNamesRow.laid W) : Lib.TabIs Tryd.prog W "math/bits.deBruijn64tab" .u8 tDb :=
  Lib.tabIs_of_head (rest := [("dipworks/tide.done", Rows.laid_dipworks_tide_done)]) gDb gDbT Tryd.underlying162 Tryd.underlying5 c5 c162 h
theorem tabDone {W : World} (h : laidMetH Tryd.prog Rows.tideNamesRow.laid W) : Lib.TabIs Tryd.prog W "dipworks/tide.done" .i64 tDone :=
  Lib.tabIs_of_head (rest := []) gDone gDoneT Tryd.underlying148 Tryd.underlying3 c3 c148 (laidMet.tail (x := ("math/bits.deBruijn64tab", Rows.laid_math_bits_deBruijn64tab)) h)

end Go.Proofs.YtipbempkngfdbaaDoor
/-
  A tide that is handed to a statement, as rows that are only read.
-/
namespace Go.Proofs.YtipbempkngfdbaaDoor
open Go Go.Sy Go.ChangeShapes Go.WideShapes Go.ChangeAt Go.RowKit
set_option maxRecDepth 100000

section
variable {H : Type} {enc : TypeId × Value → H} {w : World} {base : Nat} {sp : Nat → Bool} {held : Bool}
theorem it3 : IntT enc Tryd.prog w base sp held 3 1 := IntT.int Tryd.underlying3 c3
theorem it41 : IntT enc Tryd.prog w base sp held 41 2 := IntT.two Tryd.underlying41 it3 it3 rfl rfl (by kernel_rfl)
theorem it54 : IntT enc Tryd.prog w base sp held 54 3 := IntT.two (n := 1) (m := 2) Tryd.underlying54 it3 it41 rfl rfl (by kernel_rfl)
theorem it62 : IntT enc Tryd.prog w base sp held 62 4 := IntT.three (n := 1) (m := 1) (k := 2) Tryd.underlying62 it3 it3 it41 rfl rfl rfl (by kernel_rfl)

theorem den_three {η : Nam} {x y z : SV} {a b c : Value} (hx : den η x = some a) (hy : den η y = some b) (hz : den η z = some c) : den η (.agg [x, y, z]) = some (.agg #[a, b, c]) := by
  simp [den, denL, hx, hy, hz]
/-- A slice of rows, whether it is nil or not. -/
theorem partOpen {t e : TypeId} {sz : Nat} {v : Value} {d : DataW H} {ps : List MemPlace} {r : Reach} {b0 : Nat} (ht : Tryd.prog.underlying t = some (.slice e)) (he : IntT enc Tryd.prog w base sp held e sz)
    (h0 : ∃ cs T fz, w.heap[0]? = some (.cells cs T fz)) (hval : Cell.okWide Tryd.prog w r b0 t v) {fuel : Nat} (h : DataW.trod enc Tryd.prog w base sp held fuel t [v] = some (d, ps)) :
    ∃ (b : Bool) (a : Nat × Nat) (n c : Nat), (∀ (η : Nam) i, η i = some a → den η (.osl b i sz n c) = some v) ∧ ∃ cs T fz, w.heap[a.1]? = some (.cells cs T fz) ∧ ∀ k, k < n → ∀ j, j < sz → cs[a.2 + (k * sz + j)]? = some (.int .i64 (cellI w a (k * sz + j))) := by
  rcases sliceOpen ht he hval h with rfl | ⟨a, n, c, rfl, _, _, cs, T, fz, h1, h2⟩
  · obtain ⟨cs, T, fz, h1⟩ := h0
    exact ⟨false, (0, 0), 0, 0, fun η i _ => by simp [den], cs, T, fz, h1, fun k hk => by omega⟩
  · exact ⟨true, a, n, c, fun η i hi => by simp [den, hi], cs, T, fz, h1, h2⟩

/-- The tide that an argument is. -/
structure TideIn (w : World) (v : Value) (t : TD) (a0 a1 a2 : Nat × Nat) : Prop where
  ok : t.ok
  den : ∀ η : Nam, η 0 = some a0 → η 1 = some a1 → η 2 = some a2 → den η t.A = some v
  m : ∀ (η : Nam) F, (SObj.roa 3 t.nM (row3 t.mi t.mlo t.mhi)).holds η a0 F w
  s : ∀ (η : Nam) F, (SObj.roa 2 t.nS (row2 t.slo t.shi)).holds η a1 F w
  l : ∀ (η : Nam) F, (SObj.roa 4 t.nL (row4 t.lp t.lm t.llo t.lhi)).holds η a2 F w
theorem tideOpen {v : Value} {d : DataW H} {ps : List MemPlace} {r : Reach} {b0 : Nat} (h0 : ∃ cs T fz, w.heap[0]? = some (.cells cs T fz)) (hval : Value.okWide Tryd.prog w r b0 26 v)
    (h : DataW.Trod enc Tryd.prog w base sp held 26 v d ps) : ∃ t a0 a1 a2, TideIn w v t a0 a1 a2 := by
  unfold Value.okWide at hval
  rw [Tryd.underlying26] at hval
  obtain ⟨cs, rfl, hsz, ts, hts, _, hc⟩ := hval
  have e1 : Tryd.prog.cellsOf 26 = 3 := by kernel_rfl
  have e2 : Tryd.prog.cellTypes Tryd.prog.depth 26 = some [22, 23, 24] := by kernel_rfl
  have e3 : Tryd.prog.cellsOf 22 = 1 := by kernel_rfl
  have e4 : Tryd.prog.cellsOf 23 = 1 := by kernel_rfl
  have e5 : Tryd.prog.cellsOf 24 = 1 := by kernel_rfl
  rw [e1] at hsz
  rw [e2] at hts
  cases hts
  obtain ⟨fuel, h⟩ := h
  obtain ⟨v0, v1, v2, rfl⟩ : ∃ v0 v1 v2, cs = #[v0, v1, v2] := by
    obtain ⟨l⟩ := cs
    match l, hsz with
    | [a, b, c], _ => exact ⟨a, b, c, rfl⟩
  obtain ⟨xs, n, rfl, hx, _, hlen, hf⟩ := DataW.trod_struct Tryd.underlying26 h
  have hlen' : xs.length = 3 := hlen
  have f0 : DataW.trod enc Tryd.prog w base sp held n 22 (([v0, v1, v2].drop 0).take (Tryd.prog.cellsOf 22)) = xs[0]? := hf 0 _ rfl
  rw [e3, List.getElem?_eq_getElem (by omega)] at f0
  have f1 : DataW.trod enc Tryd.prog w base sp held n 23 (([v0, v1, v2].drop 1).take (Tryd.prog.cellsOf 23)) = xs[1]? := hf 1 _ rfl
  rw [e4, List.getElem?_eq_getElem (by omega)] at f1
  have f2 : DataW.trod enc Tryd.prog w base sp held n 24 (([v0, v1, v2].drop 2).take (Tryd.prog.cellsOf 24)) = xs[2]? := hf 2 _ rfl
  rw [e5, List.getElem?_eq_getElem (by omega)] at f2
  obtain ⟨u0, hu0, w0⟩ := hc 0 v0 rfl
  obtain ⟨u1, hu1, w1⟩ := hc 1 v1 rfl
  obtain ⟨u2, hu2, w2⟩ := hc 2 v2 rfl
  cases hu0
  cases hu1
  cases hu2
  obtain ⟨bM, a0, nM, cM, d0, cs0, T0, z0, g0, k0⟩ := partOpen Tryd.underlying22 it54 h0 w0 f0
  obtain ⟨bS, a1, nS, cS, d1, cs1, T1, z1, g1, k1⟩ := partOpen Tryd.underlying23 it41 h0 w1 f1
  obtain ⟨bL, a2, nL, cL, d2, cs2, T2, z2, g2, k2⟩ := partOpen Tryd.underlying24 it62 h0 w2 f2
  refine ⟨⟨nM, nS, nL, fun k => cellI w a0 (k * 3), fun k => cellI w a0 (k * 3 + 1), fun k => cellI w a0 (k * 3 + 2), fun k => cellI w a1 (k * 2), fun k => cellI w a1 (k * 2 + 1), fun k => cellI w a2 (k * 4), fun k => cellI w a2 (k * 4 + 1), fun k => cellI w a2 (k * 4 + 2), fun k => cellI w a2 (k * 4 + 3), bM, bS, bL, cM, cS, cL⟩, a0, a1, a2, ?_, ?_, ?_, ?_, ?_⟩
  · constructor <;> intro k <;> exact cellI_ok _ _ _
  · intro η q0 q1 q2
    exact den_three (d0 η 0 q0) (d1 η 1 q1) (d2 η 2 q2)
  · intro η F
    refine ⟨cs0, T0, z0, g0, fun k hk => ⟨_, rfl, rfl, fun j v hj => ?_⟩⟩
    match j, hj with
    | 0, hj => cases hj; exact k0 k hk 0 (by omega)
    | 1, hj => cases hj; exact k0 k hk 1 (by omega)
    | 2, hj => cases hj; exact k0 k hk 2 (by omega)
  · intro η F
    refine ⟨cs1, T1, z1, g1, fun k hk => ⟨_, rfl, rfl, fun j v hj => ?_⟩⟩
    match j, hj with
    | 0, hj => cases hj; exact k1 k hk 0 (by omega)
    | 1, hj => cases hj; exact k1 k hk 1 (by omega)
  · intro η F
    refine ⟨cs2, T2, z2, g2, fun k hk => ⟨_, rfl, rfl, fun j v hj => ?_⟩⟩
    match j, hj with
    | 0, hj => cases hj; exact k2 k hk 0 (by omega)
    | 1, hj => cases hj; exact k2 k hk 1 (by omega)
    | 2, hj => cases hj; exact k2 k hk 2 (by omega)
    | 3, hj => cases hj; exact k2 k hk 3 (by omega)
end

/-- A world that holds the rows of a tide, and both tables. -/
theorem satHG {w : World} {v : Value} {t : TD} {a0 a1 a2 : Nat × Nat} (h : TideIn w v t a0 a1 a2) (hL : laidMetH Tryd.prog Rows.tideNamesRow.laid w) :
    Sat (fun j => [a0, a1, a2, ((0 : Nat), (0 : Nat)), (1, 0)][j]?) (fun _ _ => False) t.HG w (fun _ => False) w := by
  refine satRo _ rfl ?_ ?_
  · intro i x hx
    match i, hx with
    | 0, hx => cases hx; exact ⟨_, rfl, rfl⟩
    | 1, hx => cases hx; exact ⟨_, rfl, rfl⟩
    | 2, hx => cases hx; exact ⟨_, rfl, rfl⟩
    | 3, hx => cases hx; exact ⟨_, rfl, rfl⟩
    | 4, hx => cases hx; exact ⟨_, rfl, rfl⟩
  · intro i o a ho ha
    match i, ho, ha with
    | 0, ho, ha => cases ho; cases ha; exact h.m _ _
    | 1, ho, ha => cases ho; cases ha; exact h.s _ _
    | 2, ho, ha => cases ho; cases ha; exact h.l _ _
    | 3, ho, ha => cases ho; cases ha; exact glob_holds (tabDone hL) gDone
    | 4, ho, ha => cases ho; cases ha; exact glob_holds (tabDb hL) gDb
/-- The first block holds cells. -/
theorem cells0 {w : World} (hL : laidMetH Tryd.prog Rows.tideNamesRow.laid w) : ∃ cs T fz, w.heap[0]? = some (.cells cs T fz) := by
  have h := tabDone hL
  unfold Lib.TabIs World.var? at h
  rw [gDone] at h
  simp only [Option.bind_some] at h
  split at h
  · rename_i e
    exact ⟨_, _, _, e⟩
  · cases h
end Go.Proofs.YtipbempkngfdbaaDoor
/-
  Code that is walked up to some place, and said anew there.
-/
namespace Go.Sy
open Go
set_option maxRecDepth 100000

/-- The next part of a function, walked by itself. -/
theorem CodeP.part {P : Program} {r : Option Nat} {n : Nat} {c : Code} {s t : St} {K : SE → St → Prop} (hc : CodeP P r n c t K) (he : Ent n s t) : CodeP P r n c s (fun se s => fcP [] fun ob => AllP ob ∧ K se s) :=
  CodeP.pre he (hc.mono fun se s h => by rw [fcP_eq]; exact ⟨trivial, h⟩)
end Go.Sy
/-
  The plain law on heights: a height between two marks, as truths have it.
-/
namespace Go.Proofs.YtipbempkngfdbaaDoor
open Go Go.Sy
set_option maxRecDepth 100000

/-! ### The least and the greatest of a list -/
theorem hul_le {a : Tr → Int} {g : List Tr} : ∀ {k : Nat}, ∀ i, i < k → hulLo a g k ≤ a (g.getD i tr0) ∧ a (g.getD i tr0) ≤ hulHi a g k
  | 0, i, h => by omega
  | k + 1, i, h => by
    simp only [hulLo, hulHi, seeLo, seeHi]
    rcases Nat.lt_succ_iff_lt_or_eq.1 h with h | rfl
    · obtain ⟨h1, h2⟩ := hul_le (a := a) (g := g) i h
      have : nz k = true := by cases k <;> first | omega | rfl
      rw [this]
      simp only [if_true]
      constructor <;> split <;> omega
    · constructor <;> split <;> (try split) <;> omega
theorem hul_at {a : Tr → Int} {g : List Tr} : ∀ {k : Nat}, 0 < k → (∃ i, i < k ∧ hulLo a g k = a (g.getD i tr0)) ∧ (∃ i, i < k ∧ hulHi a g k = a (g.getD i tr0))
  | 0, h => by omega
  | k + 1, _ => by
    simp only [hulLo, hulHi, seeLo, seeHi]
    cases k with
    | zero => exact ⟨⟨0, by omega, by simp [nz]⟩, ⟨0, by omega, by simp [nz]⟩⟩
    | succ k =>
      obtain ⟨⟨i, hi, e1⟩, ⟨j, hj, e2⟩⟩ := hul_at (a := a) (g := g) (k := k + 1) (by omega)
      refine ⟨?_, ?_⟩
      · by_cases h : hulLo a g (k + 1) ≤ a (g.getD (k + 1) tr0)
        · exact ⟨i, by omega, by simp only [nz, if_true, if_pos h]; exact e1⟩
        · exact ⟨k + 1, by omega, by simp only [nz, if_true, if_neg h]⟩
      · by_cases h : a (g.getD (k + 1) tr0) ≤ hulHi a g (k + 1)
        · exact ⟨j, by omega, by simp only [nz, if_true, if_pos h]; exact e2⟩
        · exact ⟨k + 1, by omega, by simp only [nz, if_true, if_neg h]⟩
theorem hul_mem {a : Tr → Int} {g : List Tr} {x : Tr} (hx : x ∈ g) : hulLo a g g.length ≤ a x ∧ a x ≤ hulHi a g g.length := by
  obtain ⟨i, hi, rfl⟩ := List.getElem_of_mem hx
  have := hul_le (a := a) (g := g) (k := g.length) i hi
  rwa [List.getD_eq_getElem?_getD, List.getElem?_eq_getElem hi] at this
theorem hul_ex {a : Tr → Int} {g : List Tr} (hg : g ≠ []) : (∃ x ∈ g, hulLo a g g.length = a x) ∧ (∃ x ∈ g, hulHi a g g.length = a x) := by
  obtain ⟨⟨i, hi, e1⟩, ⟨j, hj, e2⟩⟩ := hul_at (a := a) (g := g) (k := g.length) (List.length_pos_iff.2 hg)
  exact ⟨⟨_, getD_mem hi, e1⟩, ⟨_, getD_mem hj, e2⟩⟩

/-! ### Heights of a truth -/
/-! ### How far the water has moved -/
def moved (lg d : Int) : Int := tw (6 * d / lg) * lg + (tw (6 * d / lg + 1) - tw (6 * d / lg)) * (6 * d % lg)
theorem tw_mono {a b : Int} (h : a ≤ b) : tw a ≤ tw b := by
  unfold tw
  repeat' split
  all_goals omega
theorem moved_mono {lg d d' : Int} (hl : 0 < lg) (h : d ≤ d') : moved lg d ≤ moved lg d' := by
  unfold moved
  have e1 := Int.mul_ediv_add_emod (6 * d) lg
  have e2 := Int.mul_ediv_add_emod (6 * d') lg
  have r1 := Int.emod_nonneg (6 * d) (b := lg) (by omega)
  have r2 := Int.emod_nonneg (6 * d') (b := lg) (by omega)
  have r3 := Int.emod_lt_of_pos (6 * d) hl
  have hq : 6 * d / lg ≤ 6 * d' / lg := Int.ediv_le_ediv hl (by omega)
  generalize 6 * d / lg = q at *
  generalize 6 * d' / lg = q' at *
  generalize 6 * d % lg = r at *
  generalize 6 * d' % lg = r' at *
  have s1 := tw_step q
  have s2 := tw_step q'
  rcases Int.lt_or_eq_of_le hq with hlt | rfl
  · have m1 : tw (q + 1) ≤ tw q' := tw_mono (by omega)
    have a1 : (tw (q + 1) - tw q) * r ≤ (tw (q + 1) - tw q) * lg := Int.mul_le_mul_of_nonneg_left (by omega) (by omega)
    have a2 : tw (q + 1) * lg ≤ tw q' * lg := Int.mul_le_mul_of_nonneg_right m1 (by omega)
    have a3 : 0 ≤ (tw (q' + 1) - tw q') * r' := Int.mul_nonneg (by omega) r2
    have a4 : (tw (q + 1) - tw q) * lg = tw (q + 1) * lg - tw q * lg := Int.sub_mul ..
    omega
  · have : r ≤ r' := by omega
    have a1 : (tw (q + 1) - tw q) * r ≤ (tw (q + 1) - tw q) * r' := Int.mul_le_mul_of_nonneg_left this (by omega)
    omega
theorem moved_zero (lg : Int) : moved lg 0 = 0 := by simp [moved, tw]
theorem moved_all {lg : Int} (hl : 0 < lg) : moved lg lg = 12 * lg := by
  unfold moved
  rw [Int.mul_ediv_cancel 6 (by omega), Int.mul_emod_left]
  simp [tw]
/-- Between heights a and b. -/
def mid (a b lg f : Int) : Int := (a * (12 * lg - f) + b * f) / (12 * lg)
theorem mid_zero {a b lg : Int} (hl : 0 < lg) : mid a b lg 0 = a := by
  unfold mid
  rw [Int.sub_zero, Int.mul_zero, Int.add_zero, Int.mul_ediv_cancel a (by omega)]
theorem mid_all {a b lg : Int} (hl : 0 < lg) : mid a b lg (12 * lg) = b := by
  unfold mid
  rw [Int.sub_self, Int.mul_zero, Int.zero_add, Int.mul_ediv_cancel b (by omega)]
end Go.Proofs.YtipbempkngfdbaaDoor
/-
  The plain law of TideMoves.
-/
namespace Go.Proofs.YtipbempkngfdbaaDoor
open Go Go.Sy
set_option maxRecDepth 100000

theorem mi_le {t : TD} (hv : t.Valid) : ∀ {j i : Nat}, i ≤ j → j < t.nM → t.mi i ≤ t.mi j
  | 0, i, h, _ => by
    have : i = 0 := by omega
    subst this
    exact Int.le_refl _
  | j + 1, i, h, hj => by
    rcases Nat.eq_or_lt_of_le h with rfl | h'
    · exact Int.le_refl _
    · have h1 := mi_le hv (j := j) (i := i) (by omega) (by omega)
      have h2 := hv.step (i := j + 1) (by omega) hj
      have e : j + 1 - 1 = j := by omega
      rw [e] at h2
      omega

theorem stand_nx {t : TD} (hv : t.Valid) {m : Int} (hm : t.isMin m) (h : Nat → Int) :
    t.stand h m = mid (h (t.nx m - 1)) (h (t.nx m)) (t.mi (t.nx m) - t.mi (t.nx m - 1)) (moved (t.mi (t.nx m) - t.mi (t.nx m - 1)) (m - t.mi (t.nx m - 1))) := by
  obtain ⟨g1, g2, g3, g4⟩ := TD.stand_spec hv hm
  simp only [TD.stand, mid, moved]
  have r1 := Int.emod_nonneg (6 * (m - t.mi (t.nx m - 1))) (b := t.mi (t.nx m) - t.mi (t.nx m - 1)) (by omega)
  split
  · rfl
  · rename_i hr
    have e : 6 * (m - t.mi (t.nx m - 1)) % (t.mi (t.nx m) - t.mi (t.nx m - 1)) = 0 := by omega
    rw [e, Int.mul_zero]

theorem stand_at {t : TD} (hv : t.Valid) {i : Nat} (h1 : 1 ≤ i) (hi : i < t.nM) {m : Int} (ha : t.mi (i - 1) ≤ m) (hb : m ≤ t.mi i) (h : Nat → Int) :
    t.stand h m = mid (h (i - 1)) (h i) (t.mi i - t.mi (i - 1)) (moved (t.mi i - t.mi (i - 1)) (m - t.mi (i - 1))) := by
  have hm : t.isMin m := ⟨Int.le_trans (mi_le hv (Nat.zero_le _) (by omega)) ha, Int.le_trans hb (mi_le hv (by omega) (by have := hv.1.1; omega))⟩
  rw [stand_nx hv hm]
  obtain ⟨k1, k2, k3, k4, k5⟩ := t.nx_spec hv hm
  obtain ⟨g1, g2, g3, g4⟩ := TD.stand_spec hv hm
  have st := hv.step (i := i) (by omega) hi
  rcases Nat.lt_trichotomy (t.nx m) i with hk | hk | hk
  · have h2 := mi_le hv (i := t.nx m) (j := i - 1) (by omega) (by omega)
    have h3 : t.nx m = i - 1 := by
      rcases Nat.eq_or_lt_of_le (show t.nx m ≤ i - 1 by omega) with h | h
      · exact h
      · have h4 := mi_le hv (i := t.nx m) (j := i - 1 - 1) (by omega) (by omega)
        have h5 := hv.step (i := i - 1) (by omega) (by omega)
        omega
    have e1 : m - t.mi (i - 1) = 0 := by omega
    have e2 : m - t.mi (t.nx m - 1) = t.mi (t.nx m) - t.mi (t.nx m - 1) := by omega
    rw [e1, e2, moved_zero, moved_all (by omega), mid_zero (by omega), mid_all (by omega), h3]
  · rw [hk]
  · have := k5 i h1 hk
    omega

/-- What is told of the height at a minute, where there are truths. -/
structure Hull (t : TD) (m lo hi : Int) : Prop where
  v : t.height m = ⟨(lo, hi), 0⟩
  bnd : ∀ x ∈ t.all, lo ≤ t.stand x.h m ∧ t.stand x.h m ≤ hi
  lo : ∃ x ∈ t.all, t.stand x.h m = lo
  hi : ∃ x ∈ t.all, t.stand x.h m = hi
theorem hull {t : TD} (hv : t.Valid) (hn : t.all ≠ []) {m : Int} (hm : t.isMin m) : ∃ lo hi, Hull t m lo hi := by
  refine ⟨_, _, ⟨by unfold TD.height; rw [if_neg (fun h => h hv), if_neg (fun h => h hm), if_neg hn], fun x hx => hul_mem hx, ?_, ?_⟩⟩
  · obtain ⟨⟨x, hx, e⟩, _⟩ := hul_ex (a := fun x => t.stand x.h m) hn
    exact ⟨x, hx, e.symm⟩
  · obtain ⟨_, x, hx, e⟩ := hul_ex (a := fun x => t.stand x.h m) hn
    exact ⟨x, hx, e.symm⟩

end Go.Proofs.YtipbempkngfdbaaDoor
/-
  Contract: dipworkslaw01.TideMoves.
-/
namespace Go.Proofs.YtipbempkngfdbaaDoor
open Go Go.Sy
set_option linter.unusedSimpArgs false
set_option maxRecDepth 100000
set_option maxHeartbeats 4000000
attribute [local irreducible] CallP CodeP Ent YieldP

theorem un {p : Prop} (h : p) : under none p := h
theorem Hull.le {t : TD} {m lo hi : Int} (h : Hull t m lo hi) : lo ≤ hi := by
  obtain ⟨u, hu, _⟩ := h.lo
  have := h.bnd u hu
  omega
theorem d1 (x : Bool) : under none (x = false → (some (gB none (wB false x))).getD true = true) := fun h => by rw [h]; rfl
theorem d1t (x : Bool) : under none (x = true → (some (gB none (wB true x))).getD true = true) := fun h => by rw [h]; rfl
theorem d3 (g x : Bool) : under (some g) (x = true → (some (gB (some g) (wB true x))).getD true = true) := fun hg h => by rw [hg, h]; rfl
theorem d3f (g x : Bool) : under (some g) (x = false → (some (gB (some g) (wB false x))).getD true = true) := fun hg h => by rw [hg, h]; rfl
theorem d4 {g : Bool} {p : Prop} (h : p) : under (some g) p := fun _ => h
theorem d2 (g : Bool) : under (some g) (g = true) := fun h => h
end Go.Proofs.YtipbempkngfdbaaDoor
/-
  Contract: stands: how high the water stands, sixth by sixth.
-/
namespace Go.Proofs.YtipbempkngfdbaaDoor
open Go Go.Sy
set_option linter.unusedSimpArgs false
set_option maxRecDepth 100000
set_option maxHeartbeats 4000000
attribute [local irreducible] CallP CodeP Ent YieldP

/-- A tide's rows, and heights of its marks. -/
def HS (t : TD) (h : Nat → Int) (n : Nat) : SHeap := t.H ++ [some (.roa 1 n fun k => [.int .i64 (h k)])]
end Go.Proofs.YtipbempkngfdbaaDoor
/-
  Contracts of the specification: Deep, wider, Has, Stands.
-/
namespace Go.Proofs.YtipbempkngfdbaaDoor
open Go Go.Sy
set_option linter.unusedSimpArgs false
set_option maxRecDepth 100000
set_option maxHeartbeats 4000000
attribute [local irreducible] CallP CodeP Ent YieldP

theorem t53 (n : Int) : CallP Tryd.prog 53 [.int .i64 n] [] (Ret (.bool (inB n 0 60)) []) := by
  refine callR (E := E) E_ok Tryd.func53 rfl ?_
  refine And.intro ?_ ?_
  · (repeat' (first | exact trivial | exact fun _ => rfl | exact rfl | refine And.intro ?_ ?_))
  refine (t91 n 0 60).use [] ?_ (by (repeat' (first | exact trivial | exact rfl | exact fun _ _ => rfl | exact Or.inl rfl | refine And.intro ?_ ?_))) rfl
  refine And.intro ?_ ?_
  · (repeat' (first | exact trivial | exact fun _ => rfl | exact rfl | refine And.intro ?_ ?_))
  exact ent_tau [] ⟨by (repeat' (first | exact trivial | exact rfl | exact fun _ _ => rfl | exact Or.inl rfl | refine And.intro ?_ ?_)), by (repeat' (first | exact trivial | exact rfl | exact congrArg (SV.int .i64) (Int.natCast_succ _).symm | refine And.intro ?_ ?_)), rfl⟩
theorem t99 (a b n : Int) : CallP Tryd.prog 99 [.agg [.int .i64 a, .int .i64 b], .int .i64 n] [] (Ret (.agg [.int .i64 (if n < a then n else a), .int .i64 (if n > b then n else b)]) []) := by
  refine callR (E := E) E_ok Tryd.func99 rfl ?_
  refine And.intro ?_ ?_
  · (repeat' (first | exact trivial | exact fun _ => rfl | exact rfl | refine And.intro ?_ ?_))
  exact ent_tau [] ⟨by (repeat' (first | exact trivial | exact rfl | exact fun _ _ => rfl | exact Or.inl rfl | refine And.intro ?_ ?_)), by (repeat' (first | exact trivial | exact rfl | exact congrArg (SV.int .i64) (Int.natCast_succ _).symm | refine And.intro ?_ ?_)), rfl⟩
theorem pow_pos (n : Nat) : (0 : Int) < 2 ^ n := by
  have : 0 < 2 ^ n := Nat.pow_pos (by omega)
  exact_mod_cast this
theorem t121 (x : Int) (hx : 0 ≤ x ∧ x ≤ 1000) (n : Nat) (hn : n ≤ 60) : CallP Tryd.prog 121 [.int .i64 x, .int .i64 n] [] (Ret (.bool (decide ((x.tdiv (2 ^ n)).tmod 2 = 1))) []) := by
  have hp := pow_pos n
  have hd : 0 ≤ x.tdiv (2 ^ n) ∧ x.tdiv (2 ^ n) ≤ 1000 := by
    rw [Int.tdiv_eq_ediv_of_nonneg hx.1]
    exact ⟨Int.ediv_nonneg hx.1 (by omega), Int.le_trans (Int.ediv_le_self _ hx.1) hx.2⟩
  refine callR (E := E) E_ok Tryd.func121 rfl ?_
  refine And.intro ?_ ?_
  · (repeat' (first | exact trivial | exact fun _ => rfl | exact rfl | refine And.intro ?_ ?_))
  refine (t109 n (by omega)).use [] ?_ (by (repeat' (first | exact trivial | exact rfl | exact fun _ _ => rfl | exact Or.inl rfl | refine And.intro ?_ ?_))) rfl
  refine And.intro ?_ ?_
  · (repeat' (first | exact trivial | exact fun _ => rfl | exact rfl | refine And.intro ?_ ?_))
    all_goals exact un (by omega)
  exact ent_tau [] ⟨by (repeat' (first | exact trivial | exact rfl | exact fun _ _ => rfl | exact Or.inl rfl | refine And.intro ?_ ?_)), by (repeat' (first | exact trivial | exact rfl | exact congrArg (SV.int .i64) (Int.natCast_succ _).symm | refine And.intro ?_ ?_)), rfl⟩
theorem moreL_tw : ∀ q : Nat, q < 6 → ([1, 2, 3, 3, 2, 1] : List Int).getD q 0 = tw ((q : Int) + 1) - tw q := by decide
theorem doneL_tw : ∀ q : Nat, q < 6 → ([0, 1, 3, 6, 9, 11] : List Int).getD q 0 = tw q := by decide
theorem doneL_le : ∀ q : Nat, q < 6 → 0 ≤ ([0, 1, 3, 6, 9, 11] : List Int).getD q 0 ∧ ([0, 1, 3, 6, 9, 11] : List Int).getD q 0 ≤ 12 := by decide
theorem moreL_le : ∀ q : Nat, q < 6 → 0 ≤ ([1, 2, 3, 3, 2, 1] : List Int).getD q 0 ∧ ([1, 2, 3, 3, 2, 1] : List Int).getD q 0 ≤ 3 := by decide
theorem t119 (t : TD) (hv : t.Valid) (h : Nat → Int) (hh : okH h) (n c : Nat) (hn : t.nM ≤ n) (hn2 : n ≤ 1000) (m : Int) (hm : t.isMin m) :
    CallP Tryd.prog 119 [t.A, .osl true 3 1 n c, .int .i64 m] (HS t h n) (Ret (.int .i64 (t.stand h m)) (HS t h n)) := by
  have hM := hv.1
  refine callR (E := E) E_ok Tryd.func119 rfl ?_
  refine And.intro ?_ ?_
  · (repeat' (first | exact trivial | exact fun _ => rfl | exact rfl | refine And.intro ?_ ?_))
  refine loopP E_ok [0, 1, 2, 3, 6, 7, 8] (fun i : Nat => [(9, .int .i64 i)]) (fun _ h => h) (fun i => 1 ≤ i ∧ i < t.nM ∧ ∀ j, 1 ≤ j → j < i → t.mi j < m) (fun i => t.nM - i) 1 ⟨Nat.le_refl _, by omega, fun j h1 h2 => by omega⟩ ?_ ?_
  · exact ent_tau [0, 1, 2, 3, 4, 5, 6] ⟨by (repeat' (first | exact trivial | exact rfl | exact fun _ _ => rfl | exact Or.inl rfl | refine And.intro ?_ ?_)), by (repeat' (first | exact trivial | exact rfl | exact congrArg (SV.int .i64) (Int.natCast_succ _).symm | refine And.intro ?_ ?_)), rfl⟩
  rintro i ⟨h1, hi, hall⟩
  refine And.intro ?_ (And.intro (fun hc => ?_) (fun hc => ?_))
  · (repeat' (first | exact trivial | exact fun _ => rfl | exact rfl | refine And.intro ?_ ?_))
  · have e1 : 0 + ((i : Int) - 1).toNat = i - 1 := by omega
    have e2 : 0 + (i : Int).toNat = i := by omega
    refine And.intro ?_ ?_
    · (repeat' (first | exact trivial | exact fun _ => rfl | exact rfl | refine And.intro ?_ ?_))
    refine drawP E_ok [4] pl119_6 (by kernel_rfl) ?_
    refine And.intro ?_ ?_
    · (repeat' (first | exact True.intro | exact d1 _ | exact d1t _ | exact d2 _ | exact d3 _ _ | exact d3f _ _ | exact fun _ _ => rfl | exact fun _ => rfl | exact rfl | refine And.intro ?_ ?_))
      all_goals first | omega | exact un (by omega)
    refine And.intro rfl ?_
    rw [e1, e2]
    have ha : t.mi (i - 1) ≤ m := by
      rcases Nat.eq_or_lt_of_le h1 with rfl | h
      · exact hm.1
      · exact Int.le_of_lt (hall (i - 1) (by omega) (by omega))
    have hst := hv.step (i := i) (by omega) hi
    have hmk := (hv.marks hi).1
    have hmk' := (hv.marks (i := i - 1) (by omega)).1
    have hm0 := hh i
    have hm1 := hh (i - 1)
    generalize hfr : t.mi (i - 1) = fr at *
    generalize hto : t.mi i = to at *
    refine And.intro ?_ (And.intro (fun hd => ?_) (fun hd => ?_))
    · (repeat' (first | exact trivial | exact fun _ => rfl | exact rfl | refine And.intro ?_ ?_))
    · have hb : m = to := of_decide_eq_true hd
      have hS := stand_at hv h1 hi (by omega) (show m ≤ t.mi i by omega) h
      have e : t.stand h m = h i := by
        rw [hS, hfr, hto, hb, moved_all (by omega)]
        exact mid_all (by omega)
      refine And.intro ?_ ?_
      · (repeat' (first | exact trivial | exact fun _ => rfl | exact rfl | refine And.intro ?_ ?_))
        all_goals first | omega | exact un (by omega)
      rw [e2, ← e]
      (repeat' (first | exact trivial | exact fun _ => rfl | exact rfl | refine And.intro ?_ ?_))
      exact ent_tau [0, 1, 2, 3] ⟨by (repeat' (first | exact trivial | exact rfl | exact fun _ _ => rfl | exact Or.inl rfl | refine And.intro ?_ ?_)), by (repeat' (first | exact trivial | exact rfl | exact congrArg (SV.int .i64) (Int.natCast_succ _).symm | refine And.intro ?_ ?_)), rfl⟩
    · have hb : m ≠ to := of_decide_eq_false hd
      refine And.intro ?_ (And.intro (fun he => ?_) (fun he => ?_))
      · (repeat' (first | exact True.intro | exact d1 _ | exact d1t _ | exact d2 _ | exact d3 _ _ | exact d3f _ _ | exact fun _ _ => rfl | exact fun _ => rfl | exact rfl | refine And.intro ?_ ?_))
        all_goals first | exact un (fun h => by rw [h]; rfl)
      · have hlt : m < to := by
          simp only [decide_eq_true (show fr ≤ m by omega), cond_true, decide_eq_true_eq] at he
          exact he
        have hS := stand_at hv h1 hi (by omega) (show m ≤ t.mi i by omega) h
        refine And.intro ?_ ?_
        · (repeat' (first | exact trivial | exact fun _ => rfl | exact rfl | refine And.intro ?_ ?_))
          all_goals first | omega | exact un (by omega)
        obtain ⟨lg, elg⟩ : ∃ x, to - fr = x := ⟨_, rfl⟩
        obtain ⟨x, ex⟩ : ∃ x, 6 * (m - fr) = x := ⟨_, rfl⟩
        have q0 : 0 ≤ x / lg := Int.ediv_nonneg (by omega) (by omega)
        have q6 : x / lg < 6 := Int.ediv_lt_of_lt_mul (by omega) (by omega)
        have r0 := Int.emod_nonneg x (b := lg) (by omega)
        have r1 := Int.emod_lt_of_pos x (b := lg) (by omega)
        have et : x.tdiv lg = x / lg := Int.tdiv_eq_ediv_of_nonneg (by omega)
        have em : x.tmod lg = x % lg := Int.tmod_eq_emod_of_nonneg (by omega)
        have eM : moved lg (m - fr) = tw (x / lg) * lg + (tw (x / lg + 1) - tw (x / lg)) * (x % lg) := by rw [moved, ex]
        obtain ⟨q, eq⟩ : ∃ q : Nat, x / lg = q := ⟨(x / lg).toNat, by omega⟩
        rw [eq] at et eM
        have hq : q < 6 := by omega
        obtain ⟨r, er⟩ : ∃ r, x % lg = r := ⟨_, rfl⟩
        rw [er] at em eM r0 r1
        rw [← moreL_tw q hq, ← doneL_tw q hq] at eM
        have hd3 : 0 ≤ ([0, 1, 3, 6, 9, 11] : List Int).getD q 0 ∧ ([0, 1, 3, 6, 9, 11] : List Int).getD q 0 ≤ 12 := doneL_le q hq
        have hm3 : 0 ≤ ([1, 2, 3, 3, 2, 1] : List Int).getD q 0 ∧ ([1, 2, 3, 3, 2, 1] : List Int).getD q 0 ≤ 3 := moreL_le q hq
        have e5 : 0 + ((q : Nat) : Int).toNat = q := by omega
        rw [ex]
        refine drawP E_ok [] pl119_11 (by kernel_rfl) ?_
        refine And.intro ?_ ?_
        · rw [elg, et]
          (repeat' (first | exact True.intro | exact d1 _ | exact d1t _ | exact d2 _ | exact d3 _ _ | exact d3f _ _ | exact fun _ _ => rfl | exact fun _ => rfl | exact rfl | refine And.intro ?_ ?_))
          all_goals first | omega | exact un (by omega)
        refine And.intro rfl ?_
        rw [elg, et, em]
        refine And.intro trivial ?_
        have n1 := Int.mul_nonneg hd3.1 (show 0 ≤ lg by omega)
        have n2 : ([0, 1, 3, 6, 9, 11] : List Int).getD q 0 * lg ≤ 12 * lg := Int.mul_le_mul_of_nonneg_right hd3.2 (by omega)
        have n3 := Int.mul_nonneg hm3.1 r0
        have n4 : ([1, 2, 3, 3, 2, 1] : List Int).getD q 0 * r ≤ 3 * r := Int.mul_le_mul_of_nonneg_right hm3.2 r0
        refine drawP E_ok [5, 6] pl119_12 (by kernel_rfl) ?_
        refine And.intro ?_ ?_
        · rw [elg, e5]
          (repeat' (first | exact True.intro | exact d1 _ | exact d1t _ | exact d2 _ | exact d3 _ _ | exact d3f _ _ | exact fun _ _ => rfl | exact fun _ => rfl | exact rfl | refine And.intro ?_ ?_))
          all_goals first | omega | exact un (by omega) | exact un ((inR_iff _).2 ⟨by omega, by omega⟩)
        refine And.intro rfl ?_
        rw [elg, e5]
        rw [← eM]
        refine And.intro trivial ?_
        have hmv : 0 ≤ moved lg (m - fr) ∧ moved lg (m - fr) ≤ 12 * lg := by
          have a1 := moved_mono (lg := lg) (d := 0) (d' := m - fr) (by omega) (by omega)
          have a2 := moved_mono (lg := lg) (d := m - fr) (d' := lg) (by omega) (by omega)
          rw [moved_zero] at a1
          rw [moved_all (by omega)] at a2
          exact ⟨a1, a2⟩
        have st := stand_range hv hm hh
        have w1 := Int.mul_nonneg hm0.1 hmv.1
        have w2 : h i * moved lg (m - fr) ≤ 60 * moved lg (m - fr) := Int.mul_le_mul_of_nonneg_right hm0.2 hmv.1
        have w0 : 0 ≤ 12 * lg - moved lg (m - fr) := by omega
        have w3 := Int.mul_nonneg hm1.1 w0
        have w4 : h (i - 1) * (12 * lg - moved lg (m - fr)) ≤ 60 * (12 * lg - moved lg (m - fr)) := Int.mul_le_mul_of_nonneg_right hm1.2 w0
        have ed : (h (i - 1) * (12 * lg - moved lg (m - fr)) + h i * moved lg (m - fr)).tdiv (12 * lg) = t.stand h m := by
          rw [Int.tdiv_eq_ediv_of_nonneg (by omega), hS, hto, hfr, elg]
          rfl
        refine drawP E_ok [] pl119_13 (by kernel_rfl) ?_
        refine And.intro ?_ ?_
        · rw [e1, e2, elg, ed]
          (repeat' (first | exact True.intro | exact d1 _ | exact d1t _ | exact d2 _ | exact d3 _ _ | exact d3f _ _ | exact fun _ _ => rfl | exact fun _ => rfl | exact rfl | refine And.intro ?_ ?_))
          all_goals first | omega | exact un (by omega) | exact un ((inR_iff _).2 ⟨by omega, by omega⟩)
        refine And.intro rfl ?_
        rw [e1, e2, elg, ed]
        (repeat' (first | exact trivial | exact fun _ => rfl | exact rfl | refine And.intro ?_ ?_))
        exact ent_tau [0, 1, 2, 3] ⟨by (repeat' (first | exact trivial | exact rfl | exact fun _ _ => rfl | exact Or.inl rfl | refine And.intro ?_ ?_)), by (repeat' (first | exact trivial | exact rfl | exact congrArg (SV.int .i64) (Int.natCast_succ _).symm | refine And.intro ?_ ?_)), rfl⟩
      · have hgt : to < m := by
          have : ¬ m < to := fun hlt => by
            simp [decide_eq_true (show fr ≤ m by omega), decide_eq_true hlt] at he
          omega
        refine And.intro ?_ ?_
        · (repeat' (first | exact trivial | exact fun _ => rfl | exact rfl | refine And.intro ?_ ?_))
          all_goals omega
        refine ⟨i + 1, ⟨by omega, ?_, fun j j1 j2 => ?_⟩, by omega, ?_⟩
        · refine Nat.lt_of_not_le fun h => ?_
          have : i = t.nM - 1 := by omega
          subst this
          have := hm.2
          omega
        · rcases Nat.lt_succ_iff_lt_or_eq.1 j2 with h | rfl
          · exact hall j j1 h
          · omega
        · exact ent_tau [0, 1, 2, 3, 4, 5, 6] ⟨by (repeat' (first | exact trivial | exact rfl | exact fun _ _ => rfl | exact Or.inl rfl | refine And.intro ?_ ?_)), by (repeat' (first | exact trivial | exact rfl | exact congrArg (SV.int .i64) (Int.natCast_succ _).symm | refine And.intro ?_ ?_)), rfl⟩
  · have := of_decide_eq_false hc
    omega
end Go.Proofs.YtipbempkngfdbaaDoor
/-
  Truths one by one: heights of marks and of sand, and which of them fit the looks.
-/
namespace Go.Proofs.YtipbempkngfdbaaDoor
open Go Go.Sy
set_option maxRecDepth 100000
set_option maxHeartbeats 4000000

/-! ### Lists -/
def catG {α : Type} (f : Int → List α) (lo : Int) : Nat → List α
  | 0 => []
  | c + 1 => catG f lo c ++ f (lo + c)
theorem catG_mem {α : Type} {f : Int → List α} {lo : Int} {x : α} : ∀ {c : Nat}, x ∈ catG f lo c ↔ ∃ v, lo ≤ v ∧ v < lo + c ∧ x ∈ f v
  | 0 => by
    simp only [catG, List.not_mem_nil, false_iff]
    rintro ⟨v, h1, h2, _⟩
    omega
  | c + 1 => by
    simp only [catG, List.mem_append, catG_mem (c := c)]
    constructor
    · rintro (⟨v, h1, h2, h3⟩ | h)
      · exact ⟨v, h1, by omega, h3⟩
      · exact ⟨lo + c, by omega, by omega, h⟩
    · rintro ⟨v, h1, h2, h3⟩
      by_cases h : v = lo + c
      · subst h; exact .inr h3
      · exact .inl ⟨v, h1, by omega, h3⟩
theorem catF_eq (f : Int → List Tr) (lo : Int) : ∀ c, catF f lo c = catG f lo c
  | 0 => rfl
  | c + 1 => by rw [catF, catG, catF_eq f lo c]
theorem catG_bind {α β : Type} (f : Int → List α) (g : α → List β) (lo : Int) : ∀ c, (catG f lo c).flatMap g = catG (fun v => (f v).flatMap g) lo c
  | 0 => rfl
  | c + 1 => by rw [catG, catG, List.flatMap_append, catG_bind f g lo c]
theorem catG_congr {α : Type} {f g : Int → List α} {lo : Int} : ∀ {c : Nat}, (∀ v, lo ≤ v → v < lo + c → f v = g v) → catG f lo c = catG g lo c
  | 0, _ => rfl
  | c + 1, h => by rw [catG, catG, catG_congr (c := c) fun v h1 h2 => h v h1 (by omega), h _ (by omega) (by omega)]
theorem catG_filter {α : Type} (f : Int → List α) (q : α → Bool) (lo : Int) : ∀ c, (catG f lo c).filter q = catG (fun v => (f v).filter q) lo c
  | 0 => rfl
  | c + 1 => by rw [catG, catG, List.filter_append, catG_filter f q lo c]
/-- All functions with numbers of spans, from place n - r on. -/
def lsts (lo hi : Nat → Int) (n : Nat) : Nat → (Nat → Int) → List (Nat → Int)
  | 0, h => [h]
  | r + 1, h => catG (fun v => lsts lo hi n r (upd h (n - (r + 1)) v)) (lo (n - (r + 1))) (hi (n - (r + 1)) - lo (n - (r + 1)) + 1).toNat
theorem lsts_mem {lo hi : Nat → Int} {n : Nat} : ∀ {r : Nat} {h x : Nat → Int}, r ≤ n → (x ∈ lsts lo hi n r h ↔ (∀ i, n - r ≤ i → i < n → lo i ≤ x i ∧ x i ≤ hi i) ∧ ∀ i, (i < n - r ∨ n ≤ i) → x i = h i)
  | 0, h, x, _ => by
    simp only [lsts, List.mem_singleton]
    constructor
    · rintro rfl
      exact ⟨fun i h1 h2 => by omega, fun i _ => rfl⟩
    · rintro ⟨_, h2⟩
      exact funext fun i => h2 i (by omega)
  | r + 1, h, x, hr => by
    simp only [lsts, catG_mem]
    constructor
    · rintro ⟨v, h1, h2, h3⟩
      obtain ⟨a, b⟩ := (lsts_mem (by omega)).1 h3
      have e := b (n - (r + 1)) (by omega)
      simp only [upd, if_true] at e
      refine ⟨fun i hi hi' => ?_, fun i hi => ?_⟩
      · by_cases hj : i = n - (r + 1)
        · subst hj; omega
        · exact a i (by omega) hi'
      · rw [b i (by omega)]
        simp only [upd]
        rw [if_neg (by omega)]
    · rintro ⟨a, b⟩
      have := a (n - (r + 1)) (Nat.le_refl _) (by omega)
      refine ⟨x (n - (r + 1)), this.1, by omega, (lsts_mem (by omega)).2 ⟨fun i hi hi' => a i (by omega) hi', fun i hi => ?_⟩⟩
      simp only [upd]
      split
      · rename_i e
        rw [e]
      · exact b i (by omega)
/-! ### Products -/
/-- How many numbers of the first c from lo on are so. -/
def cntI (q : Int → Bool) (lo : Int) : Nat → Nat
  | 0 => 0
  | c + 1 => cntI q lo c + if q (lo + c) = true then 1 else 0
def prodF (f : Nat → Nat) (a : Nat) : Nat → Nat
  | 0 => 1
  | r + 1 => f a * prodF f (a + 1) r
/-- From a on, r of them. -/
def allF (f : Nat → Bool) (a : Nat) : Nat → Bool
  | 0 => true
  | r + 1 => f a && allF f (a + 1) r
theorem allF_iff {f : Nat → Bool} : ∀ {r a : Nat}, allF f a r = true ↔ ∀ i, a ≤ i → i < a + r → f i = true
  | 0, a => by
    simp only [allF, true_iff]
    intro i h1 h2
    omega
  | r + 1, a => by
    simp only [allF, Bool.and_eq_true, allF_iff (r := r)]
    constructor
    · rintro ⟨h1, h2⟩ i hi hi'
      rcases Nat.eq_or_lt_of_le hi with rfl | h
      · exact h1
      · exact h2 i (by omega) (by omega)
    · exact fun h => ⟨h a (by omega) (by omega), fun i h1 h2 => h i (by omega) (by omega)⟩
theorem catG_count {α : Type} {f : Int → List α} {q : Int → Bool} {lo : Int} {N : Nat} : ∀ {c : Nat}, (∀ v, lo ≤ v → v < lo + c → (f v).length = if q v = true then N else 0) → (catG f lo c).length = cntI q lo c * N
  | 0, _ => by simp [catG, cntI]
  | c + 1, h => by
    rw [catG, List.length_append, catG_count (c := c) fun v h1 h2 => h v h1 (by omega), h _ (by omega) (by omega), cntI, Nat.add_mul]
    congr 1
    split <;> simp
theorem lsts_count {lo hi : Nat → Int} {n : Nat} (q : Nat → Int → Bool) : ∀ {r : Nat} {h : Nat → Int}, r ≤ n →
    ((lsts lo hi n r h).filter fun x => allF (fun i => q i (x i)) (n - r) r).length = prodF (fun i => cntI (q i) (lo i) (hi i - lo i + 1).toNat) (n - r) r
  | 0, h, _ => by simp [lsts, allF, prodF]
  | r + 1, h, hr => by
    have e1 : n - (r + 1) + 1 = n - r := by omega
    rw [lsts, catG_filter, prodF, e1]
    refine catG_count fun v _ _ => ?_
    have e : ∀ x ∈ lsts lo hi n r (upd h (n - (r + 1)) v), allF (fun i => q i (x i)) (n - (r + 1)) (r + 1) = (q (n - (r + 1)) v && allF (fun i => q i (x i)) (n - r) r) := fun x hx => by
      have := ((lsts_mem (by omega)).1 hx).2 (n - (r + 1)) (by omega)
      simp only [upd, if_true] at this
      rw [allF, e1, this]
    rw [List.filter_congr e]
    cases hq : q (n - (r + 1)) v
    · simp
    · simp only [Bool.true_and, if_true]
      exact lsts_count q (by omega)
theorem manyF_prod (x : Tr) (f : Nat → Nat) : ∀ (r a : Nat), (∀ i, a ≤ i → i < a + r → oc64 (x.s i) = (f i : Int)) → manyF x (a + r) = manyF x a * (prodF f a r : Int)
  | 0, a, _ => by simp [prodF]
  | r + 1, a, h => by
    have := manyF_prod x f r (a + 1) fun i h1 h2 => h i (by omega) (by omega)
    rw [show a + (r + 1) = a + 1 + r by omega, this, manyF, h a (by omega) (by omega), prodF, Int.mul_assoc]
    push_cast
    rfl
end Go.Proofs.YtipbempkngfdbaaDoor
/-
  What the set of heights of sand at a place says.
-/
namespace Go.Proofs.YtipbempkngfdbaaDoor
open Go Go.Sy
set_option maxRecDepth 100000
set_option maxHeartbeats 4000000

def maskF (f : Nat → Bool) : Nat → Nat
  | 0 => 0
  | c + 1 => maskF f c + if f c = true then 2 ^ c else 0
def cntN (f : Nat → Bool) : Nat → Nat
  | 0 => 0
  | c + 1 => cntN f c + if f c = true then 1 else 0
def loM (m : Nat) : Nat := if m % 2 = 1 then 0 else if m % 4 = 2 then 1 else 2
def hiM (m : Nat) : Nat := if 4 ≤ m then 3 else if 2 ≤ m then 2 else 1
theorem maskF_congr {f g : Nat → Bool} : ∀ {c : Nat}, (∀ j, j < c → f j = g j) → maskF f c = maskF g c
  | 0, _ => rfl
  | c + 1, h => by rw [maskF, maskF, maskF_congr (c := c) fun j hj => h j (by omega), h c (by omega)]
theorem cntN_congr {f g : Nat → Bool} : ∀ {c : Nat}, (∀ j, j < c → f j = g j) → cntN f c = cntN g c
  | 0, _ => rfl
  | c + 1, h => by rw [cntN, cntN, cntN_congr (c := c) fun j hj => h j (by omega), h c (by omega)]
theorem cntI_N (q : Int → Bool) (lo : Int) : ∀ c, cntI q lo c = cntN (fun j => q (lo + (j : Nat))) c
  | 0 => rfl
  | c + 1 => by rw [cntI, cntN, cntI_N q lo c]
def bs (a b d : Bool) (j : Nat) : Bool := [a, b, d].getD j false
theorem mask_d1 : ∀ c, c < 4 → ∀ a b d : Bool, maskF (bs a b d) c < 8 ∧ (maskF (bs a b d) c = 0 ↔ ∀ j, j < c → bs a b d j = false) := by decide
theorem mask_d3 : ∀ c, c < 4 → ∀ a b d : Bool, (if maskF (bs a b d) c = 0 then 0 else if maskF (bs a b d) c = 1 ∨ maskF (bs a b d) c = 2 ∨ maskF (bs a b d) c = 4 then 1 else if maskF (bs a b d) c = 7 then 3 else 2) = cntN (bs a b d) c := by decide
theorem mask_d4 : ∀ c, c < 4 → ∀ a b d : Bool, maskF (bs a b d) c ≠ 0 → loM (maskF (bs a b d) c) < c ∧ hiM (maskF (bs a b d) c) - 1 < c ∧ bs a b d (loM (maskF (bs a b d) c)) = true ∧ bs a b d (hiM (maskF (bs a b d) c) - 1) = true := by decide
theorem mask_d5 : ∀ c, c < 4 → ∀ a b d : Bool, maskF (bs a b d) c ≠ 0 → ∀ j, j < c → bs a b d j = true → loM (maskF (bs a b d) c) ≤ j ∧ j ≤ hiM (maskF (bs a b d) c) - 1 := by decide
theorem mask_d6 : ∀ c, c < 4 → ∀ a b d : Bool, ∀ j, j < c → (maskF (bs a b d) c).testBit j = bs a b d j := by decide
theorem oc_zero : oc64 0 = 0 := by decide
theorem bs_eq (f : Nat → Bool) {c : Nat} (hc : c < 4) : ∀ j, j < c → f j = bs (f 0) (f 1) (f 2) j := fun j hj => by
  have : j = 0 ∨ j = 1 ∨ j = 2 := by omega
  rcases this with rfl | rfl | rfl <;> rfl
theorem setF_mask {t : TD} {h : Nat → Int} {p : Nat} (h0 : 0 ≤ t.slo p) : ∀ c : Nat, t.setF h p c = ((maskF (fun j => t.ok1 h p (t.slo p + (j : Nat))) c * 2 ^ (t.slo p).toNat : Nat) : Int)
  | 0 => by simp [TD.setF, maskF]
  | c + 1 => by
    have e : (t.slo p + c).toNat = (t.slo p).toNat + c := by omega
    rw [TD.setF, setF_mask h0 c, e, maskF]
    split
    · rw [Nat.add_mul, ← Nat.pow_add, Nat.add_comm c]
      push_cast
      rfl
    · simp
/-- All that is said of the set of a place. -/
structure SetIs (t : TD) (h : Nat → Int) (p : Nat) : Prop where
  zero : t.set h p = 0 ↔ ∀ v, t.slo p ≤ v → v ≤ t.shi p → t.ok1 h p v = false
  many : oc64 (t.set h p) = (cntI (t.ok1 h p) (t.slo p) (t.shi p - t.slo p + 1).toNat : Int)
  ends : t.set h p ≠ 0 → (t.slo p ≤ loE (t.set h p) ∧ loE (t.set h p) ≤ t.shi p ∧ t.ok1 h p (loE (t.set h p)) = true) ∧ (t.slo p ≤ hiE (t.set h p) ∧ hiE (t.set h p) ≤ t.shi p ∧ t.ok1 h p (hiE (t.set h p)) = true) ∧
    ∀ v, t.slo p ≤ v → v ≤ t.shi p → t.ok1 h p v = true → loE (t.set h p) ≤ v ∧ v ≤ hiE (t.set h p)
  bit : ∀ v, t.slo p ≤ v → v ≤ t.shi p → bitAt (t.set h p) v = if t.ok1 h p v = true then ((2 ^ v.toNat : Nat) : Int) else 0
theorem set_is {t : TD} (hv : t.Valid) (h : Nat → Int) {p : Nat} (hp : p < t.nS) : SetIs t h p := by
  have hs := hv.2.2.2.2.1 p hp
  simp only [TD.sandOk] at hs
  obtain ⟨c, hc⟩ : ∃ c, c = (t.shi p - t.slo p + 1).toNat := ⟨_, rfl⟩
  have hc4 : c < 4 := by omega
  have hcs : (c : Int) = t.shi p - t.slo p + 1 := by omega
  obtain ⟨f, hf⟩ : ∃ f : Nat → Bool, f = fun j => t.ok1 h p (t.slo p + (j : Nat)) := ⟨_, rfl⟩
  have hfv : ∀ v, t.slo p ≤ v → t.ok1 h p v = f (v - t.slo p).toNat := fun v h1 => by
    rw [hf]
    show _ = t.ok1 h p (t.slo p + ((v - t.slo p).toNat : Int))
    rw [show t.slo p + ((v - t.slo p).toNat : Int) = v by omega]
  have e0 := setF_mask (t := t) (h := h) hs.1.1 c
  rw [← hf] at e0
  have eb := bs_eq f hc4
  have d0 := mask_d1 c hc4 (f 0) (f 1) (f 2)
  have d3 := mask_d3 c hc4 (f 0) (f 1) (f 2)
  have d4a := mask_d4 c hc4 (f 0) (f 1) (f 2)
  have d4b := mask_d5 c hc4 (f 0) (f 1) (f 2)
  have d5 := mask_d6 c hc4 (f 0) (f 1) (f 2)
  rw [← maskF_congr eb] at d0 d3 d4a d4b d5
  rw [← cntN_congr eb] at d3
  obtain ⟨d1, d2⟩ := d0
  obtain ⟨lo, hlo⟩ : ∃ lo : Nat, t.slo p = lo := ⟨(t.slo p).toNat, by omega⟩
  have hl61 : lo < 61 := by omega
  have eS : t.set h p = ((maskF f c * 2 ^ lo : Nat) : Int) := by
    rw [TD.set, ← hc, e0, hlo]
    rfl
  have p0 : 0 < 2 ^ lo := Nat.pow_pos (by omega)
  have z : t.set h p = 0 ↔ maskF f c = 0 := by
    rw [eS]
    constructor
    · intro h1
      have h2 : maskF f c * 2 ^ lo = 0 := by omega
      rcases Nat.mul_eq_zero.1 h2 with h3 | h3
      · exact h3
      · omega
    · intro h1
      rw [h1, Nat.zero_mul]
      rfl
  have few : maskF f c ≠ 0 → loE (t.set h p) = lo + loM (maskF f c) ∧ hiE (t.set h p) = lo + hiM (maskF f c) - 1 ∧ oc64 (t.set h p) = (if maskF f c = 1 ∨ maskF f c = 2 ∨ maskF f c = 4 then 1 else if maskF f c = 7 then 3 else 2) := fun h1 => by
    have hfew := few_all lo hl61 (maskF f c) d1 (by omega)
    simp only [fewOk, Bool.and_eq_true, decide_eq_true_eq] at hfew
    obtain ⟨_, a3, a4, a5⟩ := hfew
    rw [← eS] at a3 a4
    refine ⟨?_, ?_, a4⟩
    · rw [loE, a3, loM]
      push_cast
      congr 1
      repeat' split
      all_goals rfl
    · rw [hiE, eS, Int.toNat_natCast, a5, hiM]
      repeat' split
      all_goals (push_cast; omega)
  refine ⟨?_, ?_, ?_, ?_⟩
  · rw [z, d2]
    constructor
    · intro h1 v h2 h3
      rw [hfv v h2, eb (v - t.slo p).toNat (by omega)]
      exact h1 (v - t.slo p).toNat (by omega)
    · intro h1 j hj
      have := h1 (t.slo p + j) (by omega) (by omega)
      rw [hfv _ (by omega), show (t.slo p + (j : Int) - t.slo p).toNat = j by omega] at this
      rw [← eb j hj]
      exact this
  · rw [cntI_N, ← hc, ← hf, ← d3]
    by_cases h1 : maskF f c = 0
    · rw [z.2 h1, if_pos h1, oc_zero]
      rfl
    · rw [(few h1).2.2, if_neg h1]
      repeat' split
      all_goals rfl
  · intro h1
    have h1' : maskF f c ≠ 0 := fun h2 => h1 (z.2 h2)
    obtain ⟨f1, f2, _⟩ := few h1'
    obtain ⟨g1, g2, g3, g4⟩ := d4a h1'
    have g5 := d4b h1'
    have hh : 1 ≤ hiM (maskF f c) := by
      unfold hiM
      repeat' split
      all_goals omega
    rw [f1, f2]
    clear few z eS e0 d3 d4a d4b d5 p0 f1 f2 h1
    refine ⟨⟨by omega, by omega, ?_⟩, ⟨by omega, by omega, ?_⟩, fun v h2 h3 h4 => ?_⟩
    · rw [hfv _ (by omega), show ((lo : Int) + (loM (maskF f c) : Int) - t.slo p).toNat = loM (maskF f c) by omega, eb _ g1]
      exact g3
    · rw [hfv _ (by omega), show ((lo : Int) + (hiM (maskF f c) : Int) - 1 - t.slo p).toNat = hiM (maskF f c) - 1 by omega, eb _ g2]
      exact g4
    · rw [hfv v h2, eb (v - t.slo p).toNat (by omega)] at h4
      have := g5 (v - t.slo p).toNat (by omega) h4
      omega
  · intro v h2 h3
    have hm : maskF f c * 2 ^ lo < 2 ^ 64 := by
      have : 2 ^ lo ≤ 2 ^ 60 := Nat.pow_le_pow_right (by omega) (by omega)
      have := Nat.mul_le_mul (show maskF f c ≤ 7 by omega) this
      omega
    have := bitAt_or (maskF f c * 2 ^ lo) v.toNat hm (by omega)
    rw [show ((v.toNat : Nat) : Int) = v by omega] at this
    rw [eS, this]
    have e1 : (maskF f c * 2 ^ lo).testBit v.toNat = t.ok1 h p v := by
      rw [Nat.testBit_mul_two_pow, hfv v h2, eb (v - t.slo p).toNat (by omega), show (v - t.slo p).toNat = v.toNat - lo by omega, d5 (v.toNat - lo) (by omega)]
      simp
      omega
    rw [e1]
end Go.Proofs.YtipbempkngfdbaaDoor
/-
  What is told, by truths one by one.
-/
namespace Go.Proofs.YtipbempkngfdbaaDoor
open Go Go.Sy
set_option maxRecDepth 100000
set_option maxHeartbeats 4000000

/-- All looks can be so. -/
def TD.right (t : TD) (h s : Nat → Int) : Bool := allB (fun i => t.fit h i (s (t.lp i).toNat)) t.nL
def TD.hts (t : TD) : List (Nat → Int) := lsts t.mlo t.mhi t.nM t.nM fun _ => 0
def TD.sds (t : TD) : List (Nat → Int) := lsts t.slo t.shi t.nS t.nS fun _ => 0
/-- All truths. -/
def TD.tru (t : TD) : List ((Nat → Int) × (Nat → Int)) := t.hts.flatMap fun h => (t.sds.filter (t.right h)).map fun s => (h, s)
theorem hts_mem {t : TD} {h : Nat → Int} : h ∈ t.hts ↔ (∀ i, i < t.nM → t.mlo i ≤ h i ∧ h i ≤ t.mhi i) ∧ ∀ i, t.nM ≤ i → h i = 0 := by
  rw [TD.hts, lsts_mem (Nat.le_refl _)]
  constructor
  · rintro ⟨a, b⟩
    exact ⟨fun i hi => a i (by omega) hi, fun i hi => b i (.inr hi)⟩
  · rintro ⟨a, b⟩
    exact ⟨fun i _ hi => a i hi, fun i hi => b i (by omega)⟩
theorem sds_mem {t : TD} {s : Nat → Int} : s ∈ t.sds ↔ (∀ i, i < t.nS → t.slo i ≤ s i ∧ s i ≤ t.shi i) ∧ ∀ i, t.nS ≤ i → s i = 0 := by
  rw [TD.sds, lsts_mem (Nat.le_refl _)]
  constructor
  · rintro ⟨a, b⟩
    exact ⟨fun i hi => a i (by omega) hi, fun i hi => b i (.inr hi)⟩
  · rintro ⟨a, b⟩
    exact ⟨fun i _ hi => a i hi, fun i hi => b i (by omega)⟩
theorem tru_mem {t : TD} {x : (Nat → Int) × (Nat → Int)} : x ∈ t.tru ↔ x.1 ∈ t.hts ∧ x.2 ∈ t.sds ∧ t.right x.1 x.2 = true := by
  obtain ⟨h, s⟩ := x
  simp only [TD.tru, List.mem_flatMap, List.mem_map, List.mem_filter]
  constructor
  · rintro ⟨a, h1, b, ⟨h2, h3⟩, h4⟩
    cases h4
    exact ⟨h1, h2, h3⟩
  · rintro ⟨h1, h2, h3⟩
    exact ⟨h, h1, s, ⟨h2, h3⟩, rfl⟩
theorem right_iff {t : TD} (hv : t.Valid) {h s : Nat → Int} : t.right h s = true ↔ ∀ p, p < t.nS → t.ok1 h p (s p) = true := by
  simp only [TD.right, TD.ok1, allB_iff]
  constructor
  · intro a p hp i hi
    have := a i hi
    by_cases e : t.lp i = p
    · rw [e, Int.toNat_natCast] at this
      simp [e, this]
    · simp [e]
  · intro a i hi
    have hl := hv.2.2.2.2.2 i hi
    simp only [TD.lookOk] at hl
    have hS := hv.2.1
    have := a (t.lp i).toNat (by omega) i hi
    have e : t.lp i = (t.lp i).toNat := by omega
    simpa [← e] using this
theorem right_all {t : TD} (hv : t.Valid) (h s : Nat → Int) : t.right h s = allF (fun i => t.ok1 h i (s i)) 0 t.nS := by
  rw [Bool.eq_iff_iff, right_iff hv, allF_iff]
  exact ⟨fun a i _ hi => a i (by omega), fun a i hi => a i (by omega) (by omega)⟩

/-! ### The program's truths -/
def TD.some (t : TD) (h : Nat → Int) : Bool := allB (fun p => !decide (t.set h p = 0)) t.nS
theorem tls_eq (t : TD) : ∀ (r : Nat) (h : Nat → Int), t.tls r h = (lsts t.mlo t.mhi t.nM r h).flatMap fun g => if t.some g = true then [t.tr g] else []
  | 0, h => by
    simp only [TD.tls, lsts, TD.some, List.flatMap_cons, List.flatMap_nil, List.append_nil]
    rfl
  | r + 1, h => by
    rw [TD.tls, lsts, catG_bind, catF_eq]
    exact catG_congr fun v _ _ => tls_eq t r _
theorem all_eq (t : TD) : t.all = t.hts.flatMap fun g => if t.some g = true then [t.tr g] else [] := tls_eq t t.nM _
theorem all_mem {t : TD} {x : Tr} : x ∈ t.all ↔ ∃ h ∈ t.hts, t.some h = true ∧ x = t.tr h := by
  rw [all_eq, List.mem_flatMap]
  constructor
  · rintro ⟨h, h1, h2⟩
    split at h2
    · rename_i h3
      exact ⟨h, h1, h3, by simpa using h2⟩
    · simp at h2
  · rintro ⟨h, h1, h2, rfl⟩
    exact ⟨h, h1, by simp [h2]⟩
theorem some_iff {t : TD} (_ : t.Valid) {h : Nat → Int} : t.some h = true ↔ ∀ p, p < t.nS → t.set h p ≠ 0 := by
  simp [TD.some, allB_iff]
theorem some_of {t : TD} (hv : t.Valid) {h s : Nat → Int} (hs : s ∈ t.sds) (hr : t.right h s = true) : t.some h = true := by
  refine (some_iff hv).2 fun p hp e => ?_
  have h1 := (right_iff hv).1 hr p hp
  have h2 := (sds_mem.1 hs).1 p hp
  rw [(set_is hv h hp).zero.1 e _ h2.1 h2.2] at h1
  cases h1
/-- The sand by a choice for each place. -/
def sandBy (t : TD) (f : Nat → Int) (p : Nat) : Int := if p < t.nS then f p else 0
theorem sand_right {t : TD} (hv : t.Valid) {h f : Nat → Int} (hf : ∀ p, p < t.nS → t.slo p ≤ f p ∧ f p ≤ t.shi p ∧ t.ok1 h p (f p) = true) : sandBy t f ∈ t.sds ∧ t.right h (sandBy t f) = true := by
  refine ⟨sds_mem.2 ⟨fun i hi => ?_, fun i hi => ?_⟩, (right_iff hv).2 fun p hp => ?_⟩
  · simp only [sandBy, if_pos hi]
    exact ⟨(hf i hi).1, (hf i hi).2.1⟩
  · simp only [sandBy, if_neg (by omega : ¬ i < t.nS)]
  · simp only [sandBy, if_pos hp]
    exact (hf p hp).2.2
theorem all_nil {t : TD} (hv : t.Valid) : t.all = [] ↔ t.tru = [] := by
  constructor
  · intro h0
    refine List.eq_nil_iff_forall_not_mem.2 fun x hx => ?_
    obtain ⟨h1, h2, h3⟩ := tru_mem.1 hx
    have : t.tr x.1 ∈ t.all := all_mem.2 ⟨_, h1, some_of hv h2 h3, rfl⟩
    rw [h0] at this
    simp at this
  · intro h0
    refine List.eq_nil_iff_forall_not_mem.2 fun x hx => ?_
    obtain ⟨h, h1, h2, rfl⟩ := all_mem.1 hx
    have hs := (some_iff hv).1 h2
    obtain ⟨g1, g2⟩ := sand_right hv (h := h) (f := fun p => loE (t.set h p)) fun p hp => ((set_is hv h hp).ends (hs p hp)).1
    have : (h, sandBy t fun p => loE (t.set h p)) ∈ t.tru := tru_mem.2 ⟨h1, g1, g2⟩
    rw [h0] at this
    simp at this

/-! ### How many -/
theorem count_h {t : TD} (hv : t.Valid) (h : Nat → Int) : manyF (t.tr h) t.nS = ((t.sds.filter (t.right h)).length : Int) := by
  have e := lsts_count (lo := t.slo) (hi := t.shi) (n := t.nS) (t.ok1 h) (r := t.nS) (h := fun _ => 0) (Nat.le_refl _)
  rw [Nat.sub_self] at e
  have e2 : t.sds.filter (t.right h) = t.sds.filter fun x => allF (fun i => t.ok1 h i (x i)) 0 t.nS := List.filter_congr fun x _ => right_all hv h x
  rw [e2, TD.sds, e]
  have := manyF_prod (t.tr h) (fun i => cntI (t.ok1 h i) (t.slo i) (t.shi i - t.slo i + 1).toNat) t.nS 0 fun i _ hi => by
    have hi' : i < t.nS := by omega
    simp only [TD.tr, if_pos hi']
    exact (set_is hv h hi').many
  rw [Nat.zero_add, manyF, Int.one_mul] at this
  exact this
theorem count_none {t : TD} (hv : t.Valid) {h : Nat → Int} (hn : ¬ t.some h = true) : t.sds.filter (t.right h) = [] :=
  List.filter_eq_nil_iff.2 fun _ hs hr => hn (some_of hv hs hr)
theorem sumF_tru {t : TD} (hv : t.Valid) : ∀ L : List (Nat → Int), sumF t (L.flatMap fun g => if t.some g = true then [t.tr g] else []) = ((L.flatMap fun h => (t.sds.filter (t.right h)).map fun s => (h, s)).length : Int)
  | [] => rfl
  | h :: L => by
    rw [List.flatMap_cons, List.flatMap_cons, sumF_app, sumF_tru hv L, List.length_append, List.length_map]
    push_cast
    congr 1
    split
    · simp only [sumF]
      rw [count_h hv]
      omega
    · rename_i hn
      rw [count_none hv hn]
      rfl
theorem count_tru {t : TD} (hv : t.Valid) : t.countT = ⟨t.tru.length, 0⟩ := by
  have := sumF_tru hv t.hts
  rw [← all_eq] at this
  simp only [TD.countT, hv, not_true, if_false, this]
  rfl
end Go.Proofs.YtipbempkngfdbaaDoor
/-
  Depths that are told, and how many truths have each, by truths one by one.
-/
namespace Go.Proofs.YtipbempkngfdbaaDoor
open Go Go.Sy
set_option maxRecDepth 100000
set_option maxHeartbeats 4000000

/-- How deep it is at a place at a minute. -/
def TD.dep (t : TD) (m : Int) (p : Nat) (x : (Nat → Int) × (Nat → Int)) : Int := max0 (t.stand x.1 m - x.2 p)
theorem max0_mono {a b : Int} (h : a ≤ b) : max0 a ≤ max0 b := by
  unfold max0
  split <;> split <;> omega
theorem max0_nn (a : Int) : 0 ≤ max0 a := by
  unfold max0
  split <;> omega
/-- What is told of the depth, where there are truths. -/
structure DepIs (t : TD) (p : Nat) (m lo hi : Int) : Prop where
  v : t.depthT p m = ⟨(lo, hi), 0⟩
  bnd : ∀ x ∈ t.tru, lo ≤ t.dep m p x ∧ t.dep m p x ≤ hi
  lo : ∃ x ∈ t.tru, t.dep m p x = lo
  hi : ∃ x ∈ t.tru, t.dep m p x = hi
theorem dep_is {t : TD} (hv : t.Valid) (hn : t.tru ≠ []) {p : Nat} (hp : p < t.nS) {m : Int} (hm : t.isMin m) : ∃ lo hi, DepIs t p m lo hi := by
  have hna : t.all ≠ [] := fun h => hn ((all_nil hv).1 h)
  have hpl : t.isPl (p : Int) := ⟨by omega, by omega⟩
  have key : ∀ h ∈ t.hts, t.some h = true → (t.tr h).s p = t.set h p ∧ SetIs t h p ∧ t.set h p ≠ 0 := fun h _ hs => by
    refine ⟨?_, set_is hv h hp, (some_iff hv).1 hs p hp⟩
    simp only [TD.tr, if_pos hp]
  have pick : ∀ h ∈ t.hts, t.some h = true → ∀ v, t.slo p ≤ v → v ≤ t.shi p → t.ok1 h p v = true → ∃ x ∈ t.tru, x.1 = h ∧ x.2 p = v := fun h hh hs v h1 h2 h3 => by
    obtain ⟨g1, g2⟩ := sand_right hv (h := h) (f := fun q => if q = p then v else loE (t.set h q)) fun q hq => by
      by_cases e : q = p
      · subst e
        simp only [if_true]
        exact ⟨h1, h2, h3⟩
      · simp only [if_neg e]
        exact ((set_is hv h hq).ends ((some_iff hv).1 hs q hq)).1
    refine ⟨(h, _), tru_mem.2 ⟨hh, g1, g2⟩, rfl, ?_⟩
    show (if p < t.nS then (if p = p then v else loE (t.set h p)) else 0) = v
    rw [if_pos hp, if_pos rfl]
  refine ⟨_, _, ⟨by simp only [TD.depthT, hv, hpl, hm, hna, not_true, if_false, and_self]; rfl, fun x hx => ?_, ?_, ?_⟩⟩
  · obtain ⟨h1, h2, h3⟩ := tru_mem.1 hx
    have hs := some_of hv h2 h3
    obtain ⟨e, si, hne⟩ := key _ h1 hs
    have hy : t.tr x.1 ∈ t.all := all_mem.2 ⟨_, h1, hs, rfl⟩
    have a1 := (hul_mem (a := a98 t m p) hy).1
    have a2 := (hul_mem (a := b98 t m p) hy).2
    have b := (si.ends hne).2.2 (x.2 p) ((sds_mem.1 h2).1 p hp).1 ((sds_mem.1 h2).1 p hp).2 ((right_iff hv).1 h3 p hp)
    have c1 : a98 t m p (t.tr x.1) ≤ t.dep m p x := by
      unfold a98 TD.dep
      rw [e]
      exact max0_mono (by have := b.2; show t.stand x.1 m - _ ≤ _; omega)
    have c2 : t.dep m p x ≤ b98 t m p (t.tr x.1) := by
      unfold b98 TD.dep
      rw [e]
      exact max0_mono (by have := b.1; show _ ≤ t.stand x.1 m - _; omega)
    exact ⟨Int.le_trans a1 c1, Int.le_trans c2 a2⟩
  · obtain ⟨⟨y, hy, ey⟩, _⟩ := hul_ex (a := a98 t m p) hna
    obtain ⟨h, h1, h2, rfl⟩ := all_mem.1 hy
    obtain ⟨e, si, hne⟩ := key h h1 h2
    obtain ⟨x, hx, e1, e2⟩ := pick h h1 h2 _ (si.ends hne).2.1.1 (si.ends hne).2.1.2.1 (si.ends hne).2.1.2.2
    refine ⟨x, hx, ?_⟩
    show _ = hulLo (a98 t m p) t.all t.all.length
    rw [ey]
    unfold a98 TD.dep
    rw [e, e1, e2]
    rfl
  · obtain ⟨_, y, hy, ey⟩ := hul_ex (a := b98 t m p) hna
    obtain ⟨h, h1, h2, rfl⟩ := all_mem.1 hy
    obtain ⟨e, si, hne⟩ := key h h1 h2
    obtain ⟨x, hx, e1, e2⟩ := pick h h1 h2 _ (si.ends hne).1.1 (si.ends hne).1.2.1 (si.ends hne).1.2.2
    refine ⟨x, hx, ?_⟩
    show _ = hulHi (b98 t m p) t.all t.all.length
    rw [ey]
    unfold b98 TD.dep
    rw [e, e1, e2]
    rfl

/-! ### How many truths have a depth -/
/-- How many truths have a depth at a place at a minute. -/
def TD.cnt (t : TD) (m : Int) (p : Nat) (k : Int) : Nat := (t.tru.filter fun x => decide (t.dep m p x = k)).length
/-! ### The map itself -/
end Go.Proofs.YtipbempkngfdbaaDoor
/-
  The plain law of a look more.
-/
namespace Go.Proofs.YtipbempkngfdbaaDoor
open Go Go.Sy
set_option maxRecDepth 100000
set_option maxHeartbeats 4000000

/-- A tide with a look more. -/
def TD.plus (t : TD) (a m lo hi : Int) (cap : Nat) : TD :=
  { t with nL := t.nL + 1, lp := fun k => if k = t.nL then a else t.lp k, lm := fun k => if k = t.nL then m else t.lm k, llo := fun k => if k = t.nL then lo else t.llo k, lhi := fun k => if k = t.nL then hi else t.lhi k, bL := true, cL := cap }
/-- Depths are from 0 to 60. -/
theorem dep_range {t : TD} (hv : t.Valid) {p : Nat} (hp : p < t.nS) {m : Int} (hm : t.isMin m) {x : (Nat → Int) × (Nat → Int)} (hx : x ∈ t.tru) : 0 ≤ t.dep m p x ∧ t.dep m p x ≤ 60 := by
  obtain ⟨h1, h2, _⟩ := tru_mem.1 hx
  have hh : okH x.1 := fun i => by
    rcases Nat.lt_or_ge i t.nM with h | h
    · have := (hts_mem.1 h1).1 i h
      have mk := hv.marks (i := i) h
      simp only [TD.markOk] at mk
      omega
    · rw [(hts_mem.1 h1).2 i h]
      omega
  have hr := stand_range hv hm hh
  have hs := hv.2.2.2.2.1 p hp
  simp only [TD.sandOk] at hs
  have := (sds_mem.1 h2).1 p hp
  refine ⟨max0_nn _, ?_⟩
  unfold TD.dep max0
  split <;> omega
theorem tru_len {t : TD} (hv : t.Valid) : t.tru.length ≤ 6561 := by
  have h := count_tru hv
  simp only [TD.countT, hv, not_true, if_false, Told.mk.injEq, and_true] at h
  have h2 := sumF_range hv t.all (all_full hv)
  have h3 := all_len hv
  omega
end Go.Proofs.YtipbempkngfdbaaDoor
