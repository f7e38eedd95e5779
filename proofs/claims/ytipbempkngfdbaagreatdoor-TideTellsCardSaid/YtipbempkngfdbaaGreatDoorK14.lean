/-
  Parts: A7, Lk, A8, A9, B1.
-/
import Derived.Test.YtipbempkngfdbaaGreatDoorK13
import Derived.WalkKit
set_option linter.unusedVariables false
/-
  Contracts: how high the water stands, of the map that remembers it.
-/
namespace Go.Proofs.YtipbempkngfdbaaGreatDoor
open Go Go.Sy
set_option linter.unusedSimpArgs false
set_option maxRecDepth 100000
set_option maxHeartbeats 4000000
attribute [local irreducible] CallP CodeP Ent YieldP

/-- By how many twelfths the water has moved. -/
def tw (q : Int) : Int := if q ≤ 0 then 0 else if q = 1 then 1 else if q = 2 then 3 else if q = 3 then 6 else if q = 4 then 9 else if q = 5 then 11 else 12
/-- The mark that comes next, or is just now; not the first one. -/
def nxF (mi : Nat → Int) (m : Int) : Nat → Nat → Nat
  | 0, i => i
  | n + 1, i => if m ≤ mi i then i else nxF mi m n (i + 1)
def TD.nx (t : TD) (m : Int) : Nat := nxF t.mi m (t.nM - 2) 1
/-- How high the water stands. -/
def TD.stand (t : TD) (h : Nat → Int) (m : Int) : Int :=
  let k := t.nx m
  let fr := t.mi (k - 1)
  let lg := t.mi k - fr
  let x := 6 * (m - fr)
  let q := x / lg
  let r := x % lg
  let f := tw q * lg + (if 0 < r then (tw (q + 1) - tw q) * r else 0)
  (h (k - 1) * (12 * lg - f) + h k * f) / (12 * lg)
def TD.F (t : TD) (ks : List Int) : Int := t.stand (fun i => ks.getD i 0) (ks.getD 4 0)

/-- A minute of the tide. -/
def TD.isMin (t : TD) (m : Int) : Prop := t.mi 0 ≤ m ∧ m ≤ t.mi (t.nM - 1)
theorem nxF_spec {mi : Nat → Int} {m : Int} : ∀ {n i : Nat}, m ≤ mi (i + n) → i ≤ nxF mi m n i ∧ nxF mi m n i ≤ i + n ∧ m ≤ mi (nxF mi m n i) ∧ ∀ j, i ≤ j → j < nxF mi m n i → mi j < m
  | 0, i, h => ⟨Nat.le_refl _, Nat.le_refl _, h, fun j h1 h2 => by simp only [nxF] at h2; omega⟩
  | n + 1, i, h => by
    simp only [nxF]
    split
    · rename_i hi
      exact ⟨Nat.le_refl _, by omega, hi, fun j h1 h2 => by omega⟩
    · rename_i hi
      obtain ⟨h1, h2, h3, h4⟩ := nxF_spec (n := n) (i := i + 1) (mi := mi) (m := m) (by rwa [show i + 1 + n = i + (n + 1) by omega])
      refine ⟨by omega, by omega, h3, fun j h5 h6 => ?_⟩
      rcases Nat.eq_or_lt_of_le h5 with rfl | h5
      · omega
      · exact h4 j h5 h6
theorem TD.Valid.marks {t : TD} (hv : t.Valid) {i : Nat} (hi : i < t.nM) : t.markOk i := hv.2.2.2.1 i hi
theorem TD.Valid.step {t : TD} (hv : t.Valid) {i : Nat} (h0 : 0 < i) (hi : i < t.nM) : t.mi (i - 1) + 6 ≤ t.mi i := (hv.marks hi).2.2.2 h0
theorem TD.nx_spec {t : TD} (hv : t.Valid) {m : Int} (hm : t.isMin m) : 1 ≤ t.nx m ∧ t.nx m < t.nM ∧ t.mi (t.nx m - 1) ≤ m ∧ m ≤ t.mi (t.nx m) ∧ (∀ j, 1 ≤ j → j < t.nx m → t.mi j < m) := by
  have h2 := hv.1.1
  obtain ⟨h1, h3, h4, h5⟩ := nxF_spec (mi := t.mi) (m := m) (n := t.nM - 2) (i := 1) (by rw [show 1 + (t.nM - 2) = t.nM - 1 by omega]; exact hm.2)
  have e : nxF t.mi m (t.nM - 2) 1 = t.nx m := rfl
  rw [e] at h1 h3 h4 h5
  refine ⟨h1, by omega, ?_, h4, h5⟩
  rcases Nat.eq_or_lt_of_le h1 with h | h
  · rw [← h]; exact hm.1
  · exact Int.le_of_lt (h5 (t.nx m - 1) (by omega) (by omega))
theorem TD.idx_nx {t : TD} (hv : t.Valid) {m : Int} (hm : t.isMin m) : (if idx (fun i => decide (m ≤ t.mi i)) t.nM 0 > 1 then idx (fun i => decide (m ≤ t.mi i)) t.nM 0 else 1) = (t.nx m : Int) := by
  obtain ⟨h1, h2, h3, h4, h5⟩ := t.nx_spec hv hm
  by_cases h0 : m ≤ t.mi 0
  · rw [idx_hit (k := 0) (by omega) (fun j hj => by omega) (by simpa using h0)]
    have : t.nx m = 1 := by
      rcases Nat.eq_or_lt_of_le h1 with h | h
      · exact h.symm
      · have := h5 1 (by omega) h
        have := hv.step (i := 1) (by omega) (by omega)
        simp at this
        omega
    rw [this]; simp
  · rw [idx_hit (k := t.nx m) h2 (fun j hj => ?_) (by simpa using h4)]
    · simp only [Nat.zero_add]
      split <;> omega
    · simp only [Nat.zero_add, decide_eq_false_iff_not]
      rcases Nat.eq_zero_or_pos j with rfl | hp
      · exact h0
      · have := h5 j hp hj
        omega

/-- The numbers of the step. -/
theorem TD.stand_spec {t : TD} (hv : t.Valid) {m : Int} (hm : t.isMin m) : 6 ≤ t.mi (t.nx m) - t.mi (t.nx m - 1) ∧ t.mi (t.nx m) - t.mi (t.nx m - 1) ≤ 240 ∧ 0 ≤ m - t.mi (t.nx m - 1) ∧ m - t.mi (t.nx m - 1) ≤ t.mi (t.nx m) - t.mi (t.nx m - 1) := by
  obtain ⟨h1, h2, h3, h4, h5⟩ := t.nx_spec hv hm
  have := hv.step (i := t.nx m) h1 h2
  have h6 := (hv.marks (i := t.nx m) h2).1
  have h7 := (hv.marks (i := t.nx m - 1) (by omega)).1
  omega

def TD.sh (t : TD) : SHeap := [some (.roc [.osl t.bM 1 3 t.nM t.cM, .osl t.bS 2 2 t.nS t.cS, .osl t.bL 3 4 t.nL t.cL, .map 4]),
  some (.roa 3 t.nM (row3 t.mi t.mlo t.mhi)), some (.roa 2 t.nS (row2 t.slo t.shi)), some (.roa 4 t.nL (row4 t.lp t.lm t.llo t.lhi)), some (.memo 5 t.F []),
  some (.glob 0 [.int .i64 0, .int .i64 1, .int .i64 3, .int .i64 6, .int .i64 9, .int .i64 11, .int .i64 12])]
/-- Heights of marks. -/
def okH (h : Nat → Int) : Prop := ∀ i, 0 ≤ h i ∧ h i ≤ 60

theorem TD.F_eq {t : TD} (hv : t.Valid) {m : Int} (hm : t.isMin m) (h : Nat → Int) : t.F [h 0, h 1, h 2, h 3, m] = t.stand h m := by
  obtain ⟨h1, h2, _⟩ := t.nx_spec hv hm
  have h4 := hv.1.2
  have e : ∀ i, i < 4 → ([h 0, h 1, h 2, h 3, m].getD i 0) = h i := fun i hi => by
    match i, hi with
    | 0, _ => rfl
    | 1, _ => rfl
    | 2, _ => rfl
    | 3, _ => rfl
  show t.stand (fun i => [h 0, h 1, h 2, h 3, m].getD i 0) m = t.stand h m
  simp only [TD.stand]
  rw [e _ (by omega), e _ (by omega)]

theorem mul_bd {a b A B : Int} (ha : -A ≤ a ∧ a ≤ A) (hb : -B ≤ b ∧ b ≤ B) : -(A * B) ≤ a * b ∧ a * b ≤ A * B := by
  have h1 : a.natAbs ≤ A.natAbs := by omega
  have h2 : b.natAbs ≤ B.natAbs := by omega
  have h3 := Nat.mul_le_mul h1 h2
  rw [← Int.natAbs_mul, ← Int.natAbs_mul] at h3
  have hA : 0 ≤ A := by omega
  have hB : 0 ≤ B := by omega
  have h4 := Int.mul_nonneg hA hB
  omega
theorem h4_get (h : Nat → Int) (k : Nat) (hk : k < 4) : ([h 0, h 1, h 2, h 3] : List Int).getD k 0 = h k := by
  match k, hk with
  | 0, _ => rfl
  | 1, _ => rfl
  | 2, _ => rfl
  | 3, _ => rfl
theorem tw_range (q : Int) : 0 ≤ tw q ∧ tw q ≤ 12 := by
  unfold tw
  repeat' split
  all_goals omega
theorem tw_step (q : Int) : 0 ≤ tw (q + 1) - tw q ∧ tw (q + 1) - tw q ≤ 3 := by
  unfold tw
  repeat' split
  all_goals omega
theorem tw_get (q : Int) (h0 : 0 ≤ q) (h6 : q ≤ 6) : ([0, 1, 3, 6, 9, 11, 12] : List Int).getD q.toNat 0 = tw q := by
  have : q = 0 ∨ q = 1 ∨ q = 2 ∨ q = 3 ∨ q = 4 ∨ q = 5 ∨ q = 6 := by omega
  rcases this with rfl | rfl | rfl | rfl | rfl | rfl | rfl <;> rfl

theorem t74 (t : TD) (hv : t.Valid) (h : Nat → Int) (hh : okH h) (m : Int) (hm : t.isMin m) : CallP Tryz.prog 34 [.ptr 0 0, hgt h, .int .i64 m] t.sh (Ret (.int .i64 (t.stand h m)) t.sh) := by
  have hF := TD.F_eq hv hm h
  have hS : t.stand h m = t.stand h m := rfl
  conv at hS => rhs; simp only [TD.stand]
  have hidx := TD.idx_nx hv hm
  obtain ⟨k1, k2, k3, k4, _⟩ := t.nx_spec hv hm
  obtain ⟨g1, g2, g3, g4⟩ := TD.stand_spec hv hm
  have hM := hv.1
  have hm0 := hv.marks (i := 0) (by omega)
  have hmk := hv.marks k2
  have hmk' := hv.marks (i := t.nx m - 1) (by omega)
  simp only [TD.markOk] at hm0 hmk hmk'
  refine callR (E := E) E_ok Tryz.func34 rfl ?_
  refine And.intro ?_ ?_
  · simp [AllP, under, gB, wB, inR_iff, IntKind.bits]
  refine drawP E_ok [6, 7, 8] pl34_2 (by kernel_rfl) ?_
  refine And.intro (And.intro ?_ ⟨rfl, rfl, fun b v hb1 hb0 _ => ?_⟩) trivial
  · simp [AllP, under, gB, wB, inR_iff, IntKind.bits]
  refine And.intro ?_ (And.intro rfl ?_)
  · simp [AllP, under, gB, wB, inR_iff, IntKind.bits]
  refine And.intro ?_ (And.intro (fun hc => ?_) (fun hc => ?_))
  · simp [AllP, under, gB, wB, inR_iff, IntKind.bits]
  · refine And.intro ?_ ?_
    · simp [AllP, under, gB, wB, inR_iff, IntKind.bits]
    refine ent_tau [0, 1, 2, 3, 4, 5] ⟨by (repeat' (first | exact trivial | exact rfl | exact fun _ _ => rfl | exact Or.inl rfl | refine And.intro ?_ ?_)), ⟨rfl, ?_, trivial⟩, rfl⟩
    exact congrArg (SV.int .i64) ((hb1 hc).trans hF)
  · refine And.intro ?_ ?_
    · simp [AllP, under, gB, wB, inR_iff, IntKind.bits]
    refine (t113 t.bM t.nM t.cM (by omega) t.mi t.mlo t.mhi m).use [1, 7] ?_ (by (repeat' (first | exact trivial | exact rfl | exact fun _ _ => rfl | exact Or.inl rfl | refine And.intro ?_ ?_))) rfl
    refine And.intro ?_ ?_
    · simp [AllP, under, gB, wB, inR_iff, IntKind.bits]
    rw [hidx]
    generalize hk : t.nx m = k at *
    have e1 : ((k : Int) - 1).toNat = k - 1 := by omega
    refine drawP E_ok [6, 7, 8] pl34_6 (by kernel_rfl) ?_
    refine And.intro ?_ ?_
    · simp [AllP, under, gB, wB, inR_iff, e1]
      omega
    refine And.intro rfl ?_
    refine And.intro ?_ ?_
    · simp [AllP, under, gB, wB, inR_iff, IntKind.bits]
    have e2 : t.mi (0 + ((k : Int) - 1).toNat) = t.mi (k - 1) := by rw [e1, Nat.zero_add]
    have e3 : t.mi (0 + (k : Int).toNat) = t.mi k := by rw [Int.toNat_natCast, Nat.zero_add]
    rw [e2, e3]
    generalize hfr : t.mi (k - 1) = fr at *
    generalize hlg : t.mi k - fr = lg at *
    refine drawP E_ok [6, 7, 8] pl34_7 (by kernel_rfl) ?_
    have hx0 : 0 ≤ 6 * (m - fr) := by omega
    refine And.intro ?_ ?_
    · simp only [AllP, under, gB, wB, inR_iff, and_true, true_and, List.nil_append, Option.getD_none, true_implies, forall_const]
      rw [Int.tdiv_eq_ediv_of_nonneg hx0]
      have := Int.ediv_le_self lg hx0
      have := Int.ediv_nonneg hx0 (show 0 ≤ lg by omega)
      omega
    refine And.intro rfl ?_
    rw [Int.tdiv_eq_ediv_of_nonneg hx0, Int.tmod_eq_emod_of_nonneg hx0]
    have hdm := Int.mul_ediv_add_emod (6 * (m - fr)) lg
    have hr0 := Int.emod_nonneg (6 * (m - fr)) (show lg ≠ 0 by omega)
    have hr1 := Int.emod_lt_of_pos (6 * (m - fr)) (show 0 < lg by omega)
    have hq0 := Int.ediv_nonneg hx0 (show 0 ≤ lg by omega)
    have hq6 : 6 * (m - fr) / lg ≤ 6 := Int.ediv_le_of_le_mul (by omega) (by omega)
    generalize hq : 6 * (m - fr) / lg = q at *
    generalize hr : 6 * (m - fr) % lg = r at *
    have hq5 : 0 < r → q ≤ 5 := fun h0 => by
      rcases Int.lt_or_le q 6 with h1 | h1
      · omega
      · have : q = 6 := by omega
        subst this
        omega
    have ht := tw_range q
    have hts := tw_step q
    have hb1' := mul_bd (a := tw q) (b := lg) (A := 12) (B := 240) (by omega) (by omega)
    have hb2' := mul_bd (a := tw (q + 1) - tw q) (b := r) (A := 3) (B := 240) (by omega) (by omega)
    refine And.intro ?_ ?_
    · simp only [AllP, under, gB, wB, inR_iff, and_true, true_and, List.nil_append, Option.getD_none, true_implies, forall_const]
      rw [tw_get q hq0 hq6]
      omega
    refine And.intro (fun hr => ?_) (fun hr => ?_)
    · have hr' : 0 < r := by simpa using hr
      have hq5' := hq5 hr'
      refine And.intro ?_ ?_
      · simp [AllP]
      rw [tw_get q hq0 hq6]
      refine drawP E_ok [6, 7, 8] pl34_10 (by kernel_rfl) ?_
      refine And.intro ?_ ?_
      · simp only [AllP, under, gB, wB, inR_iff, and_true, true_and, List.nil_append, Option.getD_none, true_implies, forall_const]
        rw [tw_get q hq0 hq6, tw_get (q + 1) (by omega) (by omega)]
        omega
      refine And.intro rfl ?_
      rw [tw_get q hq0 hq6, tw_get (q + 1) (by omega) (by omega)]
      refine And.intro ?_ ?_
      · simp [AllP, under, gB, wB, inR_iff, IntKind.bits]
      rw [if_pos hr'] at hS
      have hff : 0 ≤ tw q * lg + (tw (q + 1) - tw q) * r ∧ tw q * lg + (tw (q + 1) - tw q) * r ≤ 12 * lg := by
        have h1 := Int.mul_nonneg ht.1 (show 0 ≤ lg by omega)
        have h2 := Int.mul_nonneg hts.1 hr0
        have h3 : (tw (q + 1) - tw q) * r ≤ (tw (q + 1) - tw q) * lg := Int.mul_le_mul_of_nonneg_left (by omega) hts.1
        have h4 : tw q * lg + (tw (q + 1) - tw q) * lg = tw (q + 1) * lg := by rw [← Int.add_mul]; congr 1; omega
        have h5 : tw (q + 1) * lg ≤ 12 * lg := Int.mul_le_mul_of_nonneg_right (tw_range _).2 (by omega)
        omega
      generalize hf : tw q * lg + (tw (q + 1) - tw q) * r = f at *
      refine drawP E_ok [6, 7, 8] pl34_11 (by kernel_rfl) ?_
      have m1 := mul_bd (a := h (k - 1)) (b := 12 * lg - f) (A := 60) (B := 2880) (by have := hh (k - 1); omega) (by omega)
      have m2 := mul_bd (a := h k) (b := f) (A := 60) (B := 2880) (by have := hh k; omega) (by omega)
      have m3 : 0 ≤ h (k - 1) * (12 * lg - f) := Int.mul_nonneg (hh (k - 1)).1 (by omega)
      have m4 : 0 ≤ h k * f := Int.mul_nonneg (hh k).1 (by omega)
      have m5 : 0 ≤ h (k - 1) * (12 * lg - f) + h k * f := by omega
      have gk := h4_get h k (by omega)
      have gk' := h4_get h (k - 1) (by omega)
      refine And.intro (And.intro ?_ ⟨rfl, rfl, ?_, ?_⟩) trivial
      · simp only [AllP, under, gB, wB, inR_iff, and_true, true_and, List.nil_append, Option.getD_none, true_implies, forall_const]
        rw [e1, Int.toNat_natCast, gk, gk', Int.tdiv_eq_ediv_of_nonneg m5]
        have m6 := Int.ediv_le_self (12 * lg) m5
        have m7 := Int.ediv_nonneg m5 (show 0 ≤ 12 * lg by omega)
        omega
      · rw [e1, Int.toNat_natCast, gk, gk', Int.tdiv_eq_ediv_of_nonneg m5, hF, hS]
      refine And.intro ?_ (And.intro rfl ?_)
      · simp [AllP, under, gB, wB, inR_iff, IntKind.bits]
      refine And.intro ?_ ?_
      · simp [AllP, under, gB, wB, inR_iff, IntKind.bits]
      refine drawP E_ok [6, 7, 8] pl34_12 (by kernel_rfl) ?_
      refine And.intro (And.intro ?_ ⟨rfl, rfl, fun b v hb1 hb0 hb2 => ?_⟩) trivial
      · simp [AllP, under, gB, wB, inR_iff, IntKind.bits]
      have hb := hb2 (List.mem_cons_self ..)
      refine And.intro ?_ (And.intro rfl ?_)
      · simp [AllP, under, gB, wB, inR_iff, IntKind.bits]
      refine And.intro ?_ ?_
      · simp [AllP, under, gB, wB, inR_iff, IntKind.bits]
      refine ent_tau [0, 1, 2, 3, 4, 5] ⟨by (repeat' (first | exact trivial | exact rfl | exact fun _ _ => rfl | exact Or.inl rfl | refine And.intro ?_ ?_)), ⟨rfl, ?_, trivial⟩, rfl⟩
      exact congrArg (SV.int .i64) ((hb1 hb).trans hF)
    · have hr' : ¬ 0 < r := by simpa using hr
      refine And.intro ?_ ?_
      · simp [AllP]
      rw [tw_get q hq0 hq6]
      rw [if_neg hr', Int.add_zero] at hS
      have hff : 0 ≤ tw q * lg ∧ tw q * lg ≤ 12 * lg := by
        have h1 := Int.mul_nonneg ht.1 (show 0 ≤ lg by omega)
        have h5 : tw q * lg ≤ 12 * lg := Int.mul_le_mul_of_nonneg_right (tw_range _).2 (by omega)
        omega
      generalize hf : tw q * lg = f at *
      refine drawP E_ok [6, 7, 8] pl34_11 (by kernel_rfl) ?_
      have m1 := mul_bd (a := h (k - 1)) (b := 12 * lg - f) (A := 60) (B := 2880) (by have := hh (k - 1); omega) (by omega)
      have m2 := mul_bd (a := h k) (b := f) (A := 60) (B := 2880) (by have := hh k; omega) (by omega)
      have m3 : 0 ≤ h (k - 1) * (12 * lg - f) := Int.mul_nonneg (hh (k - 1)).1 (by omega)
      have m4 : 0 ≤ h k * f := Int.mul_nonneg (hh k).1 (by omega)
      have m5 : 0 ≤ h (k - 1) * (12 * lg - f) + h k * f := by omega
      have gk := h4_get h k (by omega)
      have gk' := h4_get h (k - 1) (by omega)
      refine And.intro (And.intro ?_ ⟨rfl, rfl, ?_, ?_⟩) trivial
      · simp only [AllP, under, gB, wB, inR_iff, and_true, true_and, List.nil_append, Option.getD_none, true_implies, forall_const]
        rw [e1, Int.toNat_natCast, gk, gk', Int.tdiv_eq_ediv_of_nonneg m5]
        have m6 := Int.ediv_le_self (12 * lg) m5
        have m7 := Int.ediv_nonneg m5 (show 0 ≤ 12 * lg by omega)
        omega
      · rw [e1, Int.toNat_natCast, gk, gk', Int.tdiv_eq_ediv_of_nonneg m5, hF, hS]
      refine And.intro ?_ (And.intro rfl ?_)
      · simp [AllP, under, gB, wB, inR_iff, IntKind.bits]
      refine And.intro ?_ ?_
      · simp [AllP, under, gB, wB, inR_iff, IntKind.bits]
      refine drawP E_ok [6, 7, 8] pl34_12 (by kernel_rfl) ?_
      refine And.intro (And.intro ?_ ⟨rfl, rfl, fun b v hb1 hb0 hb2 => ?_⟩) trivial
      · simp [AllP, under, gB, wB, inR_iff, IntKind.bits]
      have hb := hb2 (List.mem_cons_self ..)
      refine And.intro ?_ (And.intro rfl ?_)
      · simp [AllP, under, gB, wB, inR_iff, IntKind.bits]
      refine And.intro ?_ ?_
      · simp [AllP, under, gB, wB, inR_iff, IntKind.bits]
      refine ent_tau [0, 1, 2, 3, 4, 5] ⟨by (repeat' (first | exact trivial | exact rfl | exact fun _ _ => rfl | exact Or.inl rfl | refine And.intro ?_ ?_)), ⟨rfl, ?_, trivial⟩, rfl⟩
      exact congrArg (SV.int .i64) ((hb1 hb).trans hF)
end Go.Proofs.YtipbempkngfdbaaGreatDoor
/-
  Contract: whether a look can be so. The one function here with a part of size zero: walked by the kit's tactics.
-/
namespace Go.Proofs.YtipbempkngfdbaaGreatDoor
open Go
set_option maxRecDepth 100000
set_option maxHeartbeats 4000000
theorem byteOf159 (a b : Value) (W : World) : (byteOf { block := W.heap.size, off := 0 }).run Tryz.prog (W.alloc (.cells #[a, b] 139)) = .ok 0 (W.alloc (.cells #[a, b] 139)) := by
  have hh : (W.alloc (.cells #[a, b] 139)).heap[W.heap.size]? = some (.cells #[a, b] 139) := World.alloc_heap_new W _
  have hs : (W.alloc (.cells #[a, b] 139)).shape? W.heap.size = some (139, 2) := by
    unfold World.shape?
    rw [hh]
    rfl
  have hb : byteOfCell Tryz.prog Tryz.prog.depth 139 0 = some 0 := by kernel_rfl
  have hc : Tryz.prog.cellsOf 139 = 2 := by kernel_rfl
  unfold byteOf
  simp only [Sem.run_bind, run_program, Result.andThen_ok]
  have hv : (noView { block := W.heap.size, off := 0 }).run Tryz.prog (W.alloc (.cells #[a, b] 139)) = .ok () (W.alloc (.cells #[a, b] 139)) := by
    simp [noView, viewAt, shape, Sem.run_bind, Sem.run, hs, Result.andThen]
  rw [hv]
  simp [shape, Sem.run, hs, Result.andThen, hc, hb]
theorem partAt159 (a b : Value) (W : World) : (partAt { block := W.heap.size, off := 0 } 0 0).run Tryz.prog (W.alloc (.cells #[a, b] 139)) = .ok { block := W.heap.size, off := 0 } (W.alloc (.cells #[a, b] 139)) := by
  have := byteOf159 a b W
  simp only [partAt, Sem.run_bind, this, Result.andThen_ok, Nat.add_zero, Sem.run_pure, if_true]
theorem c138 (lo hi w s : Int) (hw : 0 ≤ w ∧ w ≤ 1000) (hs : 0 ≤ s ∧ s ≤ 1000) (W : World) : Calls Tryz.prog 122 #[.agg #[.int .i64 lo, .int .i64 hi], .int .i64 w, .int .i64 s] W fun e W' => e = .returned (.bool (inB (if w - s > 0 then w - s else 0) lo hi)) ∧ W.heap.size ≤ W'.heap.size ∧ (∀ b, b < W.heap.size → W'.heap[b]? = W.heap[b]?) ∧ Go.Sy.SameEnv W W' := by
  have hpa := partAt159 (.int .i64 lo) (.int .i64 hi) W
  go_enter Tryz.func122, Tryz.ntmps122
  go_wp2
  all_goals
    have e1 : ((W.alloc (Obj.cells #[Value.int IntKind.i64 lo, Value.int IntKind.i64 hi] 139)).alloc (Obj.cells #[] 135)).heap = (W.heap.push (Obj.cells #[Value.int IntKind.i64 lo, Value.int IntKind.i64 hi] 139)).push (Obj.cells #[] 135) := rfl
    refine bodyPost_ret (results_tmp rfl _ _ _) rfl ⟨?_, ?_, ?_, rfl, rfl⟩
    · first | rfl | (refine congrArg (fun b => Ending.returned (Value.bool b)) ?_; simp only [inB]; rw [Bool.eq_iff_iff]; simp; omega)
    · rw [e1]; simp only [Array.size_push]; omega
    · intro b hb
      rw [e1, Array.getElem?_push, Array.getElem?_push]
      simp only [Array.size_push]
      rw [if_neg (by omega), if_neg (by omega)]
open Go.Sy in
theorem callP_of_calls {P : Program} {f : Nat} {args : List SV} {vs : List Value} {v : Value} {sv : SV} (ha : ∀ η, denL η args = some vs) (hv : ∀ η, den η sv = some v)
    (h : ∀ W : World, Calls P f vs.toArray W fun e W' => e = .returned v ∧ W.heap.size ≤ W'.heap.size ∧ (∀ b, b < W.heap.size → W'.heap[b]? = W.heap[b]?) ∧ SameEnv W W') : CallP P f args [] (Ret sv []) := by
  intro η φ w0 Ef w us hs hd
  rw [ha η] at hd
  cases hd
  refine (h w).mono ?_
  rintro e w' ⟨rfl, h1, h2, h3⟩
  refine ⟨.ret sv, [], η, φ, ⟨rfl, rfl⟩, Nat.le_refl _, Pin.refl _ _, ⟨v, hv η, rfl⟩, ?_⟩
  exact { size := Nat.le_trans hs.size h1, env := hs.env.trans h3, keep := fun b hb he => (h2 b (Nat.lt_of_lt_of_le hb hs.size)).trans (hs.keep b hb he), dom := hs.dom, named := hs.named
          holds := fun i o a e => by simp at e, bnd := fun i o a b e => by simp at e, own := fun i o a b e => by simp at e, sep := fun i j oi oj ai aj b _ e => by simp at e }
open Go.Sy in
theorem t138 (lo hi w s : Int) (hw : 0 ≤ w ∧ w ≤ 1000) (hs : 0 ≤ s ∧ s ≤ 1000) : CallP Tryz.prog 122 [.agg [.int .i64 lo, .int .i64 hi], .int .i64 w, .int .i64 s] [] (Ret (.bool (inB (if w - s > 0 then w - s else 0) lo hi)) []) :=
  callP_of_calls (fun _ => rfl) (fun _ => rfl) fun W => c138 lo hi w s hw hs W
end Go.Proofs.YtipbempkngfdbaaGreatDoor
/-
  Contracts: how high the sand can lie at a place, if marks are so high.
-/
namespace Go.Proofs.YtipbempkngfdbaaGreatDoor
open Go Go.Sy
set_option linter.unusedSimpArgs false
set_option maxRecDepth 100000
set_option maxHeartbeats 4000000
attribute [local irreducible] CallP CodeP Ent YieldP

def allB (f : Nat → Bool) : Nat → Bool
  | 0 => true
  | n + 1 => allB f n && f n
theorem allB_iff {f : Nat → Bool} : ∀ {n : Nat}, allB f n = true ↔ ∀ i, i < n → f i = true
  | 0 => by simp [allB]
  | n + 1 => by
    simp only [allB, Bool.and_eq_true, allB_iff (n := n)]
    constructor
    · rintro ⟨h1, h2⟩ i hi
      rcases Nat.lt_or_ge i n with h | h
      · exact h1 i h
      · have : i = n := by omega
        subst this; exact h2
    · exact fun h => ⟨fun i hi => h i (by omega), h n (by omega)⟩
def max0 (x : Int) : Int := if x > 0 then x else 0
/-- What was seen by look i can be so, if the water stands as high as marks say, and the sand lies n high. -/
def TD.fit (t : TD) (h : Nat → Int) (i : Nat) (n : Int) : Bool := inB (max0 (t.stand h (t.lm i) - n)) (t.llo i) (t.lhi i)
/-- All looks at place p can be so. -/
def TD.ok1 (t : TD) (h : Nat → Int) (p : Nat) (n : Int) : Bool := allB (fun i => !decide (t.lp i = p) || t.fit h i n) t.nL
/-- The set of heights that the sand can have, of the first c of its span. -/
def TD.setF (t : TD) (h : Nat → Int) (p : Nat) : Nat → Int
  | 0 => 0
  | c + 1 => t.setF h p c + if t.ok1 h p (t.slo p + c) = true then 2 ^ (t.slo p + c).toNat else 0
def TD.set (t : TD) (h : Nat → Int) (p : Nat) : Int := t.setF h p (t.shi p - t.slo p + 1).toNat

theorem t137 (w s : Int) : CallP Tryz.prog 121 [.agg [], .int .i64 w, .int .i64 s] [] (Ret (.bool true) []) := by
  refine callR (E := E) E_ok Tryz.func121 rfl ?_
  refine And.intro ?_ ?_
  · simp [AllP, under, gB, wB, inR_iff, IntKind.bits]
  exact ent_tau [] ⟨by (repeat' (first | exact trivial | exact rfl | exact fun _ _ => rfl | exact Or.inl rfl | refine And.intro ?_ ?_)), by (repeat' (first | exact trivial | exact rfl | exact congrArg (SV.int .i64) (Int.natCast_succ _).symm | refine And.intro ?_ ?_)), rfl⟩
theorem t63 (t : TD) (hv : t.Valid) : CallP Tryz.prog 61 [.ptr 0 0] t.sh (Ret (.int .u64 (2 ^ t.nL - 1)) t.sh) := by
  have hL := hv.2.2.1
  have h6 : (2 : Int) ^ t.nL ≤ 64 := by
    have : (2 : Nat) ^ t.nL ≤ 2 ^ 6 := Nat.pow_le_pow_right (by omega) hL
    exact_mod_cast this
  have h0 : (0 : Int) < 2 ^ t.nL := by
    have : (0 : Nat) < 2 ^ t.nL := Nat.pow_pos (by omega)
    exact_mod_cast this
  refine callR (E := E) E_ok Tryz.func61 rfl ?_
  refine And.intro ?_ ?_
  · simp only [AllP, under, gB, wB, InR, and_true, true_and, List.nil_append, Option.getD_none, true_implies, forall_const, Int.toNat_natCast, Int.one_mul]
    have : (t.nL : Int) < (IntKind.u64.bits : Int) := by show (t.nL : Int) < 64; omega
    omega
  refine ent_tau [0, 1, 2, 3, 4, 5] ⟨by (repeat' (first | exact trivial | exact rfl | exact fun _ _ => rfl | exact Or.inl rfl | refine And.intro ?_ ?_)), ⟨rfl, ?_, trivial⟩, rfl⟩
  simp [ren]
theorem every_bit : ∀ n, n < 7 → ∀ i, i < n → bitOp .and .u64 (((2 : Int) ^ n - 1).fdiv (2 ^ i)) 1 = 1 := by decide
theorem or_bit (a : Int) (k : Nat) (h0 : 0 ≤ a) (h1 : a < 2 ^ k) (hk : k < 64) : bitOp .or .u64 a (2 ^ k) = a + 2 ^ k := by
  obtain ⟨b, rfl⟩ := Int.eq_ofNat_of_zero_le h0
  have hb : b < 2 ^ k := by exact_mod_cast h1
  have hk2 : 2 ^ k < 2 ^ 64 := Nat.pow_lt_pow_right (by omega) hk
  have hk3 : 2 ^ (k + 1) ≤ 2 ^ 64 := Nat.pow_le_pow_right (by omega) (by omega)
  have hor : b ||| 2 ^ k = 2 ^ k + b := by
    have := Nat.two_pow_add_eq_or_of_lt hb 1
    rw [Nat.mul_one] at this
    rw [this, Nat.or_comm]
  have e1 : ((BitVec.ofInt 64 (b : Int)) ||| (BitVec.ofInt 64 ((2 : Int) ^ k))).toNat = 2 ^ k + b := by
    have e2 : ((2 : Int) ^ k) = ((2 ^ k : Nat) : Int) := by norm_cast
    rw [e2, BitVec.ofInt_natCast, BitVec.ofInt_natCast, BitVec.toNat_or, BitVec.toNat_ofNat, BitVec.toNat_ofNat, Nat.mod_eq_of_lt (by omega), Nat.mod_eq_of_lt hk2, hor]
  show IntKind.u64.wrap _ = _
  have e3 : ((BitVec.ofInt IntKind.u64.bits (b : Int)) ||| (BitVec.ofInt IntKind.u64.bits ((2 : Int) ^ k))).toNat = 2 ^ k + b := e1
  rw [e3]
  have e4 : ((2 ^ k + b : Nat) : Int) = (b : Int) + 2 ^ k := by push_cast; omega
  rw [e4, wrap_in]
  show 0 ≤ _ ∧ _ ≤ (18446744073709551615 : Int)
  have : (2 ^ k + b : Nat) < 2 ^ 64 := by rw [Nat.pow_succ] at hk3; omega
  omega
theorem setF_lt (t : TD) (h : Nat → Int) (p : Nat) (h0 : 0 ≤ t.slo p) : ∀ c : Nat, 0 ≤ t.setF h p c ∧ t.setF h p c < 2 ^ (t.slo p + c).toNat
  | 0 => by
    have : (0 : Nat) < 2 ^ (t.slo p + (0 : Nat)).toNat := Nat.pow_pos (by omega)
    refine ⟨Int.le_refl _, ?_⟩
    simp only [TD.setF]
    exact_mod_cast this
  | c + 1 => by
    obtain ⟨h1, h2⟩ := setF_lt t h p h0 c
    have e : (t.slo p + ((c + 1 : Nat) : Int)).toNat = (t.slo p + c).toNat + 1 := by omega
    rw [e, Int.pow_succ]
    simp only [TD.setF]
    have : (0 : Int) ≤ 2 ^ (t.slo p + c).toNat := by omega
    split <;> omega

theorem t106 (t : TD) (hv : t.Valid) (h : Nat → Int) (hh : okH h) (hst : ∀ i, i < t.nL → 0 ≤ t.stand h (t.lm i) ∧ t.stand h (t.lm i) ≤ 60) (p : Nat) (hp : p < t.nS) :
    CallP Tryz.prog 93 [.ptr 0 0, hgt h, .int .i64 p, .int .u64 (2 ^ t.nL - 1)] t.sh (Ret (.int .u64 (t.set h p)) t.sh) := by
  have hS := hv.2.1
  have hL := hv.2.2.1
  have hsp := hv.2.2.2.2.1 p hp
  simp only [TD.sandOk] at hsp
  have ep : (0 + (p : Int).toNat) = p := by omega
  refine callR (E := E) E_ok Tryz.func93 rfl ?_
  refine And.intro ?_ ?_
  · simp [AllP, under, gB, wB, inR_iff, IntKind.bits]
    omega
  rw [ep]
  refine loopP E_ok [0, 2, 3, 5] (fun c : Nat => [(8, .int .u64 (t.setF h p c)), (9, .int .i64 (t.slo p + c))]) (fun _ H => H) (fun c => t.slo p + c ≤ t.shi p + 1) (fun c => (t.shi p + 1 - t.slo p - c).toNat) 0 (by omega) ?_ ?_
  · refine ent_tau [0, 1, 2, 3, 4, 5, 6] ⟨by (repeat' (first | exact trivial | exact rfl | exact fun _ _ => rfl | exact Or.inl rfl | refine And.intro ?_ ?_)), ?_, rfl⟩
    (repeat' (first | exact trivial | exact rfl | exact congrArg (SV.int .i64) (Int.natCast_succ _).symm | refine And.intro ?_ ?_))
    exact congrArg (SV.int .i64) (by simp)
  · intro c hc
    refine And.intro ?_ (And.intro (fun hn => ?_) (fun hn => ?_))
    · simp [AllP, under, gB, wB, inR_iff, IntKind.bits]
      omega
    · rw [ep] at hn
      have hn' : t.slo p + c ≤ t.shi p := by simpa using hn
      refine And.intro ?_ ?_
      · simp [AllP, under, gB, wB, inR_iff, IntKind.bits]
      refine loopP E_ok [0, 2, 3, 5, 8, 9, 40, 41] (fun i : Nat => [(10, .bool (allB (fun i => !decide (t.lp i = p) || t.fit h i (t.slo p + c)) i)), (42, .int .i64 i)]) (fun _ H => H) (fun i => i ≤ t.nL) (fun i => t.nL - i) 0 (Nat.zero_le _) ?_ ?_
      · exact ent_tau [0, 1, 2, 3, 4, 5, 6] ⟨by (repeat' (first | exact trivial | exact rfl | exact fun _ _ => rfl | exact Or.inl rfl | refine And.intro ?_ ?_)), by (repeat' (first | exact trivial | exact rfl | exact congrArg (SV.int .i64) (Int.natCast_succ _).symm | refine And.intro ?_ ?_)), rfl⟩
      · intro i hi
        refine And.intro ?_ (And.intro (fun hlt => ?_) (fun hlt => ?_))
        · simp [AllP, under, gB, wB, inR_iff, IntKind.bits]
        · have hlt' : i < t.nL := by simpa using hlt
          have ei : (0 + (i : Int).toNat) = i := by omega
          refine And.intro ?_ (And.intro (fun hx => ?_) (fun hx => ?_))
          · simp [AllP, under, gB, wB, inR_iff, IntKind.bits]
            omega
          · rw [ei] at hx ⊢
            have hxp : t.lp i = p := by
              by_cases hq : t.lp i = p
              · exact hq
              · simp [hq] at hx
            have hmin : t.isMin (t.lm i) := (hv.2.2.2.2.2 i hlt').2.1
            refine And.intro ?_ ?_
            · simp [AllP, under, gB, wB, inR_iff, IntKind.bits]
            refine drawP E_ok [6, 7] pl93_11 (by kernel_rfl) ?_
            refine And.intro (And.intro ?_ (And.intro (fun hf => ?_) (fun hf => ?_))) trivial
            · simp [AllP, under, gB, wB, inR_iff, IntKind.bits]
            · refine (t74 t hv h hh (t.lm i) hmin).use [0, 1, 2, 3, 4, 5] ?_ (by (repeat' (first | exact trivial | exact rfl | exact fun _ _ => rfl | exact Or.inl rfl | refine And.intro ?_ ?_))) rfl
              refine And.intro (And.intro ?_ (And.intro (fun hf2 => ?_) (fun hf2 => ?_))) trivial
              · simp [AllP, under, gB, wB, inR_iff, IntKind.bits]
              · refine (t138 (t.llo i) (t.lhi i) (t.stand h (t.lm i)) (t.slo p + c) (by have := hst i hlt'; omega) (by omega)).use [] ?_ (by (repeat' (first | exact trivial | exact rfl | exact fun _ _ => rfl | exact Or.inl rfl | refine And.intro ?_ ?_))) rfl
                refine And.intro ?_ (And.intro rfl ?_)
                · simp [AllP, under, gB, wB, inR_iff, IntKind.bits]
                refine And.intro ?_ ⟨i + 1, hlt', by omega, ?_⟩
                · simp [AllP, under, gB, wB, inR_iff, IntKind.bits]
                  omega
                refine ent_tau [0, 1, 2, 3, 4, 5, 6] ⟨by (repeat' (first | exact trivial | exact rfl | exact fun _ _ => rfl | exact Or.inl rfl | refine And.intro ?_ ?_)), ?_, rfl⟩
                (repeat' (first | exact trivial | exact rfl | exact congrArg (SV.int .i64) (Int.natCast_succ _).symm | refine And.intro ?_ ?_))
                refine congrArg SV.bool ?_
                have hf' : allB (fun i => !decide (t.lp i = p) || t.fit h i (t.slo p + c)) i = true := by simpa [gB, wB] using hf
                simp [allB, hf', hxp, TD.fit, max0, gB, wB]
              · exact absurd (hf.symm.trans hf2) (by simp)
            · refine And.intro (And.intro ?_ (And.intro (fun hf2 => ?_) (fun hf2 => ?_))) trivial
              · simp [AllP, under, gB, wB, inR_iff, IntKind.bits]
                simpa [gB, wB] using hf
              · exact absurd (hf.symm.trans hf2) (by simp)
              · refine And.intro ?_ (And.intro rfl ?_)
                · simp [AllP, under, gB, wB, inR_iff, IntKind.bits]
                  simpa [gB, wB] using hf
                refine And.intro ?_ ⟨i + 1, hlt', by omega, ?_⟩
                · simp [AllP, under, gB, wB, inR_iff, IntKind.bits]
                  omega
                refine ent_tau [0, 1, 2, 3, 4, 5, 6] ⟨by (repeat' (first | exact trivial | exact rfl | exact fun _ _ => rfl | exact Or.inl rfl | refine And.intro ?_ ?_)), ?_, rfl⟩
                (repeat' (first | exact trivial | exact rfl | exact congrArg (SV.int .i64) (Int.natCast_succ _).symm | refine And.intro ?_ ?_))
                refine congrArg SV.bool ?_
                have hf' : allB (fun i => !decide (t.lp i = p) || t.fit h i (t.slo p + c)) i = false := by simpa [gB, wB] using hf
                simp [allB, hf', gB, wB]

          · rw [ei] at hx ⊢
            have hbit := every_bit t.nL (by omega) i hlt'
            have hxp : ¬ t.lp i = p := fun hq => by
              simp [hq, hbit] at hx
            have hmin : t.isMin (t.lm i) := (hv.2.2.2.2.2 i hlt').2.1
            refine And.intro ?_ ?_
            · simp [AllP, under, gB, wB, inR_iff, IntKind.bits]
            refine drawP E_ok [6, 7] pl93_11 (by kernel_rfl) ?_
            refine And.intro (And.intro ?_ (And.intro (fun hf => ?_) (fun hf => ?_))) trivial
            · simp [AllP, under, gB, wB, inR_iff, IntKind.bits]
            · refine (t74 t hv h hh (t.lm i) hmin).use [0, 1, 2, 3, 4, 5] ?_ (by (repeat' (first | exact trivial | exact rfl | exact fun _ _ => rfl | exact Or.inl rfl | refine And.intro ?_ ?_))) rfl
              refine And.intro (And.intro ?_ (And.intro (fun hf2 => ?_) (fun hf2 => ?_))) trivial
              · simp [AllP, under, gB, wB, inR_iff, IntKind.bits]
              · refine (t137 _ _).use [] ?_ (by (repeat' (first | exact trivial | exact rfl | exact fun _ _ => rfl | exact Or.inl rfl | refine And.intro ?_ ?_))) rfl
                refine And.intro ?_ (And.intro rfl ?_)
                · simp [AllP, under, gB, wB, inR_iff, IntKind.bits]
                refine And.intro ?_ ⟨i + 1, hlt', by omega, ?_⟩
                · simp [AllP, under, gB, wB, inR_iff, IntKind.bits]
                  omega
                refine ent_tau [0, 1, 2, 3, 4, 5, 6] ⟨by (repeat' (first | exact trivial | exact rfl | exact fun _ _ => rfl | exact Or.inl rfl | refine And.intro ?_ ?_)), ?_, rfl⟩
                (repeat' (first | exact trivial | exact rfl | exact congrArg (SV.int .i64) (Int.natCast_succ _).symm | refine And.intro ?_ ?_))
                refine congrArg SV.bool ?_
                have hf' : allB (fun i => !decide (t.lp i = p) || t.fit h i (t.slo p + c)) i = true := by simpa [gB, wB] using hf
                simp [allB, hf', hxp, gB, wB]
              · exact absurd (hf.symm.trans hf2) (by simp)
            · refine And.intro (And.intro ?_ (And.intro (fun hf2 => ?_) (fun hf2 => ?_))) trivial
              · simp [AllP, under, gB, wB, inR_iff, IntKind.bits]
                simpa [gB, wB] using hf
              · exact absurd (hf.symm.trans hf2) (by simp)
              · refine And.intro ?_ (And.intro rfl ?_)
                · simp [AllP, under, gB, wB, inR_iff, IntKind.bits]
                  simpa [gB, wB] using hf
                refine And.intro ?_ ⟨i + 1, hlt', by omega, ?_⟩
                · simp [AllP, under, gB, wB, inR_iff, IntKind.bits]
                  omega
                refine ent_tau [0, 1, 2, 3, 4, 5, 6] ⟨by (repeat' (first | exact trivial | exact rfl | exact fun _ _ => rfl | exact Or.inl rfl | refine And.intro ?_ ?_)), ?_, rfl⟩
                (repeat' (first | exact trivial | exact rfl | exact congrArg (SV.int .i64) (Int.natCast_succ _).symm | refine And.intro ?_ ?_))
                refine congrArg SV.bool ?_
                have hf' : allB (fun i => !decide (t.lp i = p) || t.fit h i (t.slo p + c)) i = false := by simpa [gB, wB] using hf
                simp [allB, hf', gB, wB]

        · have hiL : i = t.nL := by
            have : ¬ (i < t.nL) := by simpa using hlt
            omega
          subst hiL
          refine And.intro ?_ ?_
          · simp [AllP, under, gB, wB, inR_iff, IntKind.bits]
          refine And.intro trivial ?_
          have hset := setF_lt t h p hsp.1.1 c
          have hp0 : (0 : Int) < 2 ^ (t.slo p + c).toNat := by
            have : (0 : Nat) < 2 ^ (t.slo p + c).toNat := Nat.pow_pos (by omega)
            exact_mod_cast this
          have hp1 : (2 : Int) ^ (t.slo p + c).toNat ≤ 2 ^ 60 := by
            have : (2 : Nat) ^ (t.slo p + c).toNat ≤ 2 ^ 60 := Nat.pow_le_pow_right (by omega) (by omega)
            exact_mod_cast this
          have e60 : (2 : Int) ^ 60 = 1152921504606846976 := by decide
          rw [e60] at hp1
          refine And.intro (fun hf => ?_) (fun hf => ?_)
          · refine And.intro ?_ ⟨c + 1, by omega, by omega, ?_⟩
            · simp only [AllP, under, gB, wB, InR, IntKind.bits, and_true, true_and, List.nil_append, Option.getD_none, true_implies, forall_const, Int.one_mul]
              omega
            · refine ent_tau [0, 1, 2, 3, 4, 5, 6] ⟨by (repeat' (first | exact trivial | exact rfl | exact fun _ _ => rfl | exact Or.inl rfl | refine And.intro ?_ ?_)), ?_, rfl⟩
              (repeat' (first | exact trivial | exact rfl | exact congrArg (SV.int .i64) (Int.natCast_succ _).symm | refine And.intro ?_ ?_))
              · refine congrArg (SV.int .u64) ?_
                rw [Int.one_mul, or_bit _ _ hset.1 hset.2 (by omega)]
                have hok : t.ok1 h p (t.slo p + c) = true := hf
                simp only [TD.setF]
                rw [if_pos hok]
              · refine congrArg (SV.int .i64) ?_
                push_cast
                omega
          · refine And.intro ?_ ⟨c + 1, by omega, by omega, ?_⟩
            · simp only [AllP, under, gB, wB, InR, IntKind.bits, and_true, true_and, List.nil_append, Option.getD_none, true_implies, forall_const]
              omega
            · refine ent_tau [0, 1, 2, 3, 4, 5, 6] ⟨by (repeat' (first | exact trivial | exact rfl | exact fun _ _ => rfl | exact Or.inl rfl | refine And.intro ?_ ?_)), ?_, rfl⟩
              (repeat' (first | exact trivial | exact rfl | exact congrArg (SV.int .i64) (Int.natCast_succ _).symm | refine And.intro ?_ ?_))
              · refine congrArg (SV.int .u64) ?_
                have hok : t.ok1 h p (t.slo p + c) = false := hf
                simp only [TD.setF]
                rw [if_neg (by simp [hok])]
                simp
              · refine congrArg (SV.int .i64) ?_
                push_cast
                omega
    · rw [ep] at hn
      have hn' : ¬ (t.slo p + c ≤ t.shi p) := by simpa using hn
      refine And.intro ?_ ?_
      · simp [AllP, under, gB, wB, inR_iff, IntKind.bits]
      refine And.intro trivial ?_
      refine ent_tau [0, 1, 2, 3, 4, 5] ⟨by (repeat' (first | exact trivial | exact rfl | exact fun _ _ => rfl | exact Or.inl rfl | refine And.intro ?_ ?_)), ⟨rfl, ?_, trivial⟩, rfl⟩
      refine congrArg (SV.int .u64) ?_
      show t.setF h p c = t.set h p
      rw [TD.set, show (t.shi p - t.slo p + 1).toNat = c by omega]
end Go.Proofs.YtipbempkngfdbaaGreatDoor
/-
  All truths of a tide, as plain lists; how high water stands between its marks.
-/
namespace Go.Proofs.YtipbempkngfdbaaGreatDoor
open Go Go.Sy
set_option linter.unusedSimpArgs false
set_option maxRecDepth 100000
set_option maxHeartbeats 4000000
attribute [local irreducible] CallP CodeP Ent YieldP

/-- How high marks are, and for each place the set of heights of sand. -/
structure Tr where
  h : Nat → Int
  s : Nat → Int
def trow (x : Tr) : List SV := [.int .i64 (x.h 0), .int .i64 (x.h 1), .int .i64 (x.h 2), .int .i64 (x.h 3), .int .u64 (x.s 0), .int .u64 (x.s 1), .int .u64 (x.s 2), .int .u64 (x.s 3)]
def TD.tr (t : TD) (h : Nat → Int) : Tr := ⟨h, fun p => if p < t.nS then t.set h p else 0⟩
def catF (f : Int → List Tr) (lo : Int) : Nat → List Tr
  | 0 => []
  | c + 1 => catF f lo c ++ f (lo + c)
/-- All truths with these heights of the first marks; r marks are left. -/
def TD.tls (t : TD) : Nat → (Nat → Int) → List Tr
  | 0, h => if allB (fun p => !decide (t.set h p = 0)) t.nS = true then [t.tr h] else []
  | r + 1, h => catF (fun n => t.tls r (upd h (t.nM - (r + 1)) n)) (t.mlo (t.nM - (r + 1))) (t.mhi (t.nM - (r + 1)) - t.mlo (t.nM - (r + 1)) + 1).toNat
def TD.all (t : TD) : List Tr := t.tls t.nM (fun _ => 0)

theorem okH_upd {h : Nat → Int} (hh : okH h) {k : Nat} {x : Int} (hx : 0 ≤ x ∧ x ≤ 60) : okH (upd h k x) := fun i => by
  simp only [upd]
  split
  · exact hx
  · exact hh i

theorem stand_range {t : TD} (hv : t.Valid) {m : Int} (hm : t.isMin m) {h : Nat → Int} (hh : okH h) : 0 ≤ t.stand h m ∧ t.stand h m ≤ 60 := by
  obtain ⟨g1, g2, g3, g4⟩ := TD.stand_spec hv hm
  simp only [TD.stand]
  generalize t.mi (t.nx m) - t.mi (t.nx m - 1) = lg at *
  generalize m - t.mi (t.nx m - 1) = d at *
  have hx0 : 0 ≤ 6 * d := by omega
  have hdm := Int.mul_ediv_add_emod (6 * d) lg
  have hr0 := Int.emod_nonneg (6 * d) (show lg ≠ 0 by omega)
  have hr1 := Int.emod_lt_of_pos (6 * d) (show 0 < lg by omega)
  have hq0 := Int.ediv_nonneg hx0 (show 0 ≤ lg by omega)
  have hq6 : 6 * d / lg ≤ 6 := Int.ediv_le_of_le_mul (by omega) (by omega)
  generalize 6 * d / lg = q at *
  generalize 6 * d % lg = r at *
  have ht := tw_range q
  have hts := tw_step q
  have hff : 0 ≤ tw q * lg + (if 0 < r then (tw (q + 1) - tw q) * r else 0) ∧ tw q * lg + (if 0 < r then (tw (q + 1) - tw q) * r else 0) ≤ 12 * lg := by
    have h1 := Int.mul_nonneg ht.1 (show 0 ≤ lg by omega)
    have h5 : tw q * lg ≤ 12 * lg := Int.mul_le_mul_of_nonneg_right (tw_range _).2 (by omega)
    split
    · have h2 := Int.mul_nonneg hts.1 hr0
      have h3 : (tw (q + 1) - tw q) * r ≤ (tw (q + 1) - tw q) * lg := Int.mul_le_mul_of_nonneg_left (by omega) hts.1
      have h4 : tw q * lg + (tw (q + 1) - tw q) * lg = tw (q + 1) * lg := by rw [← Int.add_mul]; congr 1; omega
      have h5 : tw (q + 1) * lg ≤ 12 * lg := Int.mul_le_mul_of_nonneg_right (tw_range _).2 (by omega)
      omega
    · omega
  generalize tw q * lg + (if 0 < r then (tw (q + 1) - tw q) * r else 0) = f at *
  have a1 := hh (t.nx m - 1)
  have a2 := hh (t.nx m)
  have m1 := Int.mul_nonneg a1.1 (show 0 ≤ 12 * lg - f by omega)
  have m2 := Int.mul_nonneg a2.1 hff.1
  have m3 : h (t.nx m - 1) * (12 * lg - f) ≤ 60 * (12 * lg - f) := Int.mul_le_mul_of_nonneg_right a1.2 (by omega)
  have m4 : h (t.nx m) * f ≤ 60 * f := Int.mul_le_mul_of_nonneg_right a2.2 hff.1
  refine ⟨Int.ediv_nonneg (by omega) (by omega), ?_⟩
  have : h (t.nx m - 1) * (12 * lg - f) + h (t.nx m) * f ≤ 60 * (12 * lg) := by
    have : 60 * (12 * lg - f) + 60 * f = 60 * (12 * lg) := by omega
    omega
  exact Int.ediv_le_of_le_mul (by omega) this

/-- What truths bear. -/
def goodTr (_ : TD) (x : Tr) : Prop := okH x.h ∧ ∀ p, 0 ≤ x.s p ∧ x.s p < 2 ^ 61
theorem set_range {t : TD} (hv : t.Valid) {h : Nat → Int} {p : Nat} (hp : p < t.nS) : 0 ≤ t.set h p ∧ t.set h p < 2 ^ 61 := by
  have hs := hv.2.2.2.2.1 p hp
  simp only [TD.sandOk] at hs
  obtain ⟨h1, h2⟩ := setF_lt t h p hs.1.1 (t.shi p - t.slo p + 1).toNat
  refine ⟨h1, Int.lt_of_lt_of_le h2 ?_⟩
  have : (2 : Nat) ^ (t.slo p + ((t.shi p - t.slo p + 1).toNat : Int)).toNat ≤ 2 ^ 61 := Nat.pow_le_pow_right (by omega) (by omega)
  exact_mod_cast this
theorem good_tr {t : TD} (hv : t.Valid) {h : Nat → Int} (hh : okH h) : goodTr t (t.tr h) := ⟨hh, fun p => by
  simp only [TD.tr]
  split
  · rename_i hp; exact set_range hv hp
  · exact ⟨Int.le_refl _, by decide⟩⟩
theorem catF_mem {f : Int → List Tr} {lo : Int} {x : Tr} : ∀ {c : Nat}, x ∈ catF f lo c → ∃ j, j < c ∧ x ∈ f (lo + (j : Nat))
  | 0, h => by simp [catF] at h
  | c + 1, h => by
    simp only [catF, List.mem_append] at h
    rcases h with h | h
    · obtain ⟨j, hj, hx⟩ := catF_mem h
      exact ⟨j, by omega, hx⟩
    · exact ⟨c, by omega, h⟩
theorem catF_len {f : Int → List Tr} {lo : Int} {B : Nat} (hB : ∀ n, (f n).length ≤ B) : ∀ {c : Nat}, (catF f lo c).length ≤ c * B
  | 0 => by simp [catF]
  | c + 1 => by
    simp only [catF, List.length_append]
    have h1 := catF_len hB (lo := lo) (c := c)
    have h2 := hB (lo + c)
    have : (c + 1) * B = c * B + B := by rw [Nat.add_mul, Nat.one_mul]
    omega
theorem tls_len {t : TD} (hv : t.Valid) : ∀ (r : Nat) (h : Nat → Int), r ≤ t.nM → (t.tls r h).length ≤ 3 ^ r
  | 0, h, _ => by
    simp only [TD.tls]
    split <;> simp
  | r + 1, h, hr => by
    simp only [TD.tls]
    have hm := hv.marks (i := t.nM - (r + 1)) (by omega)
    simp only [TD.markOk] at hm
    have h1 := catF_len (f := fun n => t.tls r (upd h (t.nM - (r + 1)) n)) (lo := t.mlo (t.nM - (r + 1))) (B := 3 ^ r) (fun n => tls_len hv r _ (by omega)) (c := (t.mhi (t.nM - (r + 1)) - t.mlo (t.nM - (r + 1)) + 1).toNat)
    have h2 : (t.mhi (t.nM - (r + 1)) - t.mlo (t.nM - (r + 1)) + 1).toNat * 3 ^ r ≤ 3 * 3 ^ r := Nat.mul_le_mul_right _ (by omega)
    rw [Nat.pow_succ]
    omega
theorem all_len {t : TD} (hv : t.Valid) : t.all.length ≤ 81 := by
  have h1 := tls_len hv t.nM (fun _ => 0) (Nat.le_refl _)
  have h2 : 3 ^ t.nM ≤ 3 ^ 4 := Nat.pow_le_pow_right (by omega) hv.1.2
  have : t.all.length ≤ 3 ^ t.nM := h1
  omega
end Go.Proofs.YtipbempkngfdbaaGreatDoor
/-
  One round of the loop in which truths are gathered into a slice.
-/
namespace Go.Proofs.YtipbempkngfdbaaGreatDoor
open Go Go.Sy
set_option linter.unusedSimpArgs false
set_option maxRecDepth 100000
set_option maxHeartbeats 4000000
attribute [local irreducible] CallP CodeP Ent YieldP

/-- The loop over a function in a piece of code: its parameters, assignments and body. -/
def findRF : Code → Option (Array Nat × Code × Code)
  | .rangeFunc _ ps a b => some (ps, a, b)
  | .seq a b => match findRF a with
    | some r => some r
    | none => findRF b
  | .block _ c => findRF c
  | .loop c => findRF c
  | .scope c => findRF c
  | _ => none
noncomputable def asOf (f : Func) : Code := match f.body with
  | some c => match findRF c with
    | some r => r.2.1
    | none => .skip
  | none => .skip
noncomputable def bodyOf (f : Func) : Code := match f.body with
  | some c => match findRF c with
    | some r => r.2.2
    | none => .skip
  | none => .skip

def trv (x : Tr) : SV := .agg [.int .i64 (x.h 0), .int .i64 (x.h 1), .int .i64 (x.h 2), .int .i64 (x.h 3), .int .u64 (x.s 0), .int .u64 (x.s 1), .int .u64 (x.s 2), .int .u64 (x.s 3)]
/-- The record of the loop in slices.AppendSeq; the slice lies in block i. -/
noncomputable def L118 (i : Nat) : SObj := .loopr [none, none, some (.ptr i 0), none, none, none, none, none, none, none, none, none, none] #[7] (asOf Tryz.f101) (bodyOf Tryz.f101) .ready none
def tr0 : Tr := ⟨fun _ => 0, fun _ => 0⟩
def rows (g : List Tr) (k : Nat) : List SV := trow (g.getD k tr0)
noncomputable def V118 (g : List Tr) : SObj := .vec 8 g.length (rows g)

theorem rows_app (g : List Tr) (x : Tr) (k : Nat) (hk : k < g.length) : rows (g ++ [x]) k = rows g k := by
  simp [rows, List.getD_eq_getElem?_getD, List.getElem?_append, hk]
theorem rows_last (g : List Tr) (x : Tr) : rows (g ++ [x]) g.length = trow x := by
  simp [rows, List.getD_eq_getElem?_getD]

theorem y118 (g : List Tr) (x : Tr) (hg : g.length ≤ 1000) : YieldP Tryz.prog 0 [trv x] [some (L118 1), some (V118 g)] (Ret (.bool true) [some (L118 1), some (V118 (g ++ [x]))]) := by
  refine YieldP.ent (YieldP.openVec (i := 1) rfl (fun h0 => ?_) (fun h0 cap hc1 hc2 => ?_))
  · have hnil : g = [] := List.eq_nil_of_length_eq_zero h0
    subst hnil
    refine roundP E_ok rfl rfl fun l => ?_
    refine And.intro ?_ ?_
    · simp [AllP, gObs, ldG, under, gB, wB, ti64]
    intro cap hc1 hc2
    have hc1 : 1 ≤ cap := hc1
    refine And.intro ?_ ?_
    · simp [AllP, gObs, ldG, under, gB, wB, ti64]
    refine ⟨_, _, ⟨rfl, rfl⟩, ?_⟩
    refine Ent.trans (ent_tau (t := ⟨[some (none, .bool true)], [some (L118 1), some (.cells [.slice 2 8 0 1 cap]), some (.arr 8 1 cap (rows [x]))], []⟩) [0, 1, 4] ⟨?_, by (repeat' (first | exact trivial | exact rfl | exact congrArg (SV.int .i64) (Int.natCast_succ _).symm | refine And.intro ?_ ?_)), rfl⟩) ?_
    · (repeat' (first | exact trivial | exact rfl | exact fun _ _ => rfl | exact Or.inl rfl | refine And.intro ?_ ?_))
      intro k hk
      have hk : k < 1 := hk
      have : k = 0 := by omega
      subst this
      rfl
    refine Ent.trans (vecClose (i := 1) (j := 2) rfl rfl (by omega) hc2) ?_
    exact ent_tau [0, 1] ⟨by (repeat' (first | exact trivial | exact rfl | exact fun _ _ => rfl | exact Or.inl rfl | refine And.intro ?_ ?_)), by (repeat' (first | exact trivial | exact rfl | exact congrArg (SV.int .i64) (Int.natCast_succ _).symm | refine And.intro ?_ ?_)), rfl⟩
  · refine roundP E_ok rfl rfl fun l => ?_
    refine And.intro ?_ ?_
    · refine ⟨Nat.le_refl _, Nat.le_refl _, Nat.le_refl _, ?_, fun k hk => ?_, hc2, trivial⟩
      · show (g.length + 1) * 64 ≤ 140737488355328
        omega
      · have : k = 0 := by omega
        subst this
        rfl
    intro cap' hc1' hc2'
    have hc1' : g.length + 1 ≤ cap' := hc1'
    refine And.intro ?_ ?_
    · simp [AllP, gObs, ldG, under, gB, wB, ti64]
    refine ⟨_, _, ⟨rfl, rfl⟩, ?_⟩
    refine Ent.trans (ent_tau (t := ⟨[some (none, .bool true)], [some (L118 1), some (.cells [.slice 2 8 0 (g.length + 1) cap']), some (.arr 8 (g.length + 1) cap' (rows (g ++ [x])))], []⟩) [0, 1, 5] ⟨?_, by (repeat' (first | exact trivial | exact rfl | exact congrArg (SV.int .i64) (Int.natCast_succ _).symm | refine And.intro ?_ ?_)), rfl⟩) ?_
    · (repeat' (first | exact trivial | exact rfl | exact fun _ _ => rfl | exact Or.inl rfl | refine And.intro ?_ ?_))
      intro k hk
      have hk : k < g.length + 1 := hk
      rcases Nat.lt_or_ge k g.length with h1 | h1
      · rw [rows_app g x k h1]
        show selL (decide (k < g.length)) (rows g k) _ = _
        rw [decide_eq_true h1, selL_true]
        rfl
      · have : k = g.length := by omega
        subst this
        rw [rows_last]
        show selL (decide (g.length < g.length)) (rows g g.length) _ = _
        rw [decide_eq_false (by omega), selL_false, Nat.sub_self]
        rfl
    refine Ent.trans (vecClose (i := 1) (j := 2) rfl rfl (by omega) hc2') ?_
    refine ent_tau [0, 1] ⟨?_, by (repeat' (first | exact trivial | exact rfl | exact congrArg (SV.int .i64) (Int.natCast_succ _).symm | refine And.intro ?_ ?_)), rfl⟩
    (repeat' (first | exact trivial | exact rfl | exact fun _ _ => rfl | exact Or.inl rfl | refine And.intro ?_ ?_))
    simp
end Go.Proofs.YtipbempkngfdbaaGreatDoor
