/-
  Parts: D4, F4, D9, C7, C9, F8, R1, R2, G3.
-/
import Derived.Test.YtipbempkngfdbaaDoorK23
import Derived.Test.YtipbempkngfdbaaDoorK19
import Derived.Test.YtipbempkngfdbaaDoorK20
import Derived.Test.YtipbempkngfdbaaDoorK22
set_option linter.unusedVariables false
/-
  The plain law of Clash.
-/
namespace Go.Proofs.YtipbempkngfdbaaDoor
open Go Go.Sy
set_option maxRecDepth 100000
set_option maxHeartbeats 4000000

/-- A tide with some of its looks. -/
def TD.byL (t : TD) (L : List Nat) (b : Bool) (c : Nat) : TD :=
  { t with nL := L.length, bL := b, cL := c, lp := fun m => t.lp (L.getD m 0), lm := fun m => t.lm (L.getD m 0), llo := fun m => t.llo (L.getD m 0), lhi := fun m => t.lhi (L.getD m 0) }
theorem sub_byL (t : TD) (so : Int) : t.sub so = t.byL (keptL so t.nL) true t.nL := rfl
def TD.fitsL (t : TD) (L : List Nat) (h s : Nat → Int) : Bool := L.all fun i => t.fit h i (s (t.lp i).toNat)
theorem byL_right (t : TD) (L : List Nat) (b : Bool) (c : Nat) (h s : Nat → Int) : (t.byL L b c).right h s = t.fitsL L h s := by
  rw [TD.right, TD.fitsL, Bool.eq_iff_iff, allB_iff, List.all_eq_true]
  constructor
  · intro a i hi
    obtain ⟨j, hj, rfl⟩ := List.getElem_of_mem hi
    have := a j hj
    have e : L.getD j 0 = L[j] := by rw [List.getD_eq_getElem?_getD, List.getElem?_eq_getElem hj]; rfl
    rw [← e]
    exact this
  · intro a j hj
    have hj' : j < L.length := hj
    have e : L.getD j 0 = L[j] := by rw [List.getD_eq_getElem?_getD, List.getElem?_eq_getElem hj']; rfl
    have := a (L.getD j 0) (by rw [e]; exact List.getElem_mem hj')
    exact this
/-- All truths, by some looks. -/
def TD.truL (t : TD) (L : List Nat) : List ((Nat → Int) × (Nat → Int)) := t.hts.flatMap fun h => (t.sds.filter (t.fitsL L h)).map fun s => (h, s)
theorem byL_tru (t : TD) (L : List Nat) (b : Bool) (c : Nat) : (t.byL L b c).tru = t.truL L := by
  have e : (t.byL L b c).tru = t.hts.flatMap fun h => (t.sds.filter ((t.byL L b c).right h)).map fun s => (h, s) := rfl
  rw [e, TD.truL]
  congr 1
  funext h
  congr 1
  exact List.filter_congr fun s _ => byL_right t L b c h s
theorem truL_congr {t : TD} {L L' : List Nat} (h : ∀ i, i ∈ L ↔ i ∈ L') : t.truL L = t.truL L' := by
  rw [TD.truL, TD.truL]
  congr 1
  funext x
  congr 1
  refine List.filter_congr fun s _ => ?_
  rw [TD.fitsL, TD.fitsL, Bool.eq_iff_iff, List.all_eq_true, List.all_eq_true]
  exact ⟨fun a i hi => a i ((h i).2 hi), fun a i hi => a i ((h i).1 hi)⟩
theorem tru_all (t : TD) : t.tru = t.truL (List.range t.nL) := by
  rw [TD.truL, TD.tru]
  congr 1
  funext h
  congr 1
  refine List.filter_congr fun s _ => ?_
  rw [TD.right, TD.fitsL, Bool.eq_iff_iff, allB_iff, List.all_eq_true]
  simp only [List.mem_range]
theorem box_some {t : TD} (hv : t.Valid) : t.truL [] ≠ [] := by
  have h1 : (fun i => if i < t.nM then t.mlo i else 0) ∈ t.hts := hts_mem.2 ⟨fun i hi => by
    have := hv.marks (i := i) hi
    simp only [TD.markOk] at this
    simp only [if_pos hi]
    omega, fun i hi => by simp only [if_neg (show ¬ i < t.nM by omega)]⟩
  have h2 : (fun i => if i < t.nS then t.slo i else 0) ∈ t.sds := sds_mem.2 ⟨fun i hi => by
    have := hv.2.2.2.2.1 i hi
    simp only [TD.sandOk] at this
    simp only [if_pos hi]
    omega, fun i hi => by simp only [if_neg (show ¬ i < t.nS by omega)]⟩
  intro h
  have : ((fun i => if i < t.nM then t.mlo i else 0), (fun i => if i < t.nS then t.slo i else 0)) ∈ t.truL [] := by
    rw [TD.truL, List.mem_flatMap]
    exact ⟨_, h1, List.mem_map.2 ⟨_, List.mem_filter.2 ⟨h2, rfl⟩, rfl⟩⟩
  rw [h] at this
  simp at this

/-! ### Sets -/
/-- Look n is of a set, in the statement's numbers. -/
def bitI (so : Int) (n : Nat) : Bool := decide (bitOp .and .i64 (so.fdiv (2 ^ n)) 1 = 1)
/-- The looks of a set, of the first k. -/
def pickL (so : Int) : Nat → List Nat
  | 0 => []
  | k + 1 => if bitI so k = true then pickL so k ++ [k] else pickL so k
theorem pickL_mem {so : Int} {i : Nat} : ∀ {k : Nat}, i ∈ pickL so k ↔ i < k ∧ bitI so i = true
  | 0 => by simp [pickL]
  | k + 1 => by
    simp only [pickL]
    split
    · rename_i h
      rw [List.mem_append, pickL_mem (k := k), List.mem_singleton]
      constructor
      · rintro (⟨a, b⟩ | rfl)
        · exact ⟨by omega, b⟩
        · exact ⟨by omega, h⟩
      · rintro ⟨a, b⟩
        rcases Nat.lt_succ_iff_lt_or_eq.1 a with c | c
        · exact .inl ⟨c, b⟩
        · exact .inr c
    · rename_i h
      rw [pickL_mem (k := k)]
      constructor
      · rintro ⟨a, b⟩
        exact ⟨by omega, b⟩
      · rintro ⟨a, b⟩
        rcases Nat.lt_succ_iff_lt_or_eq.1 a with c | c
        · exact ⟨c, b⟩
        · subst c
          exact absurd b h
theorem keptL_mem {so : Int} {i : Nat} : ∀ {k : Nat}, i ∈ keptL so k ↔ i < k ∧ inSet so i = false
  | 0 => by simp [keptL]
  | k + 1 => by
    simp only [keptL]
    split
    · rename_i h
      rw [keptL_mem (k := k)]
      constructor
      · rintro ⟨a, b⟩
        exact ⟨by omega, b⟩
      · rintro ⟨a, b⟩
        rcases Nat.lt_succ_iff_lt_or_eq.1 a with c | c
        · exact ⟨c, b⟩
        · subst c
          rw [h] at b
          cases b
    · rename_i h
      rw [List.mem_append, keptL_mem (k := k), List.mem_singleton]
      constructor
      · rintro (⟨a, b⟩ | rfl)
        · exact ⟨by omega, b⟩
        · exact ⟨by omega, by simpa using h⟩
      · rintro ⟨a, b⟩
        rcases Nat.lt_succ_iff_lt_or_eq.1 a with c | c
        · exact .inl ⟨c, b⟩
        · exact .inr c
theorem rest_dec : ∀ n, n < 7 → ∀ so, so < 2 ^ n → ∀ i, i < n → inSet (bitOp .andNot .u64 (2 ^ n - 1) (so : Nat)) i = !bitI (so : Nat) i := by decide +kernel
theorem every_dec : ∀ n, n < 7 → ∀ i, i < n → bitI (2 ^ n - 1) i = true := by decide +kernel
theorem zero_dec : ∀ i, i < 6 → bitI 0 i = false := by decide +kernel
theorem size_dec : ∀ s, s < 64 → oc64 (s : Nat) = ((s % 2 : Nat) : Int) + oc64 ((s / 2 : Nat) : Int) := by decide +kernel
theorem oc_dec : ∀ n : Nat, n < 7 → oc64 (2 ^ n - 1) = n := by decide +kernel
theorem oc_range_dec : ∀ s, s < 64 → 0 ≤ oc64 (s : Nat) ∧ oc64 (s : Nat) ≤ 6 := by decide +kernel

/-- Can the looks of a set all be right? -/
theorem can_pick {t : TD} (hv : t.Valid) {so : Int} (h0 : 0 ≤ so) (h1 : so < 2 ^ t.nL) : t.can so = true ↔ t.truL (pickL so t.nL) ≠ [] := by
  obtain ⟨s, rfl⟩ := Int.eq_ofNat_of_zero_le h0
  have h1' : s < 2 ^ t.nL := by exact_mod_cast h1
  have hL := hv.2.2.1
  have hr := fun i hi => rest_dec t.nL (by omega) s h1' i hi
  have e : t.truL (keptL (t.restOf s) t.nL) = t.truL (pickL s t.nL) := truL_congr fun i => by
    rw [keptL_mem, pickL_mem]
    constructor
    · rintro ⟨a, b⟩
      refine ⟨a, ?_⟩
      have := hr i a
      rw [TD.restOf] at b
      rw [b] at this
      simpa using this.symm
    · rintro ⟨a, b⟩
      refine ⟨a, ?_⟩
      rw [TD.restOf, hr i a, b]
      rfl
  rw [TD.can, decide_eq_true_eq, ← e]
  have h2 := all_nil (sub_valid hv (t.restOf s))
  rw [sub_byL, byL_tru] at h2
  exact not_congr h2
theorem pick_every {t : TD} (hv : t.Valid) : t.truL (pickL (2 ^ t.nL - 1) t.nL) = t.tru := by
  rw [tru_all]
  refine truL_congr fun i => ?_
  rw [pickL_mem, List.mem_range]
  exact ⟨fun a => a.1, fun a => ⟨a, every_dec t.nL (by have := hv.2.2.1; omega) i a⟩⟩
theorem pick_zero {t : TD} (hv : t.Valid) : t.truL (pickL 0 t.nL) ≠ [] := by
  have : t.truL (pickL 0 t.nL) = t.truL [] := truL_congr fun i => by
    rw [pickL_mem]
    refine ⟨fun ⟨a, b⟩ => ?_, fun a => by simp at a⟩
    rw [zero_dec i (by have := hv.2.2.1; omega)] at b
    cases b
  rw [this]
  exact box_some hv

theorem inS_spec {can : Int → Bool} {many : Int} : ∀ (c : Nat) (s : Int), (inS can many c s = none ∧ ∀ x, s ≤ x → x < s + c → oc64 x = many → can x = true) ∨
    ∃ v, inS can many c s = some v ∧ s ≤ v ∧ v < s + c ∧ oc64 v = many ∧ can v = false ∧ ∀ x, s ≤ x → x < v → oc64 x = many → can x = true
  | 0, s => .inl ⟨rfl, fun x h1 h2 => by omega⟩
  | c + 1, s => by
    simp only [inS]
    by_cases h : oc64 s = many ∧ can s = false
    · rw [if_pos h]
      exact .inr ⟨s, rfl, Int.le_refl _, by omega, h.1, h.2, fun x h1 h2 => by omega⟩
    · rw [if_neg h]
      have hs : oc64 s = many → can s = true := fun h2 => by
        cases hc : can s
        · exact absurd ⟨h2, hc⟩ h
        · rfl
      rcases inS_spec (can := can) (many := many) c (s + 1) with ⟨e, h1⟩ | ⟨v, e, h1, h2, h3, h4, h5⟩
      · refine .inl ⟨e, fun x h2 h3 h4 => ?_⟩
        rcases Int.lt_or_eq_of_le h2 with h5 | rfl
        · exact h1 x (by omega) (by omega) h4
        · exact hs h4
      · refine .inr ⟨v, e, by omega, by omega, h3, h4, fun x h6 h7 h8 => ?_⟩
        rcases Int.lt_or_eq_of_le h6 with h9 | rfl
        · exact h5 x (by omega) h7 h8
        · exact hs h8
theorem outS_spec {can : Int → Bool} {N : Nat} : ∀ (c : Nat) (m : Int), (outS can N c m = none ∧ ∀ x : Int, 0 ≤ x → x < N → m ≤ oc64 x → oc64 x < m + c → can x = true) ∨
    ∃ v : Int, outS can N c m = some v ∧ 0 ≤ v ∧ v < N ∧ can v = false ∧ ∀ x : Int, 0 ≤ x → x < N → m ≤ oc64 x → can x = false → oc64 v < oc64 x ∨ oc64 v = oc64 x ∧ v ≤ x
  | 0, m => .inl ⟨rfl, fun x h1 h2 h3 h4 => by omega⟩
  | c + 1, m => by
    simp only [outS]
    rcases inS_spec (can := can) (many := m) N 0 with ⟨e, h1⟩ | ⟨v, e, h1, h2, h3, h4, h5⟩
    · rw [e]
      rcases outS_spec (can := can) (N := N) c (m + 1) with ⟨e2, g1⟩ | ⟨v, e2, g1, g2, g3, g4⟩
      · refine .inl ⟨e2, fun x a1 a2 a3 a4 => ?_⟩
        rcases Int.lt_or_eq_of_le a3 with a5 | a5
        · exact g1 x a1 a2 (by omega) (by omega)
        · exact h1 x a1 (by omega) a5.symm
      · refine .inr ⟨v, e2, g1, g2, g3, fun x a1 a2 a3 a4 => ?_⟩
        rcases Int.lt_or_eq_of_le a3 with a5 | a5
        · exact g4 x a1 a2 (by omega) a4
        · rw [h1 x a1 (by omega) a5.symm] at a4
          cases a4
    · rw [e]
      refine .inr ⟨v, rfl, h1, by omega, h4, fun x a1 a2 a3 a4 => ?_⟩
      rcases Int.lt_or_eq_of_le a3 with a5 | a5
      · exact .inl (by omega)
      · refine .inr ⟨by omega, ?_⟩
        rcases Int.lt_or_le x v with a6 | a6
        · rw [h5 x a1 a6 a5.symm] at a4
          cases a4
        · exact a6
/-- What Clash tells. -/
theorem clash_law {t : TD} (hv : t.Valid) : (t.tru ≠ [] ∧ t.clashT = ⟨0, 4⟩) ∨
    ∃ v : Int, t.tru = [] ∧ t.clashT = ⟨v, 0⟩ ∧ 1 ≤ v ∧ v < 2 ^ t.nL ∧ t.truL (pickL v t.nL) = [] ∧ ∀ x : Int, 0 ≤ x → x < 2 ^ t.nL → t.truL (pickL x t.nL) = [] → oc64 v < oc64 x ∨ oc64 v = oc64 x ∧ v ≤ x := by
  have hL := hv.2.2.1
  have hp : (0 : Int) < 2 ^ t.nL := by
    have : 0 < 2 ^ t.nL := Nat.pow_pos (by omega)
    exact_mod_cast this
  have hN : ((2 ^ t.nL : Nat) : Int) = 2 ^ t.nL := by norm_cast
  have he := can_pick hv (so := 2 ^ t.nL - 1) (by omega) (by omega)
  rw [pick_every hv] at he
  by_cases hn : t.tru = []
  · have hc : t.can (2 ^ t.nL - 1) = false := by
      cases h : t.can (2 ^ t.nL - 1)
      · rfl
      · exact absurd hn (he.1 h)
    have hno : ∀ x : Int, 0 ≤ x → x < 2 ^ t.nL → (t.can x = false ↔ t.truL (pickL x t.nL) = []) := fun x h0 h1 => by
      have := can_pick hv h0 h1
      rw [← Bool.not_eq_true, this, Classical.not_not]
    rcases outS_spec (can := t.can) (N := 2 ^ t.nL) (t.nL + 1) 0 with ⟨_, h1⟩ | ⟨v, e, h1, h2, h3, h4⟩
    · have ho := oc_dec t.nL (by omega)
      rw [h1 (2 ^ t.nL - 1) (by omega) (by omega) (by omega) (by push_cast; omega)] at hc
      cases hc
    · have h2' : v < 2 ^ t.nL := by omega
      refine .inr ⟨v, hn, ?_, ?_, h2', (hno v h1 h2').1 h3, fun x a1 a2 a3 => h4 x a1 (by omega) ?_ ((hno x a1 a2).2 a3)⟩
      · unfold TD.clashT
        rw [if_neg (fun h => h hv), if_neg (by rw [hc]; decide), e]
        rfl
      · rcases Int.lt_or_eq_of_le h1 with h5 | rfl
        · omega
        · exact absurd ((hno 0 (Int.le_refl _) h2').1 h3) (pick_zero hv)
      · obtain ⟨y, rfl⟩ := Int.eq_ofNat_of_zero_le a1
        have : 2 ^ t.nL ≤ 2 ^ 6 := Nat.pow_le_pow_right (by omega) hL
        exact (oc_range_dec y (by omega)).1
  · refine .inl ⟨hn, ?_⟩
    unfold TD.clashT
    rw [if_neg (fun h => h hv), if_pos (he.2 hn)]
end Go.Proofs.YtipbempkngfdbaaDoor
/-
  Contract: made, its last part: looks that are right.
-/
namespace Go.Proofs.YtipbempkngfdbaaDoor
open Go Go.Sy
set_option linter.unusedSimpArgs false
set_option maxRecDepth 100000
set_option maxHeartbeats 4000000
attribute [local irreducible] CallP CodeP Ent YieldP

/-- A tide whose looks are right, if marks and sand are so high. -/
structure Made (t : TD) (h s : Nat → Int) : Prop where
  v : t.Valid
  ok : t.ok
  hh : okH h
  hm : ∀ i, i < t.nM → t.mlo i ≤ h i ∧ h i ≤ t.mhi i
  hz : ∀ i, t.nM ≤ i → h i = 0
  ss : ∀ p, p < t.nS → (t.slo p ≤ s p ∧ s p ≤ t.shi p) ∧ 0 ≤ s p ∧ s p ≤ 60
  sz : ∀ p, t.nS ≤ p → s p = 0
  fit : ∀ i, i < t.nL → t.fit h i (s (t.lp i).toNat) = true
end Go.Proofs.YtipbempkngfdbaaDoor
/-
  The plain law of TideMore: looks that say more, and places numbered otherwise.
-/
namespace Go.Proofs.YtipbempkngfdbaaDoor
open Go Go.Sy
set_option maxRecDepth 100000
set_option maxHeartbeats 4000000

/-- What is told of the height, where there are truths. -/
structure HgtIs (t : TD) (m lo hi : Int) : Prop where
  v : t.height m = ⟨(lo, hi), 0⟩
  bnd : ∀ x ∈ t.tru, lo ≤ t.stand x.1 m ∧ t.stand x.1 m ≤ hi
  lo : ∃ x ∈ t.tru, t.stand x.1 m = lo
  hi : ∃ x ∈ t.tru, t.stand x.1 m = hi
theorem tru_of_all {t : TD} (hv : t.Valid) {y : Tr} (hy : y ∈ t.all) : ∃ x ∈ t.tru, x.1 = y.h := by
  obtain ⟨h, h1, h2, rfl⟩ := all_mem.1 hy
  have hs := (some_iff hv).1 h2
  obtain ⟨g1, g2⟩ := sand_right hv (h := h) (f := fun p => loE (t.set h p)) fun p hp => ((set_is hv h hp).ends (hs p hp)).1
  exact ⟨(h, _), tru_mem.2 ⟨h1, g1, g2⟩, rfl⟩
theorem hgt_is {t : TD} (hv : t.Valid) (hn : t.tru ≠ []) {m : Int} (hm : t.isMin m) : ∃ lo hi, HgtIs t m lo hi := by
  have hna : t.all ≠ [] := fun h => hn ((all_nil hv).1 h)
  obtain ⟨lo, hi, hH⟩ := hull hv hna hm
  refine ⟨lo, hi, hH.v, fun x hx => ?_, ?_, ?_⟩
  · obtain ⟨h1, h2, h3⟩ := tru_mem.1 hx
    exact hH.bnd (t.tr x.1) (all_mem.2 ⟨_, h1, some_of hv h2 h3, rfl⟩)
  · obtain ⟨y, hy, e⟩ := hH.lo
    obtain ⟨x, hx, e2⟩ := tru_of_all hv hy
    exact ⟨x, hx, by rw [e2, e]⟩
  · obtain ⟨y, hy, e⟩ := hH.hi
    obtain ⟨x, hx, e2⟩ := tru_of_all hv hy
    exact ⟨x, hx, by rw [e2, e]⟩

/-! ### Looks that say more -/
/-- The same marks and sand, and looks that say at least as much. -/
structure Tight (t q : TD) : Prop where
  hts : q.hts = t.hts
  sds : q.sds = t.sds
  nS : q.nS = t.nS
  stand : ∀ h m, q.stand h m = t.stand h m
  isMin : ∀ m, q.isMin m ↔ t.isMin m
  right : ∀ h s, q.right h s = true → t.right h s = true
theorem Tight.sub {t q : TD} (T : Tight t q) : ∀ x ∈ q.tru, x ∈ t.tru := fun x hx => by
  obtain ⟨h1, h2, h3⟩ := tru_mem.1 hx
  exact tru_mem.2 ⟨T.hts ▸ h1, T.sds ▸ h2, T.right _ _ h3⟩
theorem Tight.len {t q : TD} (T : Tight t q) : q.tru.length ≤ t.tru.length := by
  have : q.tru = t.tru.filter fun x => q.right x.1 x.2 := by
    have e : q.tru = t.hts.flatMap fun h => (t.sds.filter (q.right h)).map fun s => (h, s) := by rw [TD.tru, T.hts, T.sds]
    rw [e, TD.tru, List.filter_flatMap]
    congr 1
    funext h
    rw [List.filter_map, List.filter_filter]
    congr 1
    refine List.filter_congr fun s _ => ?_
    rw [Bool.eq_iff_iff, Bool.and_eq_true]
    exact ⟨fun a => ⟨a, T.right _ _ a⟩, fun a => a.1⟩
  rw [this]
  exact List.length_filter_le _ _
/-- What TideMore asks of a tide that says more: depth and height of it, and how many truths are left. -/
structure More (t q : TD) (p : Nat) (m : Int) : Prop where
  same : (q.depthT p m).e = (q.height m).e
  code : (q.depthT p m).e = 0 ∨ (q.depthT p m).e = 10
  count : q.countT.e = 0 ∧ q.countT.v ≤ t.countT.v
  told : (q.depthT p m).e = 0 → (t.depthT p m).e = 0 ∧ (t.height m).e = 0 ∧ (t.depthT p m).v.1 ≤ (q.depthT p m).v.1 ∧ (q.depthT p m).v.2 ≤ (t.depthT p m).v.2 ∧ (t.height m).v.1 ≤ (q.height m).v.1 ∧ (q.height m).v.2 ≤ (t.height m).v.2
theorem more {t q : TD} (hv : t.Valid) (hq : q.Valid) (T : Tight t q) {p : Nat} (hp : p < t.nS) {m : Int} (hm : t.isMin m) : More t q p m := by
  have hmq := (T.isMin m).2 hm
  have hpq : p < q.nS := by rw [T.nS]; exact hp
  have hplq : q.isPl (p : Int) := ⟨by omega, by omega⟩
  have hc := count_tru hv
  have hcq := count_tru hq
  have hl := T.len
  by_cases hn : q.tru = []
  · have hna := (all_nil hq).2 hn
    have e1 : q.depthT p m = ⟨(0, 0), 10⟩ := by
      unfold TD.depthT
      rw [if_neg (fun h => h hq), if_neg (fun h => h ⟨hplq, hmq⟩), if_pos hna]
    have e2 : q.height m = ⟨(0, 0), 10⟩ := by
      unfold TD.height
      rw [if_neg (fun h => h hq), if_neg (fun h => h hmq), if_pos hna]
    refine ⟨by rw [e1, e2], .inr (by rw [e1]), ⟨by rw [hcq], by rw [hcq, hc]; show (q.tru.length : Int) ≤ t.tru.length; omega⟩, fun h => ?_⟩
    rw [e1] at h
    cases h
  · obtain ⟨a, b, hD⟩ := dep_is hq hn hpq hmq
    obtain ⟨c, d, hH⟩ := hgt_is hq hn hmq
    obtain ⟨x0, hx0⟩ := List.exists_mem_of_ne_nil _ hn
    have hnt : t.tru ≠ [] := List.ne_nil_of_mem (T.sub x0 hx0)
    obtain ⟨a', b', hD'⟩ := dep_is hv hnt hp hm
    obtain ⟨c', d', hH'⟩ := hgt_is hv hnt hm
    have ed : ∀ x, q.dep m p x = t.dep m p x := fun x => by rw [TD.dep, TD.dep, T.stand]
    refine ⟨by rw [hD.v, hH.v], .inl (by rw [hD.v]), ⟨by rw [hcq], by rw [hcq, hc]; show (q.tru.length : Int) ≤ t.tru.length; omega⟩, fun _ => ?_⟩
    rw [hD.v, hH.v, hD'.v, hH'.v]
    refine ⟨rfl, rfl, ?_, ?_, ?_, ?_⟩
    · obtain ⟨x, hx, e⟩ := hD.lo
      have := (hD'.bnd x (T.sub x hx)).1
      rw [ed] at e
      show a' ≤ a
      omega
    · obtain ⟨x, hx, e⟩ := hD.hi
      have := (hD'.bnd x (T.sub x hx)).2
      rw [ed] at e
      show b ≤ b'
      omega
    · obtain ⟨x, hx, e⟩ := hH.lo
      have := (hH'.bnd x (T.sub x hx)).1
      rw [T.stand] at e
      show c' ≤ c
      omega
    · obtain ⟨x, hx, e⟩ := hH.hi
      have := (hH'.bnd x (T.sub x hx)).2
      rw [T.stand] at e
      show d ≤ d'
      omega
/-! ### Places numbered otherwise -/
section
variable {t : TD} {bS : Bool} {cS : Nat} {bL : Bool} {cL : Nat}
end
section
variable {t : TD} (bS : Bool) (cS : Nat) (bL : Bool) (cL : Nat)
end
end Go.Proofs.YtipbempkngfdbaaDoor
/-
  The plain law of spans of good minutes.
-/
namespace Go.Proofs.YtipbempkngfdbaaDoor
open Go Go.Sy
set_option maxRecDepth 100000

/-- Spans of the good ones of the minutes from lo on, below m: in order, no two meet, and just the good ones are in them. -/
structure Sps (good : Int → Bool) (lo m : Int) (o : List (Int × Int)) : Prop where
  wf : ∀ i, i < o.length → lo ≤ (o.getD i (0, 0)).1 ∧ (o.getD i (0, 0)).1 ≤ (o.getD i (0, 0)).2 ∧ (o.getD i (0, 0)).2 < m
  apart : ∀ i, 0 < i → i < o.length → (o.getD (i - 1) (0, 0)).2 + 1 < (o.getD i (0, 0)).1
  mem : ∀ x, lo ≤ x → x < m → (good x = true ↔ ∃ i, i < o.length ∧ (o.getD i (0, 0)).1 ≤ x ∧ x ≤ (o.getD i (0, 0)).2)
theorem getD_append (o : List (Int × Int)) (v : Int × Int) (i : Nat) : (o ++ [v]).getD i (0, 0) = if i < o.length then o.getD i (0, 0) else if i = o.length then v else (0, 0) := by
  rw [List.getD_eq_getElem?_getD, List.getD_eq_getElem?_getD]
  rcases Nat.lt_trichotomy i o.length with h | h | h
  · rw [List.getElem?_append_left h, if_pos h]
  · subst h
    simp
  · rw [List.getElem?_eq_none (by simp; omega), if_neg (by omega), if_neg (by omega)]
    rfl
theorem Sps.step {good : Int → Bool} {lo m : Int} {o : List (Int × Int)} (h : Sps good lo m o) (hm : lo ≤ m) : Sps good lo (m + 1) (stepS (good m) o m) := by
  unfold stepS
  by_cases hg : good m = false
  · rw [if_pos hg]
    refine ⟨fun i hi => by have := h.wf i hi; omega, h.apart, fun x hx hx' => ?_⟩
    rcases Int.lt_or_le x m with hlt | hge
    · exact h.mem x hx hlt
    · have : x = m := by omega
      subst this
      rw [hg]
      refine ⟨fun h => (by cases h), fun ⟨i, hi, _, h2⟩ => ?_⟩
      have := (h.wf i hi).2.2
      omega
  · rw [if_neg hg]
    have hg' : good m = true := by simpa using hg
    by_cases hc : 0 < o.length ∧ (o.getD (o.length - 1) (0, 0)).2 + 1 = m
    · rw [if_pos hc]
      obtain ⟨h0, h1⟩ := hc
      have hl := h.wf (o.length - 1) (by omega)
      have ge : ∀ i, (o.set (o.length - 1) ((o.getD (o.length - 1) (0, 0)).1, (o.getD (o.length - 1) (0, 0)).2 + 1)).getD i (0, 0) = if i = o.length - 1 then ((o.getD (o.length - 1) (0, 0)).1, (o.getD (o.length - 1) (0, 0)).2 + 1) else o.getD i (0, 0) := fun i => getD_set o _ i _ (by omega)
      refine ⟨fun i hi => ?_, fun i h2 h3 => ?_, fun x hx hx' => ?_⟩
      · rw [List.length_set] at hi
        rw [ge]
        split
        · simp only
          omega
        · have := h.wf i hi
          omega
      · rw [List.length_set] at h3
        have := h.apart i h2 h3
        rw [ge, ge, if_neg (by omega)]
        split
        · rename_i e
          subst e
          exact this
        · exact this
      · rw [List.length_set]
        rcases Int.lt_or_le x m with hlt | hge
        · rw [h.mem x hx hlt]
          refine ⟨fun ⟨i, hi, a, b⟩ => ⟨i, hi, ?_⟩, fun ⟨i, hi, a⟩ => ⟨i, hi, ?_⟩⟩
          · rw [ge]
            split
            · rename_i e
              subst e
              simp only
              omega
            · exact ⟨a, b⟩
          · rw [ge] at a
            split at a
            · rename_i e
              subst e
              simp only at a
              omega
            · exact a
        · have : x = m := by omega
          subst this
          refine ⟨fun _ => ⟨o.length - 1, by omega, ?_⟩, fun _ => hg'⟩
          rw [ge, if_pos rfl]
          simp only
          omega
    · rw [if_neg hc]
      refine ⟨fun i hi => ?_, fun i h2 h3 => ?_, fun x hx hx' => ?_⟩
      · rw [List.length_append, List.length_singleton] at hi
        rw [getD_append]
        split
        · rename_i h4
          have := h.wf i h4
          omega
        · rw [if_pos (by omega)]
          simp only
          omega
      · rw [List.length_append, List.length_singleton] at h3
        rw [getD_append, getD_append, if_pos (show i - 1 < o.length by omega)]
        split
        · rename_i h4
          exact h.apart i h2 h4
        · rw [if_pos (by omega)]
          have e : i - 1 = o.length - 1 := by omega
          rw [e]
          have := h.wf (o.length - 1) (by omega)
          have : ¬ ((o.getD (o.length - 1) (0, 0)).2 + 1 = m) := fun h5 => hc ⟨by omega, h5⟩
          simp only
          omega
      · rw [List.length_append, List.length_singleton]
        rcases Int.lt_or_le x m with hlt | hge
        · rw [h.mem x hx hlt]
          refine ⟨fun ⟨i, hi, a⟩ => ⟨i, by omega, ?_⟩, fun ⟨i, hi, a⟩ => ?_⟩
          · rw [getD_append, if_pos hi]
            exact a
          · rw [getD_append] at a
            split at a
            · rename_i h4
              exact ⟨i, h4, a⟩
            · rw [if_pos (by omega)] at a
              simp only at a
              omega
        · have : x = m := by omega
          subst this
          refine ⟨fun _ => ⟨o.length, by omega, ?_⟩, fun _ => hg'⟩
          rw [getD_append, if_neg (by omega), if_pos rfl]
          simp only
          omega
theorem servF_sps {good : Int → Bool} {lo : Int} : ∀ (c : Nat) (m : Int) (o : List (Int × Int)), lo ≤ m → Sps good lo m o → Sps good lo (m + c) (servF good c m o)
  | 0, m, o, _, h => by simpa [servF] using h
  | c + 1, m, o, hm, h => by
    have := servF_sps c (m + 1) _ (by omega) (h.step hm)
    simp only [servF]
    rwa [show m + ((c + 1 : Nat) : Int) = m + 1 + c by omega]
theorem sps_nil (good : Int → Bool) (lo : Int) : Sps good lo lo [] := ⟨fun i h => by simp at h, fun i _ h => by simp at h, fun x h1 h2 => by omega⟩
end Go.Proofs.YtipbempkngfdbaaDoor
/-
  The plain law of TideServed.
-/
namespace Go.Proofs.YtipbempkngfdbaaDoor
open Go Go.Sy
set_option maxRecDepth 100000

theorem Sps.low {good : Int → Bool} {lo m : Int} {o : List (Int × Int)} (h : Sps good lo m o) : ∀ i : Nat, i < o.length → lo + i ≤ (o.getD i (0, 0)).1
  | 0, hi => by
    have := h.wf 0 hi
    omega
  | i + 1, hi => by
    have h1 := h.low i (by omega)
    have h2 := h.wf i (by omega)
    have h3 := h.apart (i + 1) (by omega) hi
    have e : i + 1 - 1 = i := by omega
    rw [e] at h3
    omega
theorem Sps.len {good : Int → Bool} {lo m : Int} {o : List (Int × Int)} (h : Sps good lo m o) (hm : lo ≤ m) : (o.length : Int) ≤ m - lo := by
  rcases Nat.eq_zero_or_pos o.length with h0 | h0
  · omega
  · have h1 := h.low (o.length - 1) (by omega)
    have h2 := h.wf (o.length - 1) (by omega)
    omega
end Go.Proofs.YtipbempkngfdbaaDoor
/-
  TideTrue, the plain law: what is told holds in each truth.
-/
namespace Go.Proofs.YtipbempkngfdbaaDoor
open Go Go.Sy
set_option maxRecDepth 100000
set_option maxHeartbeats 4000000

theorem ok_is {t : TD} (hv : t.Valid) (hn : t.tru ≠ []) {p : Nat} (hp : p < t.nS) {m : Int} (hm : t.isMin m) {lo hi : Int} (D : DepIs t p m lo hi) (l : Int) (s : Bool) :
    okF t p l s m = if s = true then decide (l ≤ lo) else decide (l ≤ hi) := by
  have hna : t.all ≠ [] := fun h => hn ((all_nil hv).1 h)
  have hpl : t.isPl (p : Int) := ⟨by omega, by omega⟩
  have e := D.v
  simp only [TD.depthT, hv, hpl, hm, hna, not_true, if_false, and_self, Told.mk.injEq, Prod.mk.injEq, Int.toNat_natCast] at e
  unfold okF
  rw [e.1.1, e.1.2]
theorem good_is {t : TD} (hv : t.Valid) (hn : t.tru ≠ []) {p : Nat} (hp : p < t.nS) {m : Int} (hm : t.isMin m) {lo hi : Int} (D : DepIs t p m lo hi) (l h : Int) :
    goodM t p l h m = (decide (l ≤ lo) && decide (hi ≤ h)) := by
  have hna : t.all ≠ [] := fun h => hn ((all_nil hv).1 h)
  have hpl : t.isPl (p : Int) := ⟨by omega, by omega⟩
  have e := D.v
  simp only [TD.depthT, hv, hpl, hm, hna, not_true, if_false, and_self, Told.mk.injEq, Prod.mk.injEq, Int.toNat_natCast] at e
  unfold goodM
  rw [e.1.1, e.1.2]
theorem served_is {t : TD} (hv : t.Valid) (hn : t.tru ≠ []) {p : Nat} (hp : p < t.nS) {l h : Int} (hl : 0 ≤ l ∧ l ≤ 60) (hh : 0 ≤ h ∧ h ≤ 60) :
    ∃ S, t.servedT p l h = ⟨S, 0⟩ ∧ Sps (goodM t p l h) (t.mi 0) (t.mi (t.nM - 1) + 1) S := by
  have hM := hv.1
  have hna : t.all ≠ [] := fun h => hn ((all_nil hv).1 h)
  have hpl : t.isPl (p : Int) := ⟨by omega, by omega⟩
  have mle : t.mi 0 ≤ t.mi (t.nM - 1) := mi_le hv (Nat.zero_le _) (by omega)
  refine ⟨_, by unfold TD.servedT; rw [if_neg (fun h => h hv), if_neg (fun h => h ⟨hpl, hl, hh⟩), if_neg hna], ?_⟩
  have := servF_sps (t.mi (t.nM - 1) - t.mi 0 + 1).toNat (t.mi 0) [] (Int.le_refl _) (sps_nil (goodM t p l h) (t.mi 0))
  rwa [show t.mi 0 + (((t.mi (t.nM - 1) - t.mi 0 + 1).toNat : Nat) : Int) = t.mi (t.nM - 1) + 1 by omega] at this
end Go.Proofs.YtipbempkngfdbaaDoor
/-
  The plain law: what the specification folds over all truths is what is told.
-/
namespace Go.Proofs.YtipbempkngfdbaaDoor
open Go Go.Sy
set_option maxRecDepth 100000
set_option maxHeartbeats 4000000

/-! ### Least and greatest -/
def spF (f : Nat → Int) : Nat → Int × Int
  | 0 => (60, 0)
  | i + 1 => (if f i < (spF f i).1 then f i else (spF f i).1, if f i > (spF f i).2 then f i else (spF f i).2)
theorem spF_bnd {f : Nat → Int} : ∀ n, (∀ i, i < n → (spF f n).1 ≤ f i ∧ f i ≤ (spF f n).2)
  | 0, i, hi => absurd hi (Nat.not_lt_zero i)
  | n + 1, i, hi => by
    simp only [spF]
    rcases Nat.lt_succ_iff_lt_or_eq.1 hi with h | rfl
    · have := spF_bnd (f := f) n i h
      exact ⟨by by_cases c : f n < (spF f n).1 <;> simp only [c, if_true, if_false] <;> omega, by by_cases c : f n > (spF f n).2 <;> simp only [c, if_true, if_false] <;> omega⟩
    · exact ⟨by by_cases c : f i < (spF f i).1 <;> simp only [c, if_true, if_false] <;> omega, by by_cases c : f i > (spF f i).2 <;> simp only [c, if_true, if_false] <;> omega⟩
theorem spF_at {f : Nat → Int} : ∀ n, 0 < n → (∀ i, i < n → 0 ≤ f i ∧ f i ≤ 60) → (∃ i, i < n ∧ f i = (spF f n).1) ∧ ∃ i, i < n ∧ f i = (spF f n).2
  | 0, h, _ => absurd h (Nat.lt_irrefl 0)
  | 1, _, hb => by
    have := hb 0 (by omega)
    simp only [spF]
    exact ⟨⟨0, by omega, by by_cases c : f 0 < 60 <;> simp only [c, if_true, if_false]; omega⟩, 0, by omega, by by_cases c : f 0 > 0 <;> simp only [c, if_true, if_false]; omega⟩
  | n + 2, _, hb => by
    obtain ⟨⟨a, ha, ea⟩, b, hb', eb⟩ := spF_at (n + 1) (by omega) fun i hi => hb i (by omega)
    rw [spF]
    refine ⟨?_, ?_⟩
    · simp only
      split
      · exact ⟨n + 1, by omega, rfl⟩
      · exact ⟨a, by omega, ea⟩
    · simp only
      split
      · exact ⟨n + 1, by omega, rfl⟩
      · exact ⟨b, by omega, eb⟩
abbrev Tru := (Nat → Int) × (Nat → Int)
def noTru : Tru := (fun _ => 0, fun _ => 0)
/-- Least and greatest over a list of truths. -/
def spL (φ : Tru → Int) (X : List Tru) : Int × Int := spF (fun i => φ (X.getD i noTru)) X.length
theorem truD_mem {X : List Tru} {i : Nat} (h : i < X.length) : X.getD i noTru ∈ X := by
  rw [List.getD_eq_getElem?_getD, List.getElem?_eq_getElem h]
  exact List.getElem_mem h
theorem mem_truD {X : List Tru} {x : Tru} (h : x ∈ X) : ∃ i, i < X.length ∧ X.getD i noTru = x := by
  obtain ⟨i, hi, e⟩ := List.getElem_of_mem h
  exact ⟨i, hi, by rw [List.getD_eq_getElem?_getD, List.getElem?_eq_getElem hi]; exact e⟩
theorem spL_eq {φ : Tru → Int} {X : List Tru} {lo hi : Int} (h0 : ∀ x ∈ X, 0 ≤ φ x ∧ φ x ≤ 60) (hb : ∀ x ∈ X, lo ≤ φ x ∧ φ x ≤ hi) (h1 : ∃ x ∈ X, φ x = lo) (h2 : ∃ x ∈ X, φ x = hi) : spL φ X = (lo, hi) := by
  obtain ⟨x1, m1, e1⟩ := h1
  obtain ⟨x2, m2, e2⟩ := h2
  obtain ⟨i1, l1, g1⟩ := mem_truD m1
  obtain ⟨i2, l2, g2⟩ := mem_truD m2
  have B := spF_bnd (f := fun i => φ (X.getD i noTru)) X.length
  obtain ⟨⟨a, ha, ea⟩, b, hb', eb⟩ := spF_at (f := fun i => φ (X.getD i noTru)) X.length (by omega) fun i hi => h0 _ (truD_mem hi)
  have A1 := (B i1 l1).1
  have A2 := (B i2 l2).2
  have A3 := (hb _ (truD_mem ha)).1
  have A4 := (hb _ (truD_mem hb')).2
  simp only [g1, g2] at A1 A2 ea eb
  have e3 : (spL φ X).1 = lo := by unfold spL; omega
  have e4 : (spL φ X).2 = hi := by unfold spL; omega
  exact Prod.ext e3 e4

theorem hts_ok {t : TD} (hv : t.Valid) {h : Nat → Int} (hh : h ∈ t.hts) : okH h := fun i => by
  obtain ⟨h1, h2⟩ := hts_mem.1 hh
  rcases Nat.lt_or_ge i t.nM with hi | hi
  · have := h1 i hi
    have := (hv.2.2.2.1 i hi).2.1
    omega
  · rw [h2 i hi]
    omega
theorem dep_sp {t : TD} (hv : t.Valid) (hn : t.tru ≠ []) {p : Nat} (hp : p < t.nS) {m : Int} (hm : t.isMin m) : DepIs t p m (spL (t.dep m p) t.tru).1 (spL (t.dep m p) t.tru).2 := by
  obtain ⟨lo, hi, D⟩ := dep_is hv hn hp hm
  rw [spL_eq (fun x hx => dep_range hv hp hm hx) D.bnd D.lo D.hi]
  exact D
/-! ### Served, First -/
theorem servF_congr {f g : Int → Bool} : ∀ (c : Nat) (m : Int) (o : List (Int × Int)), (∀ x, m ≤ x → x < m + c → f x = g x) → servF f c m o = servF g c m o
  | 0, _, _, _ => rfl
  | c + 1, m, o, h => by rw [servF, servF, h m (by omega) (by omega), servF_congr c (m + 1) _ fun x h1 h2 => h x (by omega) (by omega)]
theorem firstF_congr {f g : Int → Bool} : ∀ (c : Nat) (m : Int), (∀ x, m ≤ x → x < m + c → f x = g x) → firstF f c m = firstF g c m
  | 0, _, _ => rfl
  | c + 1, m, h => by rw [firstF, firstF, h m (by omega) (by omega), firstF_congr c (m + 1) fun x h1 h2 => h x (by omega) (by omega)]
def goodR (t : TD) (p : Nat) (l h : Int) (m : Int) : Bool := decide (l ≤ (spL (t.dep m p) t.tru).1) && decide ((spL (t.dep m p) t.tru).2 ≤ h)
def okR (t : TD) (p : Nat) (l : Int) (s : Bool) (m : Int) : Bool := if s = true then decide (l ≤ (spL (t.dep m p) t.tru).1) else decide (l ≤ (spL (t.dep m p) t.tru).2)
theorem served_ref {t : TD} (hv : t.Valid) (hn : t.tru ≠ []) {p : Nat} (hp : p < t.nS) {l h : Int} (hl : 0 ≤ l ∧ l ≤ 60) (hh : 0 ≤ h ∧ h ≤ 60) :
    t.servedT p l h = ⟨servF (goodR t p l h) (t.mi (t.nM - 1) - t.mi 0 + 1).toNat (t.mi 0) [], 0⟩ := by
  have hna : t.all ≠ [] := fun h => hn ((all_nil hv).1 h)
  have hpl : t.isPl (p : Int) := ⟨by omega, by omega⟩
  unfold TD.servedT
  rw [if_neg (fun h => h hv), if_neg (fun h => h ⟨hpl, hl, hh⟩), if_neg hna, Int.toNat_natCast]
  rw [servF_congr (g := goodR t p l h) _ _ _ fun x h1 h2 => ?_]
  have hm : t.isMin x := ⟨h1, by omega⟩
  rw [good_is hv hn hp hm (dep_sp hv hn hp hm)]
  rfl
theorem first_ref {t : TD} (hv : t.Valid) (hn : t.tru ≠ []) {p : Nat} (hp : p < t.nS) {l : Int} (hl : 0 ≤ l ∧ l ≤ 60) {m : Int} (hm : t.isMin m) (s : Bool) :
    t.firstT p l m s = firstF (okR t p l s) (t.mi (t.nM - 1) - m + 1).toNat m := by
  have hna : t.all ≠ [] := fun h => hn ((all_nil hv).1 h)
  have hpl : t.isPl (p : Int) := ⟨by omega, by omega⟩
  unfold TD.firstT
  rw [if_neg (fun h => h hv), if_neg (fun h => h ⟨hpl, hl, hm⟩), if_neg hna, Int.toNat_natCast]
  refine firstF_congr _ _ fun x h1 h2 => ?_
  have h3 := hm.1
  have hx : t.isMin x := ⟨by omega, by omega⟩
  rw [ok_is hv hn hp hx (dep_sp hv hn hp hx)]
  rfl

/-! ### Places -/
/-! ### Next -/
end Go.Proofs.YtipbempkngfdbaaDoor
/-
  The plain law of the specification's Clash; truths with the looks of a set.
-/
namespace Go.Proofs.YtipbempkngfdbaaDoor
open Go Go.Sy
set_option maxRecDepth 100000
set_option maxHeartbeats 4000000

/-- A number is in a set. -/
def hasB (so : Int) (i : Nat) : Bool := decide ((so.tdiv (2 ^ i)).tmod 2 = 1)
theorem has_dec : ∀ s, s < 64 → ∀ i, i < 6 → hasB (s : Nat) i = bitI (s : Nat) i := by decide +kernel
/-- The looks of a set are right. -/
def TD.rightS (t : TD) (so : Int) (h s : Nat → Int) : Bool := allB (fun i => !hasB so i || t.fit h i (s (t.lp i).toNat)) t.nL
/-- All truths, with the looks of a set. -/
def TD.truS (t : TD) (so : Int) : List ((Nat → Int) × (Nat → Int)) := t.hts.flatMap fun h => (t.sds.filter (t.rightS so h)).map fun s => (h, s)
theorem pow_le64 {n : Nat} (h : n ≤ 6) : (2 : Int) ^ n ≤ 64 := by
  have : n = 0 ∨ n = 1 ∨ n = 2 ∨ n = 3 ∨ n = 4 ∨ n = 5 ∨ n = 6 := by omega
  rcases this with h | h | h | h | h | h | h <;> rw [h] <;> decide
theorem truS_pick {t : TD} (hL : t.nL ≤ 6) {so : Int} (h0 : 0 ≤ so) (h1 : so < 2 ^ t.nL) : t.truS so = t.truL (pickL so t.nL) := by
  obtain ⟨n, rfl⟩ := Int.eq_ofNat_of_zero_le h0
  have hn : n < 64 := by have := pow_le64 hL; omega
  rw [TD.truS, TD.truL]
  congr 1
  funext h
  congr 1
  refine List.filter_congr fun s _ => ?_
  rw [TD.rightS, TD.fitsL, Bool.eq_iff_iff, allB_iff, List.all_eq_true]
  constructor
  · intro a i hi
    obtain ⟨h2, h3⟩ := pickL_mem.1 hi
    have := a i h2
    rw [has_dec n hn i (by omega), h3] at this
    exact this
  · intro a i hi
    rw [has_dec n hn i (by omega)]
    cases hb : bitI (n : Nat) i
    · rfl
    · exact a i (pickL_mem.2 ⟨hi, hb⟩)
theorem truS_all {t : TD} (hv : t.Valid) : t.truS (2 ^ t.nL - 1) = t.tru := by
  have hp : (0 : Int) < 2 ^ t.nL := by
    have : 0 < 2 ^ t.nL := Nat.pow_pos (by omega)
    exact_mod_cast this
  rw [truS_pick hv.2.2.1 (by omega) (by omega), pick_every hv]
/-- The best set so far, of the first c. -/
def clB (bad : Int → Bool) (ev : Int) : Nat → Int
  | 0 => ev
  | c + 1 => if oc64 (c : Int) < oc64 (clB bad ev c) ∧ bad c = true then (c : Int) else clB bad ev c
theorem oc_top : ∀ n : Nat, n < 7 → ∀ x : Nat, x < 2 ^ n → oc64 ((x : Nat) : Int) ≤ ((n : Nat) : Int) ∧ (oc64 ((x : Nat) : Int) = ((n : Nat) : Int) → x = 2 ^ n - 1) := by decide +kernel
theorem clB_ok {bad : Int → Bool} {n : Nat} (hn : n < 7) (hb : bad (2 ^ n - 1) = true) : ∀ c : Nat, c ≤ 2 ^ n → (bad (clB bad (2 ^ n - 1) c) = true ∧ 0 ≤ clB bad (2 ^ n - 1) c ∧ clB bad (2 ^ n - 1) c < 2 ^ n) ∧ (clB bad (2 ^ n - 1) c = 2 ^ n - 1 ∨ clB bad (2 ^ n - 1) c < c) ∧
    ∀ x : Int, 0 ≤ x → x < c → bad x = true → oc64 (clB bad (2 ^ n - 1) c) < oc64 x ∨ oc64 (clB bad (2 ^ n - 1) c) = oc64 x ∧ clB bad (2 ^ n - 1) c ≤ x
  | 0, _ => by
    have hp : (0 : Int) < 2 ^ n := by
      have : 0 < 2 ^ n := Nat.pow_pos (by omega)
      exact_mod_cast this
    exact ⟨⟨hb, by simp only [clB]; omega, by simp only [clB]; omega⟩, .inl rfl, fun x h1 h2 => by omega⟩
  | c + 1, hc => by
    obtain ⟨⟨h1, h2, h3⟩, h4, h5⟩ := clB_ok hn hb c (by omega)
    have hN : ((2 ^ n : Nat) : Int) = 2 ^ n := by norm_cast
    simp only [clB]
    split
    · rename_i h
      refine ⟨⟨h.2, by omega, by omega⟩, .inr (by omega), fun x a1 a2 a3 => ?_⟩
      rcases Int.lt_or_le x c with hlt | hge
      · rcases h5 x a1 hlt a3 with h6 | h6 <;> exact .inl (by omega)
      · have : x = c := by omega
        subst this
        exact .inr ⟨rfl, Int.le_refl _⟩
    · rename_i h
      refine ⟨⟨h1, h2, h3⟩, by omega, fun x a1 a2 a3 => ?_⟩
      rcases Int.lt_or_le x c with hlt | hge
      · exact h5 x a1 hlt a3
      · have : x = c := by omega
        subst this
        have h6 : ¬ oc64 (c : Int) < oc64 (clB bad (2 ^ n - 1) c) := fun h7 => h ⟨h7, a3⟩
        rcases Int.lt_or_eq_of_le (Int.not_lt.1 h6) with h7 | h7
        · exact .inl h7
        · refine .inr ⟨h7, ?_⟩
          rcases h4 with h8 | h8
          · have e := oc_top n hn c (by omega)
            have e2 := oc_dec n hn
            rw [h8, e2] at h7
            have := e.2 h7.symm
            have : (c : Int) = 2 ^ n - 1 := by rw [this]; have : 0 < 2 ^ n := Nat.pow_pos (by omega); omega
            omega
          · omega
theorem clash_ref {t : TD} (hv : t.Valid) (hn : t.tru = []) : t.clashT = ⟨clB (fun x => decide (t.truS x = [])) (2 ^ t.nL - 1) (2 ^ t.nL), 0⟩ := by
  have hL := hv.2.2.1
  have hp : (0 : Int) < 2 ^ t.nL := by
    have : 0 < 2 ^ t.nL := Nat.pow_pos (by omega)
    exact_mod_cast this
  have hN : ((2 ^ t.nL : Nat) : Int) = 2 ^ t.nL := by norm_cast
  rcases clash_law hv with ⟨h, _⟩ | ⟨v, _, e, h1, h2, h3, h4⟩
  · exact absurd hn h
  · obtain ⟨⟨a1, a2, a3⟩, _, a5⟩ := clB_ok (bad := fun x => decide (t.truS x = [])) (n := t.nL) (by omega) (by rw [decide_eq_true_eq, truS_all hv]; exact hn) (2 ^ t.nL) (Nat.le_refl _)
    rw [decide_eq_true_eq, truS_pick hL a2 a3] at a1
    have b1 := h4 _ a2 a3 a1
    have b2 := a5 v (by omega) (by omega) (by simp only [decide_eq_true_eq]; rw [truS_pick hL (by omega) h2]; exact h3)
    rw [e]
    congr 1
    omega
end Go.Proofs.YtipbempkngfdbaaDoor
/-
  Contracts of the specification: Under, right.
-/
namespace Go.Proofs.YtipbempkngfdbaaDoor
open Go Go.Sy
set_option linter.unusedSimpArgs false
set_option maxRecDepth 100000
set_option maxHeartbeats 4000000
attribute [local irreducible] CallP CodeP Ent YieldP

/-- A tide's rows, heights of marks, and of sand. -/
def HT (t : TD) (h s : Nat → Int) (n ns : Nat) : SHeap := t.H ++ [some (.roa 1 n fun k => [.int .i64 (h k)]), some (.roa 1 ns fun k => [.int .i64 (s k)])]
theorem t100 (t : TD) (hv : t.Valid) (h s : Nat → Int) (hh : okH h) (hs : ∀ p, p < t.nS → 0 ≤ s p ∧ s p ≤ 60) (n ns c c' : Nat) (hn : t.nM ≤ n) (hn2 : n ≤ 1000) (hns : t.nS ≤ ns) (p m : Int) (hp : 0 ≤ p ∧ p < t.nS) (hm : t.isMin m) :
    CallP Tryd.prog 100 [t.A, .agg [.osl true 3 1 n c, .osl true 4 1 ns c'], .int .i64 p, .int .i64 m] (HT t h s n ns) (Ret (.int .i64 (max0 (t.stand h m - s p.toNat))) (HT t h s n ns)) := by
  have st := stand_range hv hm hh
  have hsp := hs p.toNat (by omega)
  have ep : 0 + p.toNat = p.toNat := by omega
  have hp2 : p.toNat < ns := by omega
  refine callR (E := E) E_ok Tryd.func100 rfl ?_
  refine And.intro ?_ ?_
  · (repeat' (first | exact trivial | exact fun _ => rfl | exact rfl | refine And.intro ?_ ?_))
  refine drawP E_ok [5, 6] pl100_1 (by kernel_rfl) ?_
  refine And.intro (And.intro ?_ ?_) trivial
  · (repeat' (first | exact True.intro | exact d1 _ | exact d1t _ | exact d2 _ | exact d3 _ _ | exact d3f _ _ | exact fun _ _ => rfl | exact fun _ => rfl | exact rfl | refine And.intro ?_ ?_))
    all_goals first | omega | exact un (by omega)
  refine CallP.frameH (t119 t hv h hh n c hn hn2 m hm) [0, 1, 2, 3] (by (repeat' (first | exact trivial | exact rfl | exact fun _ _ => rfl | exact Or.inl rfl | refine And.intro ?_ ?_))) rfl ?_
  rintro ce h' ⟨rfl, rfl⟩
  refine ⟨rfl, ?_⟩
  refine And.intro ?_ ?_
  · (repeat' (first | exact True.intro | exact d1 _ | exact d1t _ | exact d2 _ | exact d3 _ _ | exact d3f _ _ | exact fun _ _ => rfl | exact fun _ => rfl | exact rfl | refine And.intro ?_ ?_))
    all_goals first | omega | exact un (by omega) | (rw [ep]; omega)
  refine And.intro rfl ?_
  rw [ep]
  refine And.intro trivial ?_
  exact ent_tau [0, 1, 2, 3, 4] ⟨by (repeat' (first | exact trivial | exact rfl | exact fun _ _ => rfl | exact Or.inl rfl | refine And.intro ?_ ?_)), by (repeat' (first | exact trivial | exact rfl | exact congrArg (SV.int .i64) (Int.natCast_succ _).symm | refine And.intro ?_ ?_)), rfl⟩
theorem t111 (t : TD) (hv : t.Valid) (h s : Nat → Int) (hh : okH h) (hs : ∀ p, p < t.nS → 0 ≤ s p ∧ s p ≤ 60) (n ns c c' : Nat) (hn : t.nM ≤ n) (hn2 : n ≤ 1000) (hns : t.nS ≤ ns) (so : Int) (hso : 0 ≤ so ∧ so ≤ 64) :
    CallP Tryd.prog 111 [t.A, .agg [.osl true 3 1 n c, .osl true 4 1 ns c'], .int .i64 so] (HT t h s n ns) (Ret (.bool (t.rightS so h s)) (HT t h s n ns)) := by
  have hL := hv.2.2.1
  refine callR (E := E) E_ok Tryd.func111 rfl ?_
  refine And.intro ?_ ?_
  · (repeat' (first | exact trivial | exact fun _ => rfl | exact rfl | refine And.intro ?_ ?_))
  refine loopP E_ok [0, 1, 2, 3, 4, 6] (fun i : Nat => [(7, .int .i64 i)]) (fun _ h => h) (fun i => i ≤ t.nL ∧ ∀ j, j < i → (!hasB so j || t.fit h j (s (t.lp j).toNat)) = true) (fun i => t.nL - i) 0 ⟨Nat.zero_le _, fun j h => absurd h (Nat.not_lt_zero j)⟩ ?_ ?_
  · exact ent_tau [0, 1, 2, 3, 4, 5, 6] ⟨by (repeat' (first | exact trivial | exact rfl | exact fun _ _ => rfl | exact Or.inl rfl | refine And.intro ?_ ?_)), by (repeat' (first | exact trivial | exact rfl | exact congrArg (SV.int .i64) (Int.natCast_succ _).symm | refine And.intro ?_ ?_)), rfl⟩
  rintro i ⟨hi, hall⟩
  refine And.intro ?_ (And.intro (fun hc => ?_) (fun hc => ?_))
  · (repeat' (first | exact trivial | exact fun _ => rfl | exact rfl | refine And.intro ?_ ?_))
  · have hlt : i < t.nL := by
      have := of_decide_eq_true hc
      omega
    have e2 : 0 + (i : Int).toNat = i := by omega
    have hl := hv.2.2.2.2.2 i hlt
    have hl1 : 0 ≤ t.lp i ∧ t.lp i < t.nS := by
      have := hl.1
      omega
    have hl2 : t.isMin (t.lm i) := hl.2.1
    have st := stand_range hv hl2 hh
    have hsp := hs (t.lp i).toNat (by omega)
    have c121 : CallP Tryd.prog 121 [.int .i64 so, .int .i64 i] [] (Ret (.bool (hasB so i)) []) := t121 so ⟨hso.1, by omega⟩ i (by omega)
    have c100 := t100 t hv h s hh hs n ns c c' hn hn2 hns (t.lp i) (t.lm i) hl1 hl2
    have c91 := t91 (max0 (t.stand h (t.lm i) - s (t.lp i).toNat)) (t.llo i) (t.lhi i)
    have ef : t.fit h i (s (t.lp i).toNat) = inB (max0 (t.stand h (t.lm i) - s (t.lp i).toNat)) (t.llo i) (t.lhi i) := rfl
    rw [← ef] at c91
    have nxt : (!hasB so i || t.fit h i (s (t.lp i).toNat)) = true → ∀ j, j < i + 1 → (!hasB so j || t.fit h j (s (t.lp j).toNat)) = true := fun hx j hj => by
      rcases Nat.lt_succ_iff_lt_or_eq.1 hj with h | rfl
      · exact hall j h
      · exact hx
    refine And.intro ?_ ?_
    · (repeat' (first | exact trivial | exact fun _ => rfl | exact rfl | refine And.intro ?_ ?_))
      all_goals first | omega | exact un (by omega)
    rw [e2]
    refine drawP E_ok [5, 6, 7] pl111_5 (by kernel_rfl) ?_
    refine And.intro (And.intro ?_ ?_) trivial
    · (repeat' (first | exact True.intro | exact d1 _ | exact d1t _ | exact d2 _ | exact d3 _ _ | exact d3f _ _ | exact fun _ _ => rfl | exact fun _ => rfl | exact rfl | refine And.intro ?_ ?_))
      all_goals first | omega | exact un (by omega)
    cases hb : hasB so i with
    | false =>
      rw [hb] at c121
      refine c121.use [] ?_ trivial rfl
      refine And.intro (And.intro ?_ (And.intro (fun h => absurd h (by decide)) (fun _ => ?_))) trivial
      · (repeat' (first | exact True.intro | exact d1 _ | exact d1t _ | exact d2 _ | exact d3 _ _ | exact d3f _ _ | exact fun _ _ => rfl | exact fun _ => rfl | exact rfl | refine And.intro ?_ ?_))
        all_goals first | omega | exact un (by omega)
      refine And.intro (And.intro ?_ (And.intro (fun h => absurd h (by decide)) (fun _ => ?_))) trivial
      · (repeat' (first | exact True.intro | exact d1 _ | exact d1t _ | exact d2 _ | exact d3 _ _ | exact d3f _ _ | exact fun _ _ => rfl | exact fun _ => rfl | exact rfl | refine And.intro ?_ ?_))
        all_goals first | omega | exact un (by omega)
      refine And.intro ?_ ?_
      · (repeat' (first | exact True.intro | exact d1 _ | exact d1t _ | exact d2 _ | exact d3 _ _ | exact d3f _ _ | exact fun _ _ => rfl | exact fun _ => rfl | exact rfl | refine And.intro ?_ ?_))
        all_goals first | omega | exact un (by omega)
      refine And.intro rfl ?_
      refine And.intro ?_ (And.intro (fun hx => ?_) (fun hx => ?_))
      · (repeat' (first | exact True.intro | exact d1 _ | exact d1t _ | exact d2 _ | exact d3 _ _ | exact d3f _ _ | exact fun _ _ => rfl | exact fun _ => rfl | exact rfl | refine And.intro ?_ ?_))
      · exact absurd hx (by decide)
      · refine And.intro ?_ ?_
        · (repeat' (first | exact trivial | exact fun _ => rfl | exact rfl | refine And.intro ?_ ?_))
          all_goals omega
        refine ⟨i + 1, ⟨hlt, nxt (by rw [hb]; rfl)⟩, by omega, ?_⟩
        exact ent_tau [0, 1, 2, 3, 4, 5, 6] ⟨by (repeat' (first | exact trivial | exact rfl | exact fun _ _ => rfl | exact Or.inl rfl | refine And.intro ?_ ?_)), by (repeat' (first | exact trivial | exact rfl | exact congrArg (SV.int .i64) (Int.natCast_succ _).symm | refine And.intro ?_ ?_)), rfl⟩
    | true =>
      rw [hb] at c121
      refine c121.use [] ?_ trivial rfl
      refine And.intro (And.intro ?_ (And.intro (fun hgd => ?_) (fun hgd => absurd hgd (by decide)))) trivial
      · (repeat' (first | exact True.intro | exact d1 _ | exact d1t _ | exact d2 _ | exact d3 _ _ | exact d3f _ _ | exact fun _ _ => rfl | exact fun _ => rfl | exact rfl | refine And.intro ?_ ?_))
        all_goals first | omega | exact un (by omega)
      refine c100.use [0, 1, 2, 3, 4] ?_ (by (repeat' (first | exact trivial | exact rfl | exact fun _ _ => rfl | exact Or.inl rfl | refine And.intro ?_ ?_))) rfl
      refine And.intro (And.intro ?_ (And.intro (fun hgd => ?_) (fun hgd => absurd hgd (by decide)))) trivial
      · (repeat' (first | exact True.intro | exact d1 _ | exact d1t _ | exact d2 _ | exact d3 _ _ | exact d3f _ _ | exact fun _ _ => rfl | exact fun _ => rfl | exact rfl | refine And.intro ?_ ?_))
        all_goals first | omega | exact un (by omega)
      refine c91.use [] ?_ trivial rfl
      refine And.intro ?_ ?_
      · (repeat' (first | exact True.intro | exact d1 _ | exact d1t _ | exact d2 _ | exact d3 _ _ | exact d3f _ _ | exact fun _ _ => rfl | exact fun _ => rfl | exact rfl | refine And.intro ?_ ?_))
        all_goals first | omega | exact un (by omega)
      refine And.intro rfl ?_
      refine And.intro ?_ (And.intro (fun hx => ?_) (fun hx => ?_))
      · (repeat' (first | exact True.intro | exact d1 _ | exact d1t _ | exact d2 _ | exact d3 _ _ | exact d3f _ _ | exact fun _ _ => rfl | exact fun _ => rfl | exact rfl | refine And.intro ?_ ?_))
      · have e : t.rightS so h s = false := by
          cases hr : t.rightS so h s
          · rfl
          · rw [TD.rightS, allB_iff] at hr
            have := hr i hlt
            rw [hb, Bool.not_true, Bool.false_or] at this
            rw [this] at hx
            cases hx
        (repeat' (first | exact trivial | exact fun _ => rfl | exact rfl | refine And.intro ?_ ?_))
        rw [e]
        exact ent_tau [0, 1, 2, 3, 4] ⟨by (repeat' (first | exact trivial | exact rfl | exact fun _ _ => rfl | exact Or.inl rfl | refine And.intro ?_ ?_)), by (repeat' (first | exact trivial | exact rfl | exact congrArg (SV.int .i64) (Int.natCast_succ _).symm | refine And.intro ?_ ?_)), rfl⟩
      · refine And.intro ?_ ?_
        · (repeat' (first | exact trivial | exact fun _ => rfl | exact rfl | refine And.intro ?_ ?_))
          all_goals omega
        refine ⟨i + 1, ⟨hlt, nxt ?_⟩, by omega, ?_⟩
        · rw [hb, Bool.not_true, Bool.false_or]
          cases hf : t.fit h i (s (t.lp i).toNat)
          · rw [hf] at hx
            cases hx
          · rfl
        exact ent_tau [0, 1, 2, 3, 4, 5, 6] ⟨by (repeat' (first | exact trivial | exact rfl | exact fun _ _ => rfl | exact Or.inl rfl | refine And.intro ?_ ?_)), by (repeat' (first | exact trivial | exact rfl | exact congrArg (SV.int .i64) (Int.natCast_succ _).symm | refine And.intro ?_ ?_)), rfl⟩
  · have e : i = t.nL := by
      have := of_decide_eq_false hc
      omega
    subst e
    refine And.intro ?_ ?_
    · (repeat' (first | exact trivial | exact fun _ => rfl | exact rfl | refine And.intro ?_ ?_))
    refine And.intro ?_ ?_
    · (repeat' (first | exact trivial | exact fun _ => rfl | exact rfl | refine And.intro ?_ ?_))
    have e : t.rightS so h s = true := by
      rw [TD.rightS, allB_iff]
      exact hall
    rw [e]
    exact ent_tau [0, 1, 2, 3, 4] ⟨by (repeat' (first | exact trivial | exact rfl | exact fun _ _ => rfl | exact Or.inl rfl | refine And.intro ?_ ?_)), by (repeat' (first | exact trivial | exact rfl | exact congrArg (SV.int .i64) (Int.natCast_succ _).symm | refine And.intro ?_ ?_)), rfl⟩
end Go.Proofs.YtipbempkngfdbaaDoor
