/-
  Parts: D3, D4, F4, D9, C7, C9, F8, R1, R2, G3, Sy28.
-/
import Derived.Test.YtipbempkngfdbaaGreatDoorK23
import Derived.Test.YtipbempkngfdbaaGreatDoorK22
import Derived.Test.YtipbempkngfdbaaGreatDoorK19
import Derived.Test.YtipbempkngfdbaaGreatDoorK20
import Derived.Test.YtipbempkngfdbaaGreatDoorK11
set_option linter.unusedVariables false
/-
  The plain law of TideEnds, TideTrue: sums of depths, and places by bits.
-/
namespace Go.Proofs.YtipbempkngfdbaaGreatDoor
open Go Go.Sy
set_option maxRecDepth 100000
set_option maxHeartbeats 4000000

/-- How many truths have a depth from a on, below n. -/
def TD.upTo (t : TD) (m : Int) (p : Nat) (a n : Int) : Nat := (t.tru.filter fun x => inB (t.dep m p x) a (n - 1)).length
def bs4 (a b c d : Bool) (j : Nat) : Bool := [a, b, c, d].getD j false
theorem bs4_eq (f : Nat → Bool) : ∀ j, j < 4 → f j = bs4 (f 0) (f 1) (f 2) (f 3) j := fun j hj => by
  have : j = 0 ∨ j = 1 ∨ j = 2 ∨ j = 3 := by omega
  rcases this with rfl | rfl | rfl | rfl <;> rfl
theorem bitsF_congr {f g : Nat → Bool} : ∀ {c : Nat}, (∀ j, j < c → f j = g j) → bitsF f c = bitsF g c
  | 0, _ => rfl
  | c + 1, h => by rw [bitsF, bitsF, bitsF_congr (c := c) fun j hj => h j (by omega), h c (by omega)]
theorem bits_range_dec : ∀ n, n < 5 → ∀ a b c d : Bool, 0 ≤ bitsF (bs4 a b c d) n ∧ bitsF (bs4 a b c d) n < 2 ^ n := by decide +kernel
theorem bitsF_range (f : Nat → Bool) {n : Nat} (hn : n ≤ 4) : 0 ≤ bitsF f n ∧ bitsF f n < 2 ^ n := by
  rw [bitsF_congr (g := bs4 (f 0) (f 1) (f 2) (f 3)) fun j hj => bs4_eq f j (by omega)]
  exact bits_range_dec n (by omega) _ _ _ _
/-- How many truths have a depth from l to h. -/
def TD.num (t : TD) (m : Int) (p : Nat) (l h : Int) : Nat := (t.tru.filter fun x => inB (t.dep m p x) l h).length
theorem num_all {t : TD} {m : Int} {p : Nat} {l h : Int} : t.num m p l h = t.tru.length ↔ ∀ x ∈ t.tru, inB (t.dep m p x) l h = true := by
  rw [TD.num, List.length_filter_eq_length_iff]
theorem num_pos {t : TD} {m : Int} {p : Nat} {l h : Int} : 0 < t.num m p l h ↔ ∃ x ∈ t.tru, inB (t.dep m p x) l h = true := by
  rw [TD.num, List.length_pos_iff_exists_mem]
  simp [List.mem_filter]
/-- What Places tells, where there are truths. -/
theorem places_law {t : TD} (hv : t.Valid) (hn : t.tru ≠ []) {m : Int} (hm : t.isMin m) {l h : Int} (hl : 0 ≤ l ∧ l ≤ 60) (hh : 0 ≤ h ∧ h ≤ 60) :
    ∃ S P : Nat → Bool, t.placesT m l h = ⟨(bitsF S t.nS, bitsF P t.nS), 0⟩ ∧ ∀ p, p < t.nS → (S p = true ↔ t.num m p l h = t.tru.length) ∧ (P p = true ↔ 0 < t.num m p l h) := by
  have hna : t.all ≠ [] := fun h => hn ((all_nil hv).1 h)
  refine ⟨_, _, by unfold TD.placesT; rw [if_neg (fun h => h hv), if_neg (fun h => h ⟨hm, hl, hh⟩), if_neg hna], fun p hp => ⟨?_, ?_⟩⟩
  · rw [num_all, Bool.not_eq_true', ← Bool.not_eq_true, anyOut, any_dep hv hp (m := m) fun d => !inB d l h]
    constructor
    · intro h1 x hx
      cases hb : inB (t.dep m p x) l h
      · exact absurd ⟨x, hx, by rw [hb]; rfl⟩ h1
      · rfl
    · rintro h1 ⟨x, hx, hb⟩
      rw [h1 x hx] at hb
      cases hb
  · rw [num_pos, anyIn, any_dep hv hp (m := m) fun d => inB d l h]
end Go.Proofs.YtipbempkngfdbaaGreatDoor
/-
  The plain law of Clash.
-/
namespace Go.Proofs.YtipbempkngfdbaaGreatDoor
open Go Go.Sy
set_option maxRecDepth 100000
set_option maxHeartbeats 4000000

def TD.fitsL (t : TD) (L : List Nat) (h s : Nat → Int) : Bool := L.all fun i => t.fit h i (s (t.lp i).toNat)
/-- All truths, by some looks. -/
def TD.truL (t : TD) (L : List Nat) : List ((Nat → Int) × (Nat → Int)) := t.hts.flatMap fun h => (t.sds.filter (t.fitsL L h)).map fun s => (h, s)
theorem truL_congr {t : TD} {L L' : List Nat} (h : ∀ i, i ∈ L ↔ i ∈ L') : t.truL L = t.truL L' := by
  rw [TD.truL, TD.truL]
  congr 1
  funext x
  congr 1
  refine List.filter_congr fun s _ => ?_
  rw [TD.fitsL, TD.fitsL, Bool.eq_iff_iff, List.all_eq_true, List.all_eq_true]
  exact ⟨fun a i hi => a i ((h i).2 hi), fun a i hi => a i ((h i).1 hi)⟩
theorem tru_all (t : TD) : t.tru = t.truL (List.range t.nL) := by
  rw [TD.truL, TD.tru]
  congr 1
  funext h
  congr 1
  refine List.filter_congr fun s _ => ?_
  rw [TD.right, TD.fitsL, Bool.eq_iff_iff, allB_iff, List.all_eq_true]
  simp only [List.mem_range]
/-! ### Sets -/
/-- Look n is of a set, in the statement's numbers. -/
def bitI (so : Int) (n : Nat) : Bool := decide (bitOp .and .i64 (so.fdiv (2 ^ n)) 1 = 1)
/-- The looks of a set, of the first k. -/
def pickL (so : Int) : Nat → List Nat
  | 0 => []
  | k + 1 => if bitI so k = true then pickL so k ++ [k] else pickL so k
theorem pickL_mem {so : Int} {i : Nat} : ∀ {k : Nat}, i ∈ pickL so k ↔ i < k ∧ bitI so i = true
  | 0 => by simp [pickL]
  | k + 1 => by
    simp only [pickL]
    split
    · rename_i h
      rw [List.mem_append, pickL_mem (k := k), List.mem_singleton]
      constructor
      · rintro (⟨a, b⟩ | rfl)
        · exact ⟨by omega, b⟩
        · exact ⟨by omega, h⟩
      · rintro ⟨a, b⟩
        rcases Nat.lt_succ_iff_lt_or_eq.1 a with c | c
        · exact .inl ⟨c, b⟩
        · exact .inr c
    · rename_i h
      rw [pickL_mem (k := k)]
      constructor
      · rintro ⟨a, b⟩
        exact ⟨by omega, b⟩
      · rintro ⟨a, b⟩
        rcases Nat.lt_succ_iff_lt_or_eq.1 a with c | c
        · exact ⟨c, b⟩
        · subst c
          exact absurd b h
theorem every_dec : ∀ n, n < 7 → ∀ i, i < n → bitI (2 ^ n - 1) i = true := by decide +kernel
theorem pick_every {t : TD} (hv : t.Valid) : t.truL (pickL (2 ^ t.nL - 1) t.nL) = t.tru := by
  rw [tru_all]
  refine truL_congr fun i => ?_
  rw [pickL_mem, List.mem_range]
  exact ⟨fun a => a.1, fun a => ⟨a, every_dec t.nL (by have := hv.2.2.1; omega) i a⟩⟩
end Go.Proofs.YtipbempkngfdbaaGreatDoor
/-
  Contract: made, its last part: looks that are right.
-/
namespace Go.Proofs.YtipbempkngfdbaaGreatDoor
open Go Go.Sy
set_option linter.unusedSimpArgs false
set_option maxRecDepth 100000
set_option maxHeartbeats 4000000
attribute [local irreducible] CallP CodeP Ent YieldP

/-- A tide whose looks are right, if marks and sand are so high. -/
structure Made (t : TD) (h s : Nat → Int) : Prop where
  v : t.Valid
  ok : t.ok
  hh : okH h
  hm : ∀ i, i < t.nM → t.mlo i ≤ h i ∧ h i ≤ t.mhi i
  hz : ∀ i, t.nM ≤ i → h i = 0
  ss : ∀ p, p < t.nS → (t.slo p ≤ s p ∧ s p ≤ t.shi p) ∧ 0 ≤ s p ∧ s p ≤ 60
  sz : ∀ p, t.nS ≤ p → s p = 0
  fit : ∀ i, i < t.nL → t.fit h i (s (t.lp i).toNat) = true
end Go.Proofs.YtipbempkngfdbaaGreatDoor
/-
  The plain law of TideMore: looks that say more, and places numbered otherwise.
-/
namespace Go.Proofs.YtipbempkngfdbaaGreatDoor
open Go Go.Sy
set_option maxRecDepth 100000
set_option maxHeartbeats 4000000

/-- What is told of the height, where there are truths. -/
structure HgtIs (t : TD) (m lo hi : Int) : Prop where
  v : t.height m = ⟨(lo, hi), 0⟩
  bnd : ∀ x ∈ t.tru, lo ≤ t.stand x.1 m ∧ t.stand x.1 m ≤ hi
  lo : ∃ x ∈ t.tru, t.stand x.1 m = lo
  hi : ∃ x ∈ t.tru, t.stand x.1 m = hi
theorem tru_of_all {t : TD} (hv : t.Valid) {y : Tr} (hy : y ∈ t.all) : ∃ x ∈ t.tru, x.1 = y.h := by
  obtain ⟨h, h1, h2, rfl⟩ := all_mem.1 hy
  have hs := (some_iff hv).1 h2
  obtain ⟨g1, g2⟩ := sand_right hv (h := h) (f := fun p => loE (t.set h p)) fun p hp => ((set_is hv h hp).ends (hs p hp)).1
  exact ⟨(h, _), tru_mem.2 ⟨h1, g1, g2⟩, rfl⟩
theorem hgt_is {t : TD} (hv : t.Valid) (hn : t.tru ≠ []) {m : Int} (hm : t.isMin m) : ∃ lo hi, HgtIs t m lo hi := by
  have hna : t.all ≠ [] := fun h => hn ((all_nil hv).1 h)
  obtain ⟨lo, hi, hH⟩ := hull hv hna hm
  refine ⟨lo, hi, hH.v, fun x hx => ?_, ?_, ?_⟩
  · obtain ⟨h1, h2, h3⟩ := tru_mem.1 hx
    exact hH.bnd (t.tr x.1) (all_mem.2 ⟨_, h1, some_of hv h2 h3, rfl⟩)
  · obtain ⟨y, hy, e⟩ := hH.lo
    obtain ⟨x, hx, e2⟩ := tru_of_all hv hy
    exact ⟨x, hx, by rw [e2, e]⟩
  · obtain ⟨y, hy, e⟩ := hH.hi
    obtain ⟨x, hx, e2⟩ := tru_of_all hv hy
    exact ⟨x, hx, by rw [e2, e]⟩

theorem depth_nil {t : TD} (hv : t.Valid) (hn : t.tru = []) {p m : Int} (hpl : t.isPl p) (hm : t.isMin m) : t.depthT p m = ⟨(0, 0), 10⟩ := by
  unfold TD.depthT
  rw [if_neg (fun h => h hv), if_neg (fun h => h ⟨hpl, hm⟩), if_pos ((all_nil hv).2 hn)]
theorem height_nil {t : TD} (hv : t.Valid) (hn : t.tru = []) {m : Int} (hm : t.isMin m) : t.height m = ⟨(0, 0), 10⟩ := by
  unfold TD.height
  rw [if_neg (fun h => h hv), if_neg (fun h => h hm), if_pos ((all_nil hv).2 hn)]

/-! ### Looks that say more -/
/-- The same marks and sand, and looks that say at least as much. -/
structure Tight (t q : TD) : Prop where
  hts : q.hts = t.hts
  sds : q.sds = t.sds
  nS : q.nS = t.nS
  stand : ∀ h m, q.stand h m = t.stand h m
  isMin : ∀ m, q.isMin m ↔ t.isMin m
  right : ∀ h s, q.right h s = true → t.right h s = true
theorem Tight.sub {t q : TD} (T : Tight t q) : ∀ x ∈ q.tru, x ∈ t.tru := fun x hx => by
  obtain ⟨h1, h2, h3⟩ := tru_mem.1 hx
  exact tru_mem.2 ⟨T.hts ▸ h1, T.sds ▸ h2, T.right _ _ h3⟩
theorem Tight.len {t q : TD} (T : Tight t q) : q.tru.length ≤ t.tru.length := by
  have : q.tru = t.tru.filter fun x => q.right x.1 x.2 := by
    have e : q.tru = t.hts.flatMap fun h => (t.sds.filter (q.right h)).map fun s => (h, s) := by rw [TD.tru, T.hts, T.sds]
    rw [e, TD.tru, List.filter_flatMap]
    congr 1
    funext h
    rw [List.filter_map, List.filter_filter]
    congr 1
    refine List.filter_congr fun s _ => ?_
    rw [Bool.eq_iff_iff, Bool.and_eq_true]
    exact ⟨fun a => ⟨a, T.right _ _ a⟩, fun a => a.1⟩
  rw [this]
  exact List.length_filter_le _ _
/-! ### Places numbered otherwise -/
section
variable {t : TD} {bS : Bool} {cS : Nat} {bL : Bool} {cL : Nat}
end
section
variable {t : TD} (bS : Bool) (cS : Nat) (bL : Bool) (cL : Nat)
end
end Go.Proofs.YtipbempkngfdbaaGreatDoor
/-
  The plain law of spans of good minutes.
-/
namespace Go.Proofs.YtipbempkngfdbaaGreatDoor
open Go Go.Sy
set_option maxRecDepth 100000

/-- Spans of the good ones of the minutes from lo on, below m: in order, no two meet, and just the good ones are in them. -/
structure Sps (good : Int → Bool) (lo m : Int) (o : List (Int × Int)) : Prop where
  wf : ∀ i, i < o.length → lo ≤ (o.getD i (0, 0)).1 ∧ (o.getD i (0, 0)).1 ≤ (o.getD i (0, 0)).2 ∧ (o.getD i (0, 0)).2 < m
  apart : ∀ i, 0 < i → i < o.length → (o.getD (i - 1) (0, 0)).2 + 1 < (o.getD i (0, 0)).1
  mem : ∀ x, lo ≤ x → x < m → (good x = true ↔ ∃ i, i < o.length ∧ (o.getD i (0, 0)).1 ≤ x ∧ x ≤ (o.getD i (0, 0)).2)
theorem getD_append (o : List (Int × Int)) (v : Int × Int) (i : Nat) : (o ++ [v]).getD i (0, 0) = if i < o.length then o.getD i (0, 0) else if i = o.length then v else (0, 0) := by
  rw [List.getD_eq_getElem?_getD, List.getD_eq_getElem?_getD]
  rcases Nat.lt_trichotomy i o.length with h | h | h
  · rw [List.getElem?_append_left h, if_pos h]
  · subst h
    simp
  · rw [List.getElem?_eq_none (by simp; omega), if_neg (by omega), if_neg (by omega)]
    rfl
theorem Sps.step {good : Int → Bool} {lo m : Int} {o : List (Int × Int)} (h : Sps good lo m o) (hm : lo ≤ m) : Sps good lo (m + 1) (stepS (good m) o m) := by
  unfold stepS
  by_cases hg : good m = false
  · rw [if_pos hg]
    refine ⟨fun i hi => by have := h.wf i hi; omega, h.apart, fun x hx hx' => ?_⟩
    rcases Int.lt_or_le x m with hlt | hge
    · exact h.mem x hx hlt
    · have : x = m := by omega
      subst this
      rw [hg]
      refine ⟨fun h => (by cases h), fun ⟨i, hi, _, h2⟩ => ?_⟩
      have := (h.wf i hi).2.2
      omega
  · rw [if_neg hg]
    have hg' : good m = true := by simpa using hg
    by_cases hc : 0 < o.length ∧ (o.getD (o.length - 1) (0, 0)).2 + 1 = m
    · rw [if_pos hc]
      obtain ⟨h0, h1⟩ := hc
      have hl := h.wf (o.length - 1) (by omega)
      have ge : ∀ i, (o.set (o.length - 1) ((o.getD (o.length - 1) (0, 0)).1, (o.getD (o.length - 1) (0, 0)).2 + 1)).getD i (0, 0) = if i = o.length - 1 then ((o.getD (o.length - 1) (0, 0)).1, (o.getD (o.length - 1) (0, 0)).2 + 1) else o.getD i (0, 0) := fun i => getD_set o _ i _ (by omega)
      refine ⟨fun i hi => ?_, fun i h2 h3 => ?_, fun x hx hx' => ?_⟩
      · rw [List.length_set] at hi
        rw [ge]
        split
        · simp only
          omega
        · have := h.wf i hi
          omega
      · rw [List.length_set] at h3
        have := h.apart i h2 h3
        rw [ge, ge, if_neg (by omega)]
        split
        · rename_i e
          subst e
          exact this
        · exact this
      · rw [List.length_set]
        rcases Int.lt_or_le x m with hlt | hge
        · rw [h.mem x hx hlt]
          refine ⟨fun ⟨i, hi, a, b⟩ => ⟨i, hi, ?_⟩, fun ⟨i, hi, a⟩ => ⟨i, hi, ?_⟩⟩
          · rw [ge]
            split
            · rename_i e
              subst e
              simp only
              omega
            · exact ⟨a, b⟩
          · rw [ge] at a
            split at a
            · rename_i e
              subst e
              simp only at a
              omega
            · exact a
        · have : x = m := by omega
          subst this
          refine ⟨fun _ => ⟨o.length - 1, by omega, ?_⟩, fun _ => hg'⟩
          rw [ge, if_pos rfl]
          simp only
          omega
    · rw [if_neg hc]
      refine ⟨fun i hi => ?_, fun i h2 h3 => ?_, fun x hx hx' => ?_⟩
      · rw [List.length_append, List.length_singleton] at hi
        rw [getD_append]
        split
        · rename_i h4
          have := h.wf i h4
          omega
        · rw [if_pos (by omega)]
          simp only
          omega
      · rw [List.length_append, List.length_singleton] at h3
        rw [getD_append, getD_append, if_pos (show i - 1 < o.length by omega)]
        split
        · rename_i h4
          exact h.apart i h2 h4
        · rw [if_pos (by omega)]
          have e : i - 1 = o.length - 1 := by omega
          rw [e]
          have := h.wf (o.length - 1) (by omega)
          have : ¬ ((o.getD (o.length - 1) (0, 0)).2 + 1 = m) := fun h5 => hc ⟨by omega, h5⟩
          simp only
          omega
      · rw [List.length_append, List.length_singleton]
        rcases Int.lt_or_le x m with hlt | hge
        · rw [h.mem x hx hlt]
          refine ⟨fun ⟨i, hi, a⟩ => ⟨i, by omega, ?_⟩, fun ⟨i, hi, a⟩ => ?_⟩
          · rw [getD_append, if_pos hi]
            exact a
          · rw [getD_append] at a
            split at a
            · rename_i h4
              exact ⟨i, h4, a⟩
            · rw [if_pos (by omega)] at a
              simp only at a
              omega
        · have : x = m := by omega
          subst this
          refine ⟨fun _ => ⟨o.length, by omega, ?_⟩, fun _ => hg'⟩
          rw [getD_append, if_neg (by omega), if_pos rfl]
          simp only
          omega
end Go.Proofs.YtipbempkngfdbaaGreatDoor
/-
  The plain law of TideServed.
-/
namespace Go.Proofs.YtipbempkngfdbaaGreatDoor
open Go Go.Sy
set_option maxRecDepth 100000

theorem Sps.low {good : Int → Bool} {lo m : Int} {o : List (Int × Int)} (h : Sps good lo m o) : ∀ i : Nat, i < o.length → lo + i ≤ (o.getD i (0, 0)).1
  | 0, hi => by
    have := h.wf 0 hi
    omega
  | i + 1, hi => by
    have h1 := h.low i (by omega)
    have h2 := h.wf i (by omega)
    have h3 := h.apart (i + 1) (by omega) hi
    have e : i + 1 - 1 = i := by omega
    rw [e] at h3
    omega
theorem Sps.len {good : Int → Bool} {lo m : Int} {o : List (Int × Int)} (h : Sps good lo m o) (hm : lo ≤ m) : (o.length : Int) ≤ m - lo := by
  rcases Nat.eq_zero_or_pos o.length with h0 | h0
  · omega
  · have h1 := h.low (o.length - 1) (by omega)
    have h2 := h.wf (o.length - 1) (by omega)
    omega
end Go.Proofs.YtipbempkngfdbaaGreatDoor
/-
  TideTrue, the plain law: what is told holds in each truth.
-/
namespace Go.Proofs.YtipbempkngfdbaaGreatDoor
open Go Go.Sy
set_option maxRecDepth 100000
set_option maxHeartbeats 4000000

theorem sand_in {t : TD} (hv : t.Valid) {x : (Nat → Int) × (Nat → Int)} (hx : x ∈ t.tru) {p : Nat} (hp : p < t.nS) : ∃ lo hi, t.sandT p = ⟨(lo, hi), 0⟩ ∧ lo ≤ x.2 p ∧ x.2 p ≤ hi := by
  have hn : t.tru ≠ [] := fun e => by rw [e] at hx; cases hx
  have hna : t.all ≠ [] := fun h => hn ((all_nil hv).1 h)
  have hpl : t.isPl (p : Int) := ⟨by omega, by omega⟩
  refine ⟨_, _, by unfold TD.sandT; rw [if_neg (fun h => h hv), if_neg (fun h => h hpl), if_neg hna], ?_⟩
  obtain ⟨h1, h2, h3⟩ := tru_mem.1 hx
  have hs := some_of hv h2 h3
  have e : (t.tr x.1).s p = t.set x.1 p := by simp only [TD.tr, if_pos hp]
  have hy : t.tr x.1 ∈ t.all := all_mem.2 ⟨_, h1, hs, rfl⟩
  have a1 := (hul_mem (a := fun x => loE (x.s (p : Int).toNat)) hy).1
  have a2 := (hul_mem (a := fun x => hiE (x.s (p : Int).toNat)) hy).2
  have b := ((set_is hv x.1 hp).ends ((some_iff hv).1 hs p hp)).2.2 (x.2 p) ((sds_mem.1 h2).1 p hp).1 ((sds_mem.1 h2).1 p hp).2 ((right_iff hv).1 h3 p hp)
  simp only [Int.toNat_natCast, e] at a1 a2
  exact ⟨Int.le_trans a1 b.1, Int.le_trans b.2 a2⟩
end Go.Proofs.YtipbempkngfdbaaGreatDoor
/-
  The plain law: what the specification folds over all truths is what is told.
-/
namespace Go.Proofs.YtipbempkngfdbaaGreatDoor
open Go Go.Sy
set_option maxRecDepth 100000
set_option maxHeartbeats 4000000

/-! ### Least and greatest -/
def spF (f : Nat → Int) : Nat → Int × Int
  | 0 => (60, 0)
  | i + 1 => (if f i < (spF f i).1 then f i else (spF f i).1, if f i > (spF f i).2 then f i else (spF f i).2)
theorem spF_bnd {f : Nat → Int} : ∀ n, (∀ i, i < n → (spF f n).1 ≤ f i ∧ f i ≤ (spF f n).2)
  | 0, i, hi => absurd hi (Nat.not_lt_zero i)
  | n + 1, i, hi => by
    simp only [spF]
    rcases Nat.lt_succ_iff_lt_or_eq.1 hi with h | rfl
    · have := spF_bnd (f := f) n i h
      exact ⟨by by_cases c : f n < (spF f n).1 <;> simp only [c, if_true, if_false] <;> omega, by by_cases c : f n > (spF f n).2 <;> simp only [c, if_true, if_false] <;> omega⟩
    · exact ⟨by by_cases c : f i < (spF f i).1 <;> simp only [c, if_true, if_false] <;> omega, by by_cases c : f i > (spF f i).2 <;> simp only [c, if_true, if_false] <;> omega⟩
theorem spF_at {f : Nat → Int} : ∀ n, 0 < n → (∀ i, i < n → 0 ≤ f i ∧ f i ≤ 60) → (∃ i, i < n ∧ f i = (spF f n).1) ∧ ∃ i, i < n ∧ f i = (spF f n).2
  | 0, h, _ => absurd h (Nat.lt_irrefl 0)
  | 1, _, hb => by
    have := hb 0 (by omega)
    simp only [spF]
    exact ⟨⟨0, by omega, by by_cases c : f 0 < 60 <;> simp only [c, if_true, if_false]; omega⟩, 0, by omega, by by_cases c : f 0 > 0 <;> simp only [c, if_true, if_false]; omega⟩
  | n + 2, _, hb => by
    obtain ⟨⟨a, ha, ea⟩, b, hb', eb⟩ := spF_at (n + 1) (by omega) fun i hi => hb i (by omega)
    rw [spF]
    refine ⟨?_, ?_⟩
    · simp only
      split
      · exact ⟨n + 1, by omega, rfl⟩
      · exact ⟨a, by omega, ea⟩
    · simp only
      split
      · exact ⟨n + 1, by omega, rfl⟩
      · exact ⟨b, by omega, eb⟩
theorem spF_range {f : Nat → Int} {n : Nat} (hb : ∀ i, i < n → 0 ≤ f i ∧ f i ≤ 60) : (0 ≤ (spF f n).1 ∧ (spF f n).1 ≤ 60) ∧ 0 ≤ (spF f n).2 ∧ (spF f n).2 ≤ 60 := by
  rcases Nat.eq_zero_or_pos n with rfl | hn
  · simp [spF]
  · obtain ⟨⟨a, ha, ea⟩, b, hb', eb⟩ := spF_at n hn hb
    rw [← ea, ← eb]
    exact ⟨hb a ha, hb b hb'⟩
abbrev Tru := (Nat → Int) × (Nat → Int)
def noTru : Tru := (fun _ => 0, fun _ => 0)
/-- Least and greatest over a list of truths. -/
def spL (φ : Tru → Int) (X : List Tru) : Int × Int := spF (fun i => φ (X.getD i noTru)) X.length
theorem truD_mem {X : List Tru} {i : Nat} (h : i < X.length) : X.getD i noTru ∈ X := by
  rw [List.getD_eq_getElem?_getD, List.getElem?_eq_getElem h]
  exact List.getElem_mem h
theorem mem_truD {X : List Tru} {x : Tru} (h : x ∈ X) : ∃ i, i < X.length ∧ X.getD i noTru = x := by
  obtain ⟨i, hi, e⟩ := List.getElem_of_mem h
  exact ⟨i, hi, by rw [List.getD_eq_getElem?_getD, List.getElem?_eq_getElem hi]; exact e⟩
theorem spL_eq {φ : Tru → Int} {X : List Tru} {lo hi : Int} (h0 : ∀ x ∈ X, 0 ≤ φ x ∧ φ x ≤ 60) (hb : ∀ x ∈ X, lo ≤ φ x ∧ φ x ≤ hi) (h1 : ∃ x ∈ X, φ x = lo) (h2 : ∃ x ∈ X, φ x = hi) : spL φ X = (lo, hi) := by
  obtain ⟨x1, m1, e1⟩ := h1
  obtain ⟨x2, m2, e2⟩ := h2
  obtain ⟨i1, l1, g1⟩ := mem_truD m1
  obtain ⟨i2, l2, g2⟩ := mem_truD m2
  have B := spF_bnd (f := fun i => φ (X.getD i noTru)) X.length
  obtain ⟨⟨a, ha, ea⟩, b, hb', eb⟩ := spF_at (f := fun i => φ (X.getD i noTru)) X.length (by omega) fun i hi => h0 _ (truD_mem hi)
  have A1 := (B i1 l1).1
  have A2 := (B i2 l2).2
  have A3 := (hb _ (truD_mem ha)).1
  have A4 := (hb _ (truD_mem hb')).2
  simp only [g1, g2] at A1 A2 ea eb
  have e3 : (spL φ X).1 = lo := by unfold spL; omega
  have e4 : (spL φ X).2 = hi := by unfold spL; omega
  exact Prod.ext e3 e4

theorem tru_hh {t : TD} (hv : t.Valid) {x : Tru} (hx : x ∈ t.tru) : (∀ i, i < t.nM → t.mlo i ≤ x.1 i ∧ x.1 i ≤ t.mhi i) ∧ (∀ p, p < t.nS → t.slo p ≤ x.2 p ∧ x.2 p ≤ t.shi p) := by
  obtain ⟨h1, h2, h3⟩ := tru_mem.1 hx
  exact ⟨(hts_mem.1 h1).1, (sds_mem.1 h2).1⟩
theorem hts_ok {t : TD} (hv : t.Valid) {h : Nat → Int} (hh : h ∈ t.hts) : okH h := fun i => by
  obtain ⟨h1, h2⟩ := hts_mem.1 hh
  rcases Nat.lt_or_ge i t.nM with hi | hi
  · have := h1 i hi
    have := (hv.2.2.2.1 i hi).2.1
    omega
  · rw [h2 i hi]
    omega
theorem stand_tru {t : TD} (hv : t.Valid) {m : Int} (hm : t.isMin m) {x : Tru} (hx : x ∈ t.tru) : 0 ≤ t.stand x.1 m ∧ t.stand x.1 m ≤ 60 :=
  stand_range hv hm (hts_ok hv (tru_mem.1 hx).1)
/-- Height, Depth, Sand: as the specification folds. -/
theorem height_ref {t : TD} (hv : t.Valid) (hn : t.tru ≠ []) {m : Int} (hm : t.isMin m) : t.height m = ⟨spL (fun x => t.stand x.1 m) t.tru, 0⟩ := by
  obtain ⟨lo, hi, H⟩ := hgt_is hv hn hm
  rw [H.v, spL_eq (fun x hx => stand_tru hv hm hx) H.bnd H.lo H.hi]
theorem depth_ref {t : TD} (hv : t.Valid) (hn : t.tru ≠ []) {p : Nat} (hp : p < t.nS) {m : Int} (hm : t.isMin m) : t.depthT p m = ⟨spL (t.dep m p) t.tru, 0⟩ := by
  obtain ⟨lo, hi, D⟩ := dep_is hv hn hp hm
  rw [D.v, spL_eq (fun x hx => dep_range hv hp hm hx) D.bnd D.lo D.hi]
theorem sand_ref {t : TD} (hv : t.Valid) (hn : t.tru ≠ []) {p : Nat} (hp : p < t.nS) : t.sandT p = ⟨spL (fun x => x.2 p) t.tru, 0⟩ := by
  have hna : t.all ≠ [] := fun h => hn ((all_nil hv).1 h)
  have hpl : t.isPl (p : Int) := ⟨by omega, by omega⟩
  have ev : t.sandT p = ⟨(hulLo (fun x => loE (x.s (p : Int).toNat)) t.all t.all.length, hulHi (fun x => hiE (x.s (p : Int).toNat)) t.all t.all.length), 0⟩ := by
    unfold TD.sandT; rw [if_neg (fun h => h hv), if_neg (fun h => h hpl), if_neg hna]
  have key : ∀ h ∈ t.hts, t.some h = true → ∃ f : Nat → Int, ∃ g : Nat → Int, (∀ i, i < t.nS → t.slo i ≤ f i ∧ f i ≤ t.shi i ∧ t.ok1 h i (f i) = true) ∧ (∀ i, i < t.nS → t.slo i ≤ g i ∧ g i ≤ t.shi i ∧ t.ok1 h i (g i) = true) ∧ f p = loE ((t.tr h).s p) ∧ g p = hiE ((t.tr h).s p) := fun h hh hs => by
    have e : (t.tr h).s p = t.set h p := by simp only [TD.tr, if_pos hp]
    have hs' := (some_iff hv).1 hs
    refine ⟨fun i => loE (t.set h i), fun i => hiE (t.set h i), fun i hi => ((set_is hv h hi).ends (hs' i hi)).1, fun i hi => ((set_is hv h hi).ends (hs' i hi)).2.1, by rw [e], by rw [e]⟩
  have lo1 := fun x (hx : x ∈ t.tru) => sand_in hv hx hp
  have at1 : ∃ x ∈ t.tru, x.2 p = hulLo (fun x => loE (x.s (p : Int).toNat)) t.all t.all.length := by
    obtain ⟨y, hy, e⟩ := (hul_ex (a := fun x => loE (x.s (p : Int).toNat)) hna).1
    obtain ⟨h, h1, h2, rfl⟩ := all_mem.1 hy
    obtain ⟨f, g, hf, hg, ef, eg⟩ := key h h1 h2
    obtain ⟨g1, g2⟩ := sand_right hv hf
    refine ⟨(h, _), tru_mem.2 ⟨h1, g1, g2⟩, ?_⟩
    rw [e]
    show (if p < t.nS then f p else 0) = _
    rw [if_pos hp, ef, Int.toNat_natCast]
  have at2 : ∃ x ∈ t.tru, x.2 p = hulHi (fun x => hiE (x.s (p : Int).toNat)) t.all t.all.length := by
    obtain ⟨y, hy, e⟩ := (hul_ex (a := fun x => hiE (x.s (p : Int).toNat)) hna).2
    obtain ⟨h, h1, h2, rfl⟩ := all_mem.1 hy
    obtain ⟨f, g, hf, hg, ef, eg⟩ := key h h1 h2
    obtain ⟨g1, g2⟩ := sand_right hv hg
    refine ⟨(h, _), tru_mem.2 ⟨h1, g1, g2⟩, ?_⟩
    rw [e]
    show (if p < t.nS then g p else 0) = _
    rw [if_pos hp, eg, Int.toNat_natCast]
  rw [ev, spL_eq (fun x hx => ?_) (fun x hx => ?_) at1 at2]
  · have a := (tru_hh hv hx).2 p hp
    have b := (hv.2.2.2.2.1 p hp).1
    show 0 ≤ x.2 p ∧ x.2 p ≤ 60
    omega
  · obtain ⟨lo, hi, e, h1, h2⟩ := lo1 x hx
    rw [ev] at e
    cases e
    exact ⟨h1, h2⟩

/-! ### Served, First -/
/-! ### Places -/
theorem cntN_filter (q : Tru → Bool) : ∀ X : List Tru, cntN (fun i => q (X.getD i noTru)) X.length = (X.filter q).length := fun X => by
  have key : ∀ (n : Nat), n ≤ X.length → cntN (fun i => q (X.getD i noTru)) n = ((X.take n).filter q).length := fun n => by
    induction n with
    | zero => intro _; simp [cntN]
    | succ n ih =>
      intro h
      have e : X.take (n + 1) = X.take n ++ [X.getD n noTru] := by
        rw [List.take_add_one, List.getD_eq_getElem?_getD, List.getElem?_eq_getElem (by omega)]
        rfl
      rw [e, List.filter_append, List.length_append, ← ih (by omega), cntN]
      cases h2 : q (X.getD n noTru)
      · rw [List.filter_cons_of_neg (by rw [h2]; decide)]
        rfl
      · rw [List.filter_cons_of_pos h2]
        rfl
  rw [key _ (Nat.le_refl _), List.take_length]
theorem places_ref {t : TD} (hv : t.Valid) (hn : t.tru ≠ []) {m : Int} (hm : t.isMin m) {l h : Int} (hl : 0 ≤ l ∧ l ≤ 60) (hh : 0 ≤ h ∧ h ≤ 60) :
    t.placesT m l h = ⟨(bitsF (fun p => decide (t.num m p l h = t.tru.length)) t.nS, bitsF (fun p => decide (0 < t.num m p l h)) t.nS), 0⟩ := by
  obtain ⟨S, P, e, hSP⟩ := places_law hv hn hm hl hh
  have e1 : bitsF S t.nS = bitsF (fun p => decide (t.num m p l h = t.tru.length)) t.nS := bitsF_congr fun j hj => by rw [Bool.eq_iff_iff, (hSP j hj).1, decide_eq_true_eq]
  have e2 : bitsF P t.nS = bitsF (fun p => decide (0 < t.num m p l h)) t.nS := bitsF_congr fun j hj => by rw [Bool.eq_iff_iff, (hSP j hj).2, decide_eq_true_eq]
  rw [e, e1, e2]

/-! ### Next -/
def cntD (d : Nat → Int) (k : Int) (n : Nat) : Nat := cntN (fun j => decide (d j = k)) n
def outF' (d : Nat → Int) : Nat → Nat
  | 0 => 0
  | i + 1 => if cntD d (d i) (i + 1) > outF' d i then cntD d (d i) (i + 1) else outF' d i
theorem cntD_succ (d : Nat → Int) (k : Int) (n : Nat) : cntD d k (n + 1) = cntD d k n + if d n = k then 1 else 0 := by
  unfold cntD
  rw [cntN]
  by_cases h : d n = k
  · rw [if_pos h]; simp [h]
  · rw [if_neg h]; simp [h]
theorem outF'_le (d : Nat → Int) (k : Int) : ∀ n, cntD d k n ≤ outF' d n
  | 0 => by simp [cntD, cntN]
  | n + 1 => by
    have ih := outF'_le d k n
    simp only [outF']
    by_cases h : d n = k
    · subst h
      split <;> omega
    · have : cntD d k (n + 1) = cntD d k n := by rw [cntD_succ, if_neg h, Nat.add_zero]
      rw [this]
      split <;> omega
theorem outF'_at (d : Nat → Int) : ∀ n, 0 < n → ∃ i, i < n ∧ outF' d n = cntD d (d i) n
  | 0, h => absurd h (Nat.lt_irrefl 0)
  | n + 1, _ => by
    simp only [outF']
    split
    · exact ⟨n, by omega, rfl⟩
    · rename_i h
      rcases Nat.eq_zero_or_pos n with rfl | hn
      · have : cntD d (d 0) 1 = 1 := by rw [cntD_succ, if_pos rfl]; simp [cntD, cntN]
        exact absurd (show cntD d (d 0) (0 + 1) > outF' d 0 by show cntD d (d 0) 1 > 0; omega) h
      · obtain ⟨i, hi, e⟩ := outF'_at d n hn
        refine ⟨i, by omega, ?_⟩
        rw [e, cntD_succ]
        by_cases h2 : d n = d i
        · rw [h2] at h
          rw [cntD_succ, if_pos h2] at h
          omega
        · rw [if_neg h2]
          rfl
theorem left_ref {t : TD} (hv : t.Valid) (hn : t.tru ≠ []) {m : Int} {p : Nat} (hp : p < t.nS) : maxV (depAll t m p) = (outF' (fun i => t.dep m p (t.tru.getD i noTru)) t.tru.length : Int) := by
  obtain ⟨h1, x, hx, h2⟩ := max_dep hv hp (m := m) hn
  have e : ∀ k, cntD (fun i => t.dep m p (t.tru.getD i noTru)) k t.tru.length = t.cnt m p k := fun k => by
    unfold cntD TD.cnt
    exact cntN_filter (fun x => decide (t.dep m p x = k)) t.tru
  obtain ⟨i, hi, e2⟩ := outF'_at (fun i => t.dep m p (t.tru.getD i noTru)) t.tru.length (List.length_pos_iff.2 hn)
  have a := outF'_le (fun i => t.dep m p (t.tru.getD i noTru)) (t.dep m p x) t.tru.length
  have b := h1 (t.dep m p (t.tru.getD i noTru))
  rw [e] at a e2
  omega
theorem next_ref {t : TD} (hv : t.Valid) (hn : t.tru ≠ []) {m : Int} (hm : t.isMin m) : t.nextT m = ⟨nextF (fun p => (outF' (fun i => t.dep m p (t.tru.getD i noTru)) t.tru.length : Int)) t.nS, 0⟩ := by
  have hna : t.all ≠ [] := fun h => hn ((all_nil hv).1 h)
  unfold TD.nextT
  rw [if_neg (fun h => h hv), if_neg (fun h => h hm), if_neg hna]
  have : ∀ n, n ≤ t.nS → nextF (fun p => maxV (depAll t m p)) n = nextF (fun p => (outF' (fun i => t.dep m p (t.tru.getD i noTru)) t.tru.length : Int)) n := fun n => by
    induction n with
    | zero => intro _; rfl
    | succ n ih =>
      intro h
      simp only [nextF]
      rw [ih (by omega), left_ref hv hn (show n < t.nS by omega)]
  rw [this _ (Nat.le_refl _)]
end Go.Proofs.YtipbempkngfdbaaGreatDoor
/-
  The plain law of the specification's Clash; truths with the looks of a set.
-/
namespace Go.Proofs.YtipbempkngfdbaaGreatDoor
open Go Go.Sy
set_option maxRecDepth 100000
set_option maxHeartbeats 4000000

/-- A number is in a set. -/
def hasB (so : Int) (i : Nat) : Bool := decide ((so.tdiv (2 ^ i)).tmod 2 = 1)
theorem has_dec : ∀ s, s < 64 → ∀ i, i < 6 → hasB (s : Nat) i = bitI (s : Nat) i := by decide +kernel
/-- The looks of a set are right. -/
def TD.rightS (t : TD) (so : Int) (h s : Nat → Int) : Bool := allB (fun i => !hasB so i || t.fit h i (s (t.lp i).toNat)) t.nL
/-- All truths, with the looks of a set. -/
def TD.truS (t : TD) (so : Int) : List ((Nat → Int) × (Nat → Int)) := t.hts.flatMap fun h => (t.sds.filter (t.rightS so h)).map fun s => (h, s)
theorem pow_le64 {n : Nat} (h : n ≤ 6) : (2 : Int) ^ n ≤ 64 := by
  have : n = 0 ∨ n = 1 ∨ n = 2 ∨ n = 3 ∨ n = 4 ∨ n = 5 ∨ n = 6 := by omega
  rcases this with h | h | h | h | h | h | h <;> rw [h] <;> decide
theorem truS_pick {t : TD} (hL : t.nL ≤ 6) {so : Int} (h0 : 0 ≤ so) (h1 : so < 2 ^ t.nL) : t.truS so = t.truL (pickL so t.nL) := by
  obtain ⟨n, rfl⟩ := Int.eq_ofNat_of_zero_le h0
  have hn : n < 64 := by have := pow_le64 hL; omega
  rw [TD.truS, TD.truL]
  congr 1
  funext h
  congr 1
  refine List.filter_congr fun s _ => ?_
  rw [TD.rightS, TD.fitsL, Bool.eq_iff_iff, allB_iff, List.all_eq_true]
  constructor
  · intro a i hi
    obtain ⟨h2, h3⟩ := pickL_mem.1 hi
    have := a i h2
    rw [has_dec n hn i (by omega), h3] at this
    exact this
  · intro a i hi
    rw [has_dec n hn i (by omega)]
    cases hb : bitI (n : Nat) i
    · rfl
    · exact a i (pickL_mem.2 ⟨hi, hb⟩)
theorem truS_all {t : TD} (hv : t.Valid) : t.truS (2 ^ t.nL - 1) = t.tru := by
  have hp : (0 : Int) < 2 ^ t.nL := by
    have : 0 < 2 ^ t.nL := Nat.pow_pos (by omega)
    exact_mod_cast this
  rw [truS_pick hv.2.2.1 (by omega) (by omega), pick_every hv]
end Go.Proofs.YtipbempkngfdbaaGreatDoor
/-
  Contracts of the specification: Under, right.
-/
namespace Go.Proofs.YtipbempkngfdbaaGreatDoor
open Go Go.Sy
set_option linter.unusedSimpArgs false
set_option maxRecDepth 100000
set_option maxHeartbeats 4000000
attribute [local irreducible] CallP CodeP Ent YieldP

/-- A tide's rows, heights of marks, and of sand. -/
def HT (t : TD) (h s : Nat → Int) (n ns : Nat) : SHeap := t.H ++ [some (.roa 1 n fun k => [.int .i64 (h k)]), some (.roa 1 ns fun k => [.int .i64 (s k)])]
theorem t100 (t : TD) (hv : t.Valid) (h s : Nat → Int) (hh : okH h) (hs : ∀ p, p < t.nS → 0 ≤ s p ∧ s p ≤ 60) (n ns c c' : Nat) (hn : t.nM ≤ n) (hn2 : n ≤ 1000) (hns : t.nS ≤ ns) (p m : Int) (hp : 0 ≤ p ∧ p < t.nS) (hm : t.isMin m) :
    CallP Tryz.prog 56 [t.A, .agg [.osl true 3 1 n c, .osl true 4 1 ns c'], .int .i64 p, .int .i64 m] (HT t h s n ns) (Ret (.int .i64 (max0 (t.stand h m - s p.toNat))) (HT t h s n ns)) := by
  have st := stand_range hv hm hh
  have hsp := hs p.toNat (by omega)
  have ep : 0 + p.toNat = p.toNat := by omega
  have hp2 : p.toNat < ns := by omega
  refine callR (E := E) E_ok Tryz.func56 rfl ?_
  refine And.intro ?_ ?_
  · (repeat' (first | exact trivial | exact fun _ => rfl | exact rfl | refine And.intro ?_ ?_))
  refine drawP E_ok [5, 6] pl56_1 (by kernel_rfl) ?_
  refine And.intro (And.intro ?_ ?_) trivial
  · (repeat' (first | exact True.intro | exact d1 _ | exact d1t _ | exact d2 _ | exact d3 _ _ | exact d3f _ _ | exact fun _ _ => rfl | exact fun _ => rfl | exact rfl | refine And.intro ?_ ?_))
    all_goals first | omega | exact un (by omega)
  refine CallP.frameH (t119 t hv h hh n c hn hn2 m hm) [0, 1, 2, 3] (by (repeat' (first | exact trivial | exact rfl | exact fun _ _ => rfl | exact Or.inl rfl | refine And.intro ?_ ?_))) rfl ?_
  rintro ce h' ⟨rfl, rfl⟩
  refine ⟨rfl, ?_⟩
  refine And.intro ?_ ?_
  · (repeat' (first | exact True.intro | exact d1 _ | exact d1t _ | exact d2 _ | exact d3 _ _ | exact d3f _ _ | exact fun _ _ => rfl | exact fun _ => rfl | exact rfl | refine And.intro ?_ ?_))
    all_goals first | omega | exact un (by omega) | (rw [ep]; omega)
  refine And.intro rfl ?_
  rw [ep]
  refine And.intro trivial ?_
  exact ent_tau [0, 1, 2, 3, 4] ⟨by (repeat' (first | exact trivial | exact rfl | exact fun _ _ => rfl | exact Or.inl rfl | refine And.intro ?_ ?_)), by (repeat' (first | exact trivial | exact rfl | exact congrArg (SV.int .i64) (Int.natCast_succ _).symm | refine And.intro ?_ ?_)), rfl⟩
theorem t111 (t : TD) (hv : t.Valid) (h s : Nat → Int) (hh : okH h) (hs : ∀ p, p < t.nS → 0 ≤ s p ∧ s p ≤ 60) (n ns c c' : Nat) (hn : t.nM ≤ n) (hn2 : n ≤ 1000) (hns : t.nS ≤ ns) (so : Int) (hso : 0 ≤ so ∧ so ≤ 64) :
    CallP Tryz.prog 103 [t.A, .agg [.osl true 3 1 n c, .osl true 4 1 ns c'], .int .i64 so] (HT t h s n ns) (Ret (.bool (t.rightS so h s)) (HT t h s n ns)) := by
  have hL := hv.2.2.1
  refine callR (E := E) E_ok Tryz.func103 rfl ?_
  refine And.intro ?_ ?_
  · (repeat' (first | exact trivial | exact fun _ => rfl | exact rfl | refine And.intro ?_ ?_))
  refine loopP E_ok [0, 1, 2, 3, 4, 6] (fun i : Nat => [(7, .int .i64 i)]) (fun _ h => h) (fun i => i ≤ t.nL ∧ ∀ j, j < i → (!hasB so j || t.fit h j (s (t.lp j).toNat)) = true) (fun i => t.nL - i) 0 ⟨Nat.zero_le _, fun j h => absurd h (Nat.not_lt_zero j)⟩ ?_ ?_
  · exact ent_tau [0, 1, 2, 3, 4, 5, 6] ⟨by (repeat' (first | exact trivial | exact rfl | exact fun _ _ => rfl | exact Or.inl rfl | refine And.intro ?_ ?_)), by (repeat' (first | exact trivial | exact rfl | exact congrArg (SV.int .i64) (Int.natCast_succ _).symm | refine And.intro ?_ ?_)), rfl⟩
  rintro i ⟨hi, hall⟩
  refine And.intro ?_ (And.intro (fun hc => ?_) (fun hc => ?_))
  · (repeat' (first | exact trivial | exact fun _ => rfl | exact rfl | refine And.intro ?_ ?_))
  · have hlt : i < t.nL := by
      have := of_decide_eq_true hc
      omega
    have e2 : 0 + (i : Int).toNat = i := by omega
    have hl := hv.2.2.2.2.2 i hlt
    have hl1 : 0 ≤ t.lp i ∧ t.lp i < t.nS := by
      have := hl.1
      omega
    have hl2 : t.isMin (t.lm i) := hl.2.1
    have st := stand_range hv hl2 hh
    have hsp := hs (t.lp i).toNat (by omega)
    have c121 : CallP Tryz.prog 105 [.int .i64 so, .int .i64 i] [] (Ret (.bool (hasB so i)) []) := t121 so ⟨hso.1, by omega⟩ i (by omega)
    have c100 := t100 t hv h s hh hs n ns c c' hn hn2 hns (t.lp i) (t.lm i) hl1 hl2
    have c91 := t91 (max0 (t.stand h (t.lm i) - s (t.lp i).toNat)) (t.llo i) (t.lhi i)
    have ef : t.fit h i (s (t.lp i).toNat) = inB (max0 (t.stand h (t.lm i) - s (t.lp i).toNat)) (t.llo i) (t.lhi i) := rfl
    rw [← ef] at c91
    have nxt : (!hasB so i || t.fit h i (s (t.lp i).toNat)) = true → ∀ j, j < i + 1 → (!hasB so j || t.fit h j (s (t.lp j).toNat)) = true := fun hx j hj => by
      rcases Nat.lt_succ_iff_lt_or_eq.1 hj with h | rfl
      · exact hall j h
      · exact hx
    refine And.intro ?_ ?_
    · (repeat' (first | exact trivial | exact fun _ => rfl | exact rfl | refine And.intro ?_ ?_))
      all_goals first | omega | exact un (by omega)
    rw [e2]
    refine drawP E_ok [5, 6, 7] pl103_5 (by kernel_rfl) ?_
    refine And.intro (And.intro ?_ ?_) trivial
    · (repeat' (first | exact True.intro | exact d1 _ | exact d1t _ | exact d2 _ | exact d3 _ _ | exact d3f _ _ | exact fun _ _ => rfl | exact fun _ => rfl | exact rfl | refine And.intro ?_ ?_))
      all_goals first | omega | exact un (by omega)
    cases hb : hasB so i with
    | false =>
      rw [hb] at c121
      refine c121.use [] ?_ trivial rfl
      refine And.intro (And.intro ?_ (And.intro (fun h => absurd h (by decide)) (fun _ => ?_))) trivial
      · (repeat' (first | exact True.intro | exact d1 _ | exact d1t _ | exact d2 _ | exact d3 _ _ | exact d3f _ _ | exact fun _ _ => rfl | exact fun _ => rfl | exact rfl | refine And.intro ?_ ?_))
        all_goals first | omega | exact un (by omega)
      refine And.intro (And.intro ?_ (And.intro (fun h => absurd h (by decide)) (fun _ => ?_))) trivial
      · (repeat' (first | exact True.intro | exact d1 _ | exact d1t _ | exact d2 _ | exact d3 _ _ | exact d3f _ _ | exact fun _ _ => rfl | exact fun _ => rfl | exact rfl | refine And.intro ?_ ?_))
        all_goals first | omega | exact un (by omega)
      refine And.intro ?_ ?_
      · (repeat' (first | exact True.intro | exact d1 _ | exact d1t _ | exact d2 _ | exact d3 _ _ | exact d3f _ _ | exact fun _ _ => rfl | exact fun _ => rfl | exact rfl | refine And.intro ?_ ?_))
        all_goals first | omega | exact un (by omega)
      refine And.intro rfl ?_
      refine And.intro ?_ (And.intro (fun hx => ?_) (fun hx => ?_))
      · (repeat' (first | exact True.intro | exact d1 _ | exact d1t _ | exact d2 _ | exact d3 _ _ | exact d3f _ _ | exact fun _ _ => rfl | exact fun _ => rfl | exact rfl | refine And.intro ?_ ?_))
      · exact absurd hx (by decide)
      · refine And.intro ?_ ?_
        · (repeat' (first | exact trivial | exact fun _ => rfl | exact rfl | refine And.intro ?_ ?_))
          all_goals omega
        refine ⟨i + 1, ⟨hlt, nxt (by rw [hb]; rfl)⟩, by omega, ?_⟩
        exact ent_tau [0, 1, 2, 3, 4, 5, 6] ⟨by (repeat' (first | exact trivial | exact rfl | exact fun _ _ => rfl | exact Or.inl rfl | refine And.intro ?_ ?_)), by (repeat' (first | exact trivial | exact rfl | exact congrArg (SV.int .i64) (Int.natCast_succ _).symm | refine And.intro ?_ ?_)), rfl⟩
    | true =>
      rw [hb] at c121
      refine c121.use [] ?_ trivial rfl
      refine And.intro (And.intro ?_ (And.intro (fun hgd => ?_) (fun hgd => absurd hgd (by decide)))) trivial
      · (repeat' (first | exact True.intro | exact d1 _ | exact d1t _ | exact d2 _ | exact d3 _ _ | exact d3f _ _ | exact fun _ _ => rfl | exact fun _ => rfl | exact rfl | refine And.intro ?_ ?_))
        all_goals first | omega | exact un (by omega)
      refine c100.use [0, 1, 2, 3, 4] ?_ (by (repeat' (first | exact trivial | exact rfl | exact fun _ _ => rfl | exact Or.inl rfl | refine And.intro ?_ ?_))) rfl
      refine And.intro (And.intro ?_ (And.intro (fun hgd => ?_) (fun hgd => absurd hgd (by decide)))) trivial
      · (repeat' (first | exact True.intro | exact d1 _ | exact d1t _ | exact d2 _ | exact d3 _ _ | exact d3f _ _ | exact fun _ _ => rfl | exact fun _ => rfl | exact rfl | refine And.intro ?_ ?_))
        all_goals first | omega | exact un (by omega)
      refine c91.use [] ?_ trivial rfl
      refine And.intro ?_ ?_
      · (repeat' (first | exact True.intro | exact d1 _ | exact d1t _ | exact d2 _ | exact d3 _ _ | exact d3f _ _ | exact fun _ _ => rfl | exact fun _ => rfl | exact rfl | refine And.intro ?_ ?_))
        all_goals first | omega | exact un (by omega)
      refine And.intro rfl ?_
      refine And.intro ?_ (And.intro (fun hx => ?_) (fun hx => ?_))
      · (repeat' (first | exact True.intro | exact d1 _ | exact d1t _ | exact d2 _ | exact d3 _ _ | exact d3f _ _ | exact fun _ _ => rfl | exact fun _ => rfl | exact rfl | refine And.intro ?_ ?_))
      · have e : t.rightS so h s = false := by
          cases hr : t.rightS so h s
          · rfl
          · rw [TD.rightS, allB_iff] at hr
            have := hr i hlt
            rw [hb, Bool.not_true, Bool.false_or] at this
            rw [this] at hx
            cases hx
        (repeat' (first | exact trivial | exact fun _ => rfl | exact rfl | refine And.intro ?_ ?_))
        rw [e]
        exact ent_tau [0, 1, 2, 3, 4] ⟨by (repeat' (first | exact trivial | exact rfl | exact fun _ _ => rfl | exact Or.inl rfl | refine And.intro ?_ ?_)), by (repeat' (first | exact trivial | exact rfl | exact congrArg (SV.int .i64) (Int.natCast_succ _).symm | refine And.intro ?_ ?_)), rfl⟩
      · refine And.intro ?_ ?_
        · (repeat' (first | exact trivial | exact fun _ => rfl | exact rfl | refine And.intro ?_ ?_))
          all_goals omega
        refine ⟨i + 1, ⟨hlt, nxt ?_⟩, by omega, ?_⟩
        · rw [hb, Bool.not_true, Bool.false_or]
          cases hf : t.fit h i (s (t.lp i).toNat)
          · rw [hf] at hx
            cases hx
          · rfl
        exact ent_tau [0, 1, 2, 3, 4, 5, 6] ⟨by (repeat' (first | exact trivial | exact rfl | exact fun _ _ => rfl | exact Or.inl rfl | refine And.intro ?_ ?_)), by (repeat' (first | exact trivial | exact rfl | exact congrArg (SV.int .i64) (Int.natCast_succ _).symm | refine And.intro ?_ ?_)), rfl⟩
  · have e : i = t.nL := by
      have := of_decide_eq_false hc
      omega
    subst e
    refine And.intro ?_ ?_
    · (repeat' (first | exact trivial | exact fun _ => rfl | exact rfl | refine And.intro ?_ ?_))
    refine And.intro ?_ ?_
    · (repeat' (first | exact trivial | exact fun _ => rfl | exact rfl | refine And.intro ?_ ?_))
    have e : t.rightS so h s = true := by
      rw [TD.rightS, allB_iff]
      exact hall
    rw [e]
    exact ent_tau [0, 1, 2, 3, 4] ⟨by (repeat' (first | exact trivial | exact rfl | exact fun _ _ => rfl | exact Or.inl rfl | refine And.intro ?_ ?_)), by (repeat' (first | exact trivial | exact rfl | exact congrArg (SV.int .i64) (Int.natCast_succ _).symm | refine And.intro ?_ ?_)), rfl⟩
end Go.Proofs.YtipbempkngfdbaaGreatDoor
/-
  Sy28: lists of lists of numbers: a pool of rows, how it is begun, how a row comes to it, how a row is read; blocks that are locked for a while. No program is named.
-/
namespace Go.Sy

/-- A block more, beside those that are there. -/
theorem Sat.plus {η : Nam} {φ : Feet} {h : SHeap} {w0 w : World} {Ef : Nat → Prop} (s : Sat η φ h w0 Ef w) {o' : SObj} {a' : Nat × Nat} (F' : Nat → Prop)
    (hh : o'.holds (η.put h.length a') a' F' w) (hb : ∀ b, o'.foot a' F' b → b < w.heap.size)
    (ho : o'.rw = true → ∀ b, o'.foot a' F' b → Ef b ∨ w0.heap.size ≤ b)
    (h1 : o'.rw = true → ∀ j oj aj b, h[j]? = some (some oj) → η j = some aj → o'.foot a' F' b → ¬ oj.foot aj (φ j) b)
    (h2 : ∀ j oj aj b, h[j]? = some (some oj) → η j = some aj → oj.rw = true → oj.foot aj (φ j) b → ¬ o'.foot a' F' b) :
    η.le (η.put h.length a') ∧ Sat (η.put h.length a') (fun k => if k = h.length then F' else φ k) (h ++ [some o']) w0 Ef w := by
  have hnone : η h.length = none := s.free fun o => by rw [List.getElem?_eq_none (Nat.le_refl _)]; simp
  have hle := Nam.le_put (a := a') hnone
  have key : ∀ j oj, (h ++ [some o'])[j]? = some (some oj) → (j = h.length ∧ oj = o') ∨ (j ≠ h.length ∧ h[j]? = some (some oj)) := fun j oj hj => by
    rw [List.getElem?_append] at hj
    split at hj
    · rename_i hl; exact .inr ⟨by omega, hj⟩
    · rename_i hl
      rcases Nat.eq_or_lt_of_le (Nat.le_of_not_lt hl) with e | e
      · subst e; simp at hj; exact .inl ⟨rfl, hj.symm⟩
      · rw [List.getElem?_eq_none (by simp; omega)] at hj; cases hj
  refine ⟨hle, ?_⟩
  exact
    { size := s.size
      env := s.env
      keep := s.keep
      dom := fun j b hj => by
        by_cases hjn : j = h.length
        · subst hjn; exact ⟨o', by simp⟩
        · rw [Nam.put_other η _ hjn] at hj
          obtain ⟨o1, h1⟩ := s.dom j b hj
          have hl : j < h.length := by
            rcases Nat.lt_or_ge j h.length with h2 | h2
            · exact h2
            · rw [List.getElem?_eq_none h2] at h1; cases h1
          exact ⟨o1, by rw [List.getElem?_append_left hl]; exact h1⟩
      named := fun j oj hj => by
        rcases key j oj hj with ⟨rfl, _⟩ | ⟨_, h3⟩
        · exact ⟨a', Nam.put_same η _ _⟩
        · obtain ⟨b, hb⟩ := s.named j oj h3; exact ⟨b, hle j b hb⟩
      holds := fun j oj aj hj haj => by
        rcases key j oj hj with ⟨rfl, rfl⟩ | ⟨h4, h3⟩
        · rw [Nam.put_same] at haj; cases haj; simpa using hh
        · rw [Nam.put_other η _ h4] at haj; simp only [if_neg h4]; exact SObj.holds_mono hle (s.holds j oj aj h3 haj)
      bnd := fun j oj aj b hj haj hfb => by
        rcases key j oj hj with ⟨rfl, rfl⟩ | ⟨h4, h3⟩
        · rw [Nam.put_same] at haj; cases haj; simp only [if_true] at hfb; exact hb b hfb
        · rw [Nam.put_other η _ h4] at haj; simp only [if_neg h4] at hfb; exact s.bnd j oj aj b h3 haj hfb
      own := fun j oj aj b hj haj hr hfb => by
        rcases key j oj hj with ⟨rfl, rfl⟩ | ⟨h4, h3⟩
        · rw [Nam.put_same] at haj; cases haj; simp only [if_true] at hfb; exact ho hr b hfb
        · rw [Nam.put_other η _ h4] at haj; simp only [if_neg h4] at hfb; exact s.own j oj aj b h3 haj hr hfb
      sep := fun j k oj ok aj ak b hjk hj hk haj hak hr hfb hfk => by
        rcases key j oj hj with ⟨rfl, rfl⟩ | ⟨h4, h3⟩
        · rw [Nam.put_same] at haj; cases haj
          simp only [if_true] at hfb
          rcases key k ok hk with ⟨rfl, _⟩ | ⟨h5, h6⟩
          · exact hjk rfl
          · rw [Nam.put_other η _ h5] at hak
            simp only [if_neg h5] at hfk
            exact h1 hr k ok ak b h6 hak hfb hfk
        · rw [Nam.put_other η _ h4] at haj
          simp only [if_neg h4] at hfb
          rcases key k ok hk with ⟨rfl, rfl⟩ | ⟨h5, h6⟩
          · rw [Nam.put_same] at hak; cases hak
            simp only [if_true] at hfk
            exact h2 j oj aj b h3 haj hr hfb hfk
          · rw [Nam.put_other η _ h5] at hak
            simp only [if_neg h5] at hfk
            exact s.sep j k oj ok aj ak b hjk h3 h6 haj hak hr hfb hfk }
theorem pin_put {η : Nam} {h : SHeap} {n : Nat} (hn : n ≤ h.length) (a : Nat × Nat) : Pin n η (η.put h.length a) := fun i hi => Nam.put_other η a (by omega)

/-- An empty pool. -/
theorem entPool {n : Nat} {T : Tm} {H : SHeap} {D : List SV} (len : Nat → Nat) (get : Nat → Nat → Int) : Ent n ⟨T, H, D⟩ ⟨T, H ++ [some (.pool true 0 len get)], D⟩ := by
  intro η φ w0 Ef w a hn hs hT hD
  have no : ∀ F b, ¬ (SObj.pool true 0 len get).foot (0, 0) F b := fun F b hb => by
    obtain ⟨k, hk⟩ := hb
    rw [padr_zero] at hk
    cases hk
  obtain ⟨hle, hs2⟩ := hs.plus (o' := .pool true 0 len get) (a' := (0, 0)) (fun _ => False) (fun k hk => by omega) (fun b hb => (no _ b hb).elim) (fun _ b hb => (no _ b hb).elim) (fun _ _ _ _ b _ _ hb => (no _ b hb).elim) (fun _ _ _ b _ _ _ _ hb => (no _ b hb).elim)
  exact ⟨_, _, pin_put hn _, by simp only [List.length_append, List.length_singleton]; exact Nat.le_trans hn (Nat.le_succ _), hs2, hT.mono hle, hD.mono hle⟩

/-- A row of a pool that is only read, said as a block of its own. -/
theorem entRow {n : Nat} {T T' : Tm} {H : SHeap} {D : List SV} {j np : Nat} {len : Nat → Nat} {get : Nat → Nat → Int} (hj : H[j]? = some (some (.pool false np len get))) (k : Nat) (hk : k < np) (hpos : 0 < len k)
    (hT' : ∀ (η : Nam) (b : Nat) (tm : Array Value), η H.length = some (b, 0) → (∀ l c, den η (.row j k l c) = some (.slice (some ⟨b, 0, none⟩) l c)) → TRel η T tm → TRel η T' tm) :
    Ent n ⟨T, H, D⟩ ⟨T', H ++ [some (.roa 1 (len k) fun m => [.int .i64 (get k m)])], D⟩ := by
  intro η φ w0 Ef w a hn hs hT hD
  obtain ⟨aj, haj⟩ := hs.named j _ hj
  rcases hs.holds j _ aj hj haj k hk with ⟨_, h0⟩ | ⟨b, Ty, c, h1, h3, h4⟩
  · omega
  have ft : ∀ x, x = b → (SObj.pool false np len get).foot aj (φ j) x := fun x e => ⟨k, by rw [e]; exact h1⟩
  obtain ⟨hle, hs2⟩ := hs.plus (o' := .roa 1 (len k) fun m => [.int .i64 (get k m)]) (a' := (b, 0)) (fun _ => False)
    ⟨c, Ty, (0, 0), h3, fun m hm => ⟨[.int .i64 (get k m)], rfl, rfl, fun i v hi => by
      cases i with
      | zero => simp at hi; subst hi; simpa using h4 m hm
      | succ i => simp at hi⟩⟩
    (fun x hx => hs.bnd j _ aj x hj haj (ft x (Eq.symm hx))) (fun hr => by cases hr) (fun hr => by cases hr)
    (fun i oi ai x hi hai hr hfx hx => by
      by_cases hij : i = j
      · subst hij; rw [hj] at hi; cases hi; cases hr
      · exact hs.sep i j oi _ ai aj x hij hi hj hai haj hr hfx (ft x (Eq.symm hx)))
  refine ⟨_, _, pin_put hn _, by simp only [List.length_append, List.length_singleton]; exact Nat.le_trans hn (Nat.le_succ _), hs2, hT' _ b _ (Nam.put_same η _ _) (fun l c => ?_) (hT.mono hle), hD.mono hle⟩
  simp only [den, hle j aj haj, Option.bind_some, h1, rowV]
/-- A function that is called with a row of a pool. -/
theorem CallP.row {P : Program} {f : FuncId} {args args' : List SV} {h : SHeap} {K : CE → SHeap → Prop} {j np : Nat} {len : Nat → Nat} {get : Nat → Nat → Int} (hj : h[j]? = some (some (.pool false np len get))) (k : Nat) (hk : k < np) (hpos : 0 < len k)
    (ha : ∀ (η : Nam) (b : Nat), η h.length = some (b, 0) → (∀ l c, den η (.row j k l c) = some (.slice (some ⟨b, 0, none⟩) l c)) → denL η args' = denL η args)
    (hc : CallP P f args' (h ++ [some (.roa 1 (len k) fun m => [.int .i64 (get k m)])]) K) : CallP P f args h K :=
  CallP.pre (entRow hj k hk hpos fun η b tm h1 h2 hT => by
    obtain ⟨tl⟩ := tm
    have := ha η b h1 h2
    rw [args_trel hT] at this
    exact trel_args this) hc
/-- What is handed back said otherwise. -/
theorem CallP.entR {P : Program} {f : FuncId} {args : List SV} {h h1 h2 : SHeap} {v v' : SV} (hc : CallP P f args h (Ret v h1)) (he : Ent h.length ⟨[some (none, v)], h1, []⟩ ⟨[some (none, v')], h2, []⟩) : CallP P f args h (Ret v' h2) :=
  CallP.ent (hc.mono fun ce h1' hk => by
    obtain ⟨rfl, rfl⟩ := hk
    exact ⟨.ret v', h2, ⟨rfl, rfl⟩, he⟩)

/-- How names go together when a row comes to a pool. -/
structure PushRel (η : Nam) (i j L n : Nat) : Prop where
  at' : ∃ ai aj aL : Nat × Nat, η i = some ai ∧ ai.2 = 0 ∧ η j = some aj ∧ η L = some aL ∧ (∀ k, k < n → padr aL.2 k = padr aj.2 k) ∧ padr aL.2 n = ai.1 + 1
theorem PushRel.old {η : Nam} {i j L n : Nat} (h : PushRel η i j L n) {k : Nat} (hk : k < n) (l c : Nat) : den η (.row j k l c) = den η (.row L k l c) := by
  obtain ⟨ai, aj, aL, h1, h2, h3, h4, h5, h6⟩ := h.at'
  simp only [den, h3, h4, Option.bind_some, h5 k hk]
theorem PushRel.new {η : Nam} {i j L n : Nat} (h : PushRel η i j L n) (l c : Nat) : den η (.slice i 1 0 l c) = den η (.row L n l c) := by
  obtain ⟨ai, aj, aL, h1, h2, h3, h4, h5, h6⟩ := h.at'
  simp only [den, h1, h4, Option.bind_some, Option.map_some, h6, rowV, h2]
theorem enc_push (c n x : Nat) : ∃ c', (∀ k, k < n → padr c' k = padr c k) ∧ padr c' n = x ∧ ∀ k, n < k → padr c' k = 0 := by
  refine ⟨encL ((List.range n).map (padr c) ++ [x]), fun k hk => ?_, ?_, fun k hk => ?_⟩
  · rw [padr_enc, List.getD, List.getElem?_append_left (by simpa using hk), List.getElem?_map, List.getElem?_range hk]
    rfl
  · rw [padr_enc, List.getD, List.getElem?_append_right (by simp)]
    simp
  · rw [padr_enc, List.getD, List.getElem?_eq_none (by simp; omega)]
    rfl

/-- A row comes to a pool; the array that has it says so. -/
theorem entPush {n : Nat} {T : Tm} {H : SHeap} {D : List SV} {i j o np m cap sz M capO : Nat} {g go go' : Nat → List SV} {len len' : Nat → Nat} {get get' : Nat → Nat → Int}
    (hi : H[i]? = some (some (.arr 1 m cap g))) (hj : H[j]? = some (some (.pool true np len get))) (hO : H[o]? = some (some (.arr sz M capO go))) (hne : o ≠ i)
    (hg : ∀ q, q < m → g q = [.int .i64 (get' np q)]) (hl : ∀ k, k < np → len' k = len k) (hln : len' np ≤ m) (hget : ∀ k, k < np → ∀ q, q < len k → get' k q = get k q)
    (hgo : ∀ η, PushRel η i j H.length np → ∀ k, k < M → denL η (go k) = denL η (go' k)) :
    Ent n ⟨T, H, D⟩ ⟨T, (((H.set i (some .dead)).set j (some .dead)).set o (some (.arr sz M capO go'))) ++ [some (.pool true (np + 1) len' get')], D⟩ := by
  intro η φ w0 Ef w a hn hs hT hD
  obtain ⟨ai, hai⟩ := hs.named i _ hi
  obtain ⟨aj, haj⟩ := hs.named j _ hj
  have hij : i ≠ j := fun e => by subst e; rw [hi] at hj; cases hj
  have hoi : o ≠ j := fun e => by subst e; rw [hO] at hj; cases hj
  obtain ⟨z0, Ty, c, hw, hsz, hmc, hel⟩ := hs.holds i _ ai hi hai
  have hp := hs.holds j _ aj hj haj
  obtain ⟨code, e1, e2, e3⟩ := enc_push aj.2 np (ai.1 + 1)
  have s1 := hs.less (o' := .dead) hi (fun _ _ hb => hb.elim) (fun hr => by cases hr) (fun _ _ => trivial)
  have hj1 : (H.set i (some .dead))[j]? = some (some (.pool true np len get)) := by rw [List.getElem?_set_ne hij]; exact hj
  have s2 := s1.less (o' := .dead) hj1 (fun _ _ hb => hb.elim) (fun hr => by cases hr) (fun _ _ => trivial)
  have foot : ∀ F x, (SObj.pool true (np + 1) len' get').foot (aj.1, code) F x → (SObj.arr 1 m cap g).foot ai (φ i) x ∨ (SObj.pool true np len get).foot aj (φ j) x := fun F x hx => by
    obtain ⟨k, h1⟩ := hx
    rcases Nat.lt_trichotomy k np with h | rfl | h
    · rw [e1 k h] at h1; exact .inr ⟨k, h1⟩
    · rw [e2] at h1; exact .inl (Nat.succ.inj h1)
    · rw [e3 k h] at h1; cases h1
  have key : ∀ q oq, ((H.set i (some .dead)).set j (some .dead))[q]? = some (some oq) → oq = .dead ∨ (q ≠ i ∧ q ≠ j ∧ H[q]? = some (some oq)) := fun q oq hq => by
    rcases get_set hq with ⟨_, h2, _⟩ | ⟨h1, h2⟩
    · cases h2; exact .inl rfl
    · rcases get_set h2 with ⟨_, h4, _⟩ | ⟨h3, h4⟩
      · cases h4; exact .inl rfl
      · exact .inr ⟨h3, h1, h4⟩
  obtain ⟨hle, s3⟩ := s2.plus (o' := .pool true (np + 1) len' get') (a' := (aj.1, code)) (fun _ => False)
    (fun k hk => by
      rcases Nat.lt_succ_iff_lt_or_eq.1 hk with h | rfl
      · rcases hp k h with ⟨h1, h2⟩ | ⟨b, Tb, cb, h1, h3, h4⟩
        · exact .inl ⟨by rw [e1 k h]; exact h1, by rw [hl k h]; exact h2⟩
        · exact .inr ⟨b, Tb, cb, by rw [e1 k h]; exact h1, h3, fun q hq => by rw [hl k h] at hq; rw [hget k h q hq]; exact h4 q hq⟩
      · refine .inr ⟨ai.1, Ty, c, e2, hw, fun q hq => ?_⟩
        obtain ⟨vs, d1, d2, d3⟩ := hel q (by omega)
        rw [hg q (by omega)] at d1
        simp only [denL, den, Option.bind_some, Option.map_some, Option.some.injEq] at d1
        subst d1
        simpa using d3 0 _ rfl)
    (fun x hx => by
      rcases foot _ x hx with h | h
      · exact hs.bnd i _ ai x hi hai h
      · exact hs.bnd j _ aj x hj haj h)
    (fun _ x hx => by
      rcases foot _ x hx with h | h
      · exact hs.own i _ ai x hi hai rfl h
      · exact hs.own j _ aj x hj haj rfl h)
    (fun _ q oq aq x hq haq hx hqx => by
      rcases key q oq hq with rfl | ⟨q1, q2, q3⟩
      · exact hqx
      · rcases foot _ x hx with h | h
        · exact hs.sep i q _ oq ai aq x (Ne.symm q1) hi q3 hai haq rfl h hqx
        · exact hs.sep j q _ oq aj aq x (Ne.symm q2) hj q3 haj haq rfl h hqx)
    (fun q oq aq x hq haq hr hqx hx => by
      rcases key q oq hq with rfl | ⟨q1, q2, q3⟩
      · exact hqx
      · rcases foot _ x hx with h | h
        · exact hs.sep i q _ oq ai aq x (Ne.symm q1) hi q3 hai haq rfl h hqx
        · exact hs.sep j q _ oq aj aq x (Ne.symm q2) hj q3 haj haq rfl h hqx)
  simp only [List.length_set] at s3 hle
  have rel : PushRel (η.put H.length (aj.1, code)) i j H.length np := ⟨ai, aj, (aj.1, code), hle i ai hai, z0, hle j aj haj, Nam.put_same η _ _, e1, e2⟩
  have lo : o < H.length := lt_of_get hO
  have hO3 : (((H.set i (some .dead)).set j (some .dead)) ++ [some (.pool true (np + 1) len' get')])[o]? = some (some (.arr sz M capO go)) := by
    rw [List.getElem?_append_left (by simpa using lo), List.getElem?_set_ne (Ne.symm hoi), List.getElem?_set_ne (Ne.symm hne)]
    exact hO
  have s4 := s3.less (o' := .arr sz M capO go') hO3 (fun _ _ hb => hb) (fun _ => rfl) (fun ad hh => by
    obtain ⟨h0, Ta, ca, h1, h2, h3, h4⟩ := hh
    refine ⟨h0, Ta, ca, h1, h2, h3, fun k hk => ?_⟩
    rw [← hgo _ rel k (by omega)]
    exact h4 k hk)
  rw [List.set_append_left _ _ (by simpa using lo)] at s4
  refine ⟨_, _, pin_put hn _, ?_, s4, hT.mono hle, hD.mono hle⟩
  simp only [List.length_append, List.length_singleton, List.length_set]
  exact Nat.le_trans hn (Nat.le_succ _)
end Go.Sy
