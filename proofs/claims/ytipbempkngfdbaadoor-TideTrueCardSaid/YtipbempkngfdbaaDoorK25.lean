/-
  Parts: C12, C13, C14, D2, D3.
-/
import Derived.Test.YtipbempkngfdbaaDoorK24
import Derived.Test.YtipbempkngfdbaaDoorK21
import Derived.Test.YtipbempkngfdbaaDoorK22
set_option linter.unusedVariables false
/-
  What the set of heights of sand at a place says.
-/
namespace Go.Proofs.YtipbempkngfdbaaDoor
open Go Go.Sy
set_option maxRecDepth 100000
set_option maxHeartbeats 4000000

def maskF (f : Nat → Bool) : Nat → Nat
  | 0 => 0
  | c + 1 => maskF f c + if f c = true then 2 ^ c else 0
def cntN (f : Nat → Bool) : Nat → Nat
  | 0 => 0
  | c + 1 => cntN f c + if f c = true then 1 else 0
def loM (m : Nat) : Nat := if m % 2 = 1 then 0 else if m % 4 = 2 then 1 else 2
def hiM (m : Nat) : Nat := if 4 ≤ m then 3 else if 2 ≤ m then 2 else 1
theorem maskF_congr {f g : Nat → Bool} : ∀ {c : Nat}, (∀ j, j < c → f j = g j) → maskF f c = maskF g c
  | 0, _ => rfl
  | c + 1, h => by rw [maskF, maskF, maskF_congr (c := c) fun j hj => h j (by omega), h c (by omega)]
theorem cntN_congr {f g : Nat → Bool} : ∀ {c : Nat}, (∀ j, j < c → f j = g j) → cntN f c = cntN g c
  | 0, _ => rfl
  | c + 1, h => by rw [cntN, cntN, cntN_congr (c := c) fun j hj => h j (by omega), h c (by omega)]
theorem cntI_N (q : Int → Bool) (lo : Int) : ∀ c, cntI q lo c = cntN (fun j => q (lo + (j : Nat))) c
  | 0 => rfl
  | c + 1 => by rw [cntI, cntN, cntI_N q lo c]
def bs (a b d : Bool) (j : Nat) : Bool := [a, b, d].getD j false
theorem mask_d1 : ∀ c, c < 4 → ∀ a b d : Bool, maskF (bs a b d) c < 8 ∧ (maskF (bs a b d) c = 0 ↔ ∀ j, j < c → bs a b d j = false) := by decide
theorem mask_d3 : ∀ c, c < 4 → ∀ a b d : Bool, (if maskF (bs a b d) c = 0 then 0 else if maskF (bs a b d) c = 1 ∨ maskF (bs a b d) c = 2 ∨ maskF (bs a b d) c = 4 then 1 else if maskF (bs a b d) c = 7 then 3 else 2) = cntN (bs a b d) c := by decide
theorem mask_d4 : ∀ c, c < 4 → ∀ a b d : Bool, maskF (bs a b d) c ≠ 0 → loM (maskF (bs a b d) c) < c ∧ hiM (maskF (bs a b d) c) - 1 < c ∧ bs a b d (loM (maskF (bs a b d) c)) = true ∧ bs a b d (hiM (maskF (bs a b d) c) - 1) = true := by decide
theorem mask_d5 : ∀ c, c < 4 → ∀ a b d : Bool, maskF (bs a b d) c ≠ 0 → ∀ j, j < c → bs a b d j = true → loM (maskF (bs a b d) c) ≤ j ∧ j ≤ hiM (maskF (bs a b d) c) - 1 := by decide
theorem mask_d6 : ∀ c, c < 4 → ∀ a b d : Bool, ∀ j, j < c → (maskF (bs a b d) c).testBit j = bs a b d j := by decide
theorem oc_zero : oc64 0 = 0 := by decide
theorem bs_eq (f : Nat → Bool) {c : Nat} (hc : c < 4) : ∀ j, j < c → f j = bs (f 0) (f 1) (f 2) j := fun j hj => by
  have : j = 0 ∨ j = 1 ∨ j = 2 := by omega
  rcases this with rfl | rfl | rfl <;> rfl
theorem setF_mask {t : TD} {h : Nat → Int} {p : Nat} (h0 : 0 ≤ t.slo p) : ∀ c : Nat, t.setF h p c = ((maskF (fun j => t.ok1 h p (t.slo p + (j : Nat))) c * 2 ^ (t.slo p).toNat : Nat) : Int)
  | 0 => by simp [TD.setF, maskF]
  | c + 1 => by
    have e : (t.slo p + c).toNat = (t.slo p).toNat + c := by omega
    rw [TD.setF, setF_mask h0 c, e, maskF]
    split
    · rw [Nat.add_mul, ← Nat.pow_add, Nat.add_comm c]
      push_cast
      rfl
    · simp
/-- All that is said of the set of a place. -/
structure SetIs (t : TD) (h : Nat → Int) (p : Nat) : Prop where
  zero : t.set h p = 0 ↔ ∀ v, t.slo p ≤ v → v ≤ t.shi p → t.ok1 h p v = false
  many : oc64 (t.set h p) = (cntI (t.ok1 h p) (t.slo p) (t.shi p - t.slo p + 1).toNat : Int)
  ends : t.set h p ≠ 0 → (t.slo p ≤ loE (t.set h p) ∧ loE (t.set h p) ≤ t.shi p ∧ t.ok1 h p (loE (t.set h p)) = true) ∧ (t.slo p ≤ hiE (t.set h p) ∧ hiE (t.set h p) ≤ t.shi p ∧ t.ok1 h p (hiE (t.set h p)) = true) ∧
    ∀ v, t.slo p ≤ v → v ≤ t.shi p → t.ok1 h p v = true → loE (t.set h p) ≤ v ∧ v ≤ hiE (t.set h p)
  bit : ∀ v, t.slo p ≤ v → v ≤ t.shi p → bitAt (t.set h p) v = if t.ok1 h p v = true then ((2 ^ v.toNat : Nat) : Int) else 0
theorem set_is {t : TD} (hv : t.Valid) (h : Nat → Int) {p : Nat} (hp : p < t.nS) : SetIs t h p := by
  have hs := hv.2.2.2.2.1 p hp
  simp only [TD.sandOk] at hs
  obtain ⟨c, hc⟩ : ∃ c, c = (t.shi p - t.slo p + 1).toNat := ⟨_, rfl⟩
  have hc4 : c < 4 := by omega
  have hcs : (c : Int) = t.shi p - t.slo p + 1 := by omega
  obtain ⟨f, hf⟩ : ∃ f : Nat → Bool, f = fun j => t.ok1 h p (t.slo p + (j : Nat)) := ⟨_, rfl⟩
  have hfv : ∀ v, t.slo p ≤ v → t.ok1 h p v = f (v - t.slo p).toNat := fun v h1 => by
    rw [hf]
    show _ = t.ok1 h p (t.slo p + ((v - t.slo p).toNat : Int))
    rw [show t.slo p + ((v - t.slo p).toNat : Int) = v by omega]
  have e0 := setF_mask (t := t) (h := h) hs.1.1 c
  rw [← hf] at e0
  have eb := bs_eq f hc4
  have d0 := mask_d1 c hc4 (f 0) (f 1) (f 2)
  have d3 := mask_d3 c hc4 (f 0) (f 1) (f 2)
  have d4a := mask_d4 c hc4 (f 0) (f 1) (f 2)
  have d4b := mask_d5 c hc4 (f 0) (f 1) (f 2)
  have d5 := mask_d6 c hc4 (f 0) (f 1) (f 2)
  rw [← maskF_congr eb] at d0 d3 d4a d4b d5
  rw [← cntN_congr eb] at d3
  obtain ⟨d1, d2⟩ := d0
  obtain ⟨lo, hlo⟩ : ∃ lo : Nat, t.slo p = lo := ⟨(t.slo p).toNat, by omega⟩
  have hl61 : lo < 61 := by omega
  have eS : t.set h p = ((maskF f c * 2 ^ lo : Nat) : Int) := by
    rw [TD.set, ← hc, e0, hlo]
    rfl
  have p0 : 0 < 2 ^ lo := Nat.pow_pos (by omega)
  have z : t.set h p = 0 ↔ maskF f c = 0 := by
    rw [eS]
    constructor
    · intro h1
      have h2 : maskF f c * 2 ^ lo = 0 := by omega
      rcases Nat.mul_eq_zero.1 h2 with h3 | h3
      · exact h3
      · omega
    · intro h1
      rw [h1, Nat.zero_mul]
      rfl
  have few : maskF f c ≠ 0 → loE (t.set h p) = lo + loM (maskF f c) ∧ hiE (t.set h p) = lo + hiM (maskF f c) - 1 ∧ oc64 (t.set h p) = (if maskF f c = 1 ∨ maskF f c = 2 ∨ maskF f c = 4 then 1 else if maskF f c = 7 then 3 else 2) := fun h1 => by
    have hfew := few_all lo hl61 (maskF f c) d1 (by omega)
    simp only [fewOk, Bool.and_eq_true, decide_eq_true_eq] at hfew
    obtain ⟨_, a3, a4, a5⟩ := hfew
    rw [← eS] at a3 a4
    refine ⟨?_, ?_, a4⟩
    · rw [loE, a3, loM]
      push_cast
      congr 1
      repeat' split
      all_goals rfl
    · rw [hiE, eS, Int.toNat_natCast, a5, hiM]
      repeat' split
      all_goals (push_cast; omega)
  refine ⟨?_, ?_, ?_, ?_⟩
  · rw [z, d2]
    constructor
    · intro h1 v h2 h3
      rw [hfv v h2, eb (v - t.slo p).toNat (by omega)]
      exact h1 (v - t.slo p).toNat (by omega)
    · intro h1 j hj
      have := h1 (t.slo p + j) (by omega) (by omega)
      rw [hfv _ (by omega), show (t.slo p + (j : Int) - t.slo p).toNat = j by omega] at this
      rw [← eb j hj]
      exact this
  · rw [cntI_N, ← hc, ← hf, ← d3]
    by_cases h1 : maskF f c = 0
    · rw [z.2 h1, if_pos h1, oc_zero]
      rfl
    · rw [(few h1).2.2, if_neg h1]
      repeat' split
      all_goals rfl
  · intro h1
    have h1' : maskF f c ≠ 0 := fun h2 => h1 (z.2 h2)
    obtain ⟨f1, f2, _⟩ := few h1'
    obtain ⟨g1, g2, g3, g4⟩ := d4a h1'
    have g5 := d4b h1'
    have hh : 1 ≤ hiM (maskF f c) := by
      unfold hiM
      repeat' split
      all_goals omega
    rw [f1, f2]
    clear few z eS e0 d3 d4a d4b d5 p0 f1 f2 h1
    refine ⟨⟨by omega, by omega, ?_⟩, ⟨by omega, by omega, ?_⟩, fun v h2 h3 h4 => ?_⟩
    · rw [hfv _ (by omega), show ((lo : Int) + (loM (maskF f c) : Int) - t.slo p).toNat = loM (maskF f c) by omega, eb _ g1]
      exact g3
    · rw [hfv _ (by omega), show ((lo : Int) + (hiM (maskF f c) : Int) - 1 - t.slo p).toNat = hiM (maskF f c) - 1 by omega, eb _ g2]
      exact g4
    · rw [hfv v h2, eb (v - t.slo p).toNat (by omega)] at h4
      have := g5 (v - t.slo p).toNat (by omega) h4
      omega
  · intro v h2 h3
    have hm : maskF f c * 2 ^ lo < 2 ^ 64 := by
      have : 2 ^ lo ≤ 2 ^ 60 := Nat.pow_le_pow_right (by omega) (by omega)
      have := Nat.mul_le_mul (show maskF f c ≤ 7 by omega) this
      omega
    have := bitAt_or (maskF f c * 2 ^ lo) v.toNat hm (by omega)
    rw [show ((v.toNat : Nat) : Int) = v by omega] at this
    rw [eS, this]
    have e1 : (maskF f c * 2 ^ lo).testBit v.toNat = t.ok1 h p v := by
      rw [Nat.testBit_mul_two_pow, hfv v h2, eb (v - t.slo p).toNat (by omega), show (v - t.slo p).toNat = v.toNat - lo by omega, d5 (v.toNat - lo) (by omega)]
      simp
      omega
    rw [e1]
end Go.Proofs.YtipbempkngfdbaaDoor
/-
  What is told, by truths one by one.
-/
namespace Go.Proofs.YtipbempkngfdbaaDoor
open Go Go.Sy
set_option maxRecDepth 100000
set_option maxHeartbeats 4000000

/-- All looks can be so. -/
def TD.right (t : TD) (h s : Nat → Int) : Bool := allB (fun i => t.fit h i (s (t.lp i).toNat)) t.nL
def TD.hts (t : TD) : List (Nat → Int) := lsts t.mlo t.mhi t.nM t.nM fun _ => 0
def TD.sds (t : TD) : List (Nat → Int) := lsts t.slo t.shi t.nS t.nS fun _ => 0
/-- All truths. -/
def TD.tru (t : TD) : List ((Nat → Int) × (Nat → Int)) := t.hts.flatMap fun h => (t.sds.filter (t.right h)).map fun s => (h, s)
theorem hts_mem {t : TD} {h : Nat → Int} : h ∈ t.hts ↔ (∀ i, i < t.nM → t.mlo i ≤ h i ∧ h i ≤ t.mhi i) ∧ ∀ i, t.nM ≤ i → h i = 0 := by
  rw [TD.hts, lsts_mem (Nat.le_refl _)]
  constructor
  · rintro ⟨a, b⟩
    exact ⟨fun i hi => a i (by omega) hi, fun i hi => b i (.inr hi)⟩
  · rintro ⟨a, b⟩
    exact ⟨fun i _ hi => a i hi, fun i hi => b i (by omega)⟩
theorem sds_mem {t : TD} {s : Nat → Int} : s ∈ t.sds ↔ (∀ i, i < t.nS → t.slo i ≤ s i ∧ s i ≤ t.shi i) ∧ ∀ i, t.nS ≤ i → s i = 0 := by
  rw [TD.sds, lsts_mem (Nat.le_refl _)]
  constructor
  · rintro ⟨a, b⟩
    exact ⟨fun i hi => a i (by omega) hi, fun i hi => b i (.inr hi)⟩
  · rintro ⟨a, b⟩
    exact ⟨fun i _ hi => a i hi, fun i hi => b i (by omega)⟩
theorem tru_mem {t : TD} {x : (Nat → Int) × (Nat → Int)} : x ∈ t.tru ↔ x.1 ∈ t.hts ∧ x.2 ∈ t.sds ∧ t.right x.1 x.2 = true := by
  obtain ⟨h, s⟩ := x
  simp only [TD.tru, List.mem_flatMap, List.mem_map, List.mem_filter]
  constructor
  · rintro ⟨a, h1, b, ⟨h2, h3⟩, h4⟩
    cases h4
    exact ⟨h1, h2, h3⟩
  · rintro ⟨h1, h2, h3⟩
    exact ⟨h, h1, s, ⟨h2, h3⟩, rfl⟩
theorem right_iff {t : TD} (hv : t.Valid) {h s : Nat → Int} : t.right h s = true ↔ ∀ p, p < t.nS → t.ok1 h p (s p) = true := by
  simp only [TD.right, TD.ok1, allB_iff]
  constructor
  · intro a p hp i hi
    have := a i hi
    by_cases e : t.lp i = p
    · rw [e, Int.toNat_natCast] at this
      simp [e, this]
    · simp [e]
  · intro a i hi
    have hl := hv.2.2.2.2.2 i hi
    simp only [TD.lookOk] at hl
    have hS := hv.2.1
    have := a (t.lp i).toNat (by omega) i hi
    have e : t.lp i = (t.lp i).toNat := by omega
    simpa [← e] using this
theorem right_all {t : TD} (hv : t.Valid) (h s : Nat → Int) : t.right h s = allF (fun i => t.ok1 h i (s i)) 0 t.nS := by
  rw [Bool.eq_iff_iff, right_iff hv, allF_iff]
  exact ⟨fun a i _ hi => a i (by omega), fun a i hi => a i (by omega) (by omega)⟩

/-! ### The program's truths -/
def TD.some (t : TD) (h : Nat → Int) : Bool := allB (fun p => !decide (t.set h p = 0)) t.nS
theorem tls_eq (t : TD) : ∀ (r : Nat) (h : Nat → Int), t.tls r h = (lsts t.mlo t.mhi t.nM r h).flatMap fun g => if t.some g = true then [t.tr g] else []
  | 0, h => by
    simp only [TD.tls, lsts, TD.some, List.flatMap_cons, List.flatMap_nil, List.append_nil]
    rfl
  | r + 1, h => by
    rw [TD.tls, lsts, catG_bind, catF_eq]
    exact catG_congr fun v _ _ => tls_eq t r _
theorem all_eq (t : TD) : t.all = t.hts.flatMap fun g => if t.some g = true then [t.tr g] else [] := tls_eq t t.nM _
theorem all_mem {t : TD} {x : Tr} : x ∈ t.all ↔ ∃ h ∈ t.hts, t.some h = true ∧ x = t.tr h := by
  rw [all_eq, List.mem_flatMap]
  constructor
  · rintro ⟨h, h1, h2⟩
    split at h2
    · rename_i h3
      exact ⟨h, h1, h3, by simpa using h2⟩
    · simp at h2
  · rintro ⟨h, h1, h2, rfl⟩
    exact ⟨h, h1, by simp [h2]⟩
theorem some_iff {t : TD} (_ : t.Valid) {h : Nat → Int} : t.some h = true ↔ ∀ p, p < t.nS → t.set h p ≠ 0 := by
  simp [TD.some, allB_iff]
theorem some_of {t : TD} (hv : t.Valid) {h s : Nat → Int} (hs : s ∈ t.sds) (hr : t.right h s = true) : t.some h = true := by
  refine (some_iff hv).2 fun p hp e => ?_
  have h1 := (right_iff hv).1 hr p hp
  have h2 := (sds_mem.1 hs).1 p hp
  rw [(set_is hv h hp).zero.1 e _ h2.1 h2.2] at h1
  cases h1
/-- The sand by a choice for each place. -/
def sandBy (t : TD) (f : Nat → Int) (p : Nat) : Int := if p < t.nS then f p else 0
theorem sand_right {t : TD} (hv : t.Valid) {h f : Nat → Int} (hf : ∀ p, p < t.nS → t.slo p ≤ f p ∧ f p ≤ t.shi p ∧ t.ok1 h p (f p) = true) : sandBy t f ∈ t.sds ∧ t.right h (sandBy t f) = true := by
  refine ⟨sds_mem.2 ⟨fun i hi => ?_, fun i hi => ?_⟩, (right_iff hv).2 fun p hp => ?_⟩
  · simp only [sandBy, if_pos hi]
    exact ⟨(hf i hi).1, (hf i hi).2.1⟩
  · simp only [sandBy, if_neg (by omega : ¬ i < t.nS)]
  · simp only [sandBy, if_pos hp]
    exact (hf p hp).2.2
theorem all_nil {t : TD} (hv : t.Valid) : t.all = [] ↔ t.tru = [] := by
  constructor
  · intro h0
    refine List.eq_nil_iff_forall_not_mem.2 fun x hx => ?_
    obtain ⟨h1, h2, h3⟩ := tru_mem.1 hx
    have : t.tr x.1 ∈ t.all := all_mem.2 ⟨_, h1, some_of hv h2 h3, rfl⟩
    rw [h0] at this
    simp at this
  · intro h0
    refine List.eq_nil_iff_forall_not_mem.2 fun x hx => ?_
    obtain ⟨h, h1, h2, rfl⟩ := all_mem.1 hx
    have hs := (some_iff hv).1 h2
    obtain ⟨g1, g2⟩ := sand_right hv (h := h) (f := fun p => loE (t.set h p)) fun p hp => ((set_is hv h hp).ends (hs p hp)).1
    have : (h, sandBy t fun p => loE (t.set h p)) ∈ t.tru := tru_mem.2 ⟨h1, g1, g2⟩
    rw [h0] at this
    simp at this

/-! ### How many -/
theorem count_h {t : TD} (hv : t.Valid) (h : Nat → Int) : manyF (t.tr h) t.nS = ((t.sds.filter (t.right h)).length : Int) := by
  have e := lsts_count (lo := t.slo) (hi := t.shi) (n := t.nS) (t.ok1 h) (r := t.nS) (h := fun _ => 0) (Nat.le_refl _)
  rw [Nat.sub_self] at e
  have e2 : t.sds.filter (t.right h) = t.sds.filter fun x => allF (fun i => t.ok1 h i (x i)) 0 t.nS := List.filter_congr fun x _ => right_all hv h x
  rw [e2, TD.sds, e]
  have := manyF_prod (t.tr h) (fun i => cntI (t.ok1 h i) (t.slo i) (t.shi i - t.slo i + 1).toNat) t.nS 0 fun i _ hi => by
    have hi' : i < t.nS := by omega
    simp only [TD.tr, if_pos hi']
    exact (set_is hv h hi').many
  rw [Nat.zero_add, manyF, Int.one_mul] at this
  exact this
theorem count_none {t : TD} (hv : t.Valid) {h : Nat → Int} (hn : ¬ t.some h = true) : t.sds.filter (t.right h) = [] :=
  List.filter_eq_nil_iff.2 fun _ hs hr => hn (some_of hv hs hr)
theorem sumF_tru {t : TD} (hv : t.Valid) : ∀ L : List (Nat → Int), sumF t (L.flatMap fun g => if t.some g = true then [t.tr g] else []) = ((L.flatMap fun h => (t.sds.filter (t.right h)).map fun s => (h, s)).length : Int)
  | [] => rfl
  | h :: L => by
    rw [List.flatMap_cons, List.flatMap_cons, sumF_app, sumF_tru hv L, List.length_append, List.length_map]
    push_cast
    congr 1
    split
    · simp only [sumF]
      rw [count_h hv]
      omega
    · rename_i hn
      rw [count_none hv hn]
      rfl
theorem count_tru {t : TD} (hv : t.Valid) : t.countT = ⟨t.tru.length, 0⟩ := by
  have := sumF_tru hv t.hts
  rw [← all_eq] at this
  simp only [TD.countT, hv, not_true, if_false, this]
  rfl
end Go.Proofs.YtipbempkngfdbaaDoor
/-
  Depths that are told, and how many truths have each, by truths one by one.
-/
namespace Go.Proofs.YtipbempkngfdbaaDoor
open Go Go.Sy
set_option maxRecDepth 100000
set_option maxHeartbeats 4000000

/-- How deep it is at a place at a minute. -/
def TD.dep (t : TD) (m : Int) (p : Nat) (x : (Nat → Int) × (Nat → Int)) : Int := max0 (t.stand x.1 m - x.2 p)
theorem max0_mono {a b : Int} (h : a ≤ b) : max0 a ≤ max0 b := by
  unfold max0
  split <;> split <;> omega
theorem max0_nn (a : Int) : 0 ≤ max0 a := by
  unfold max0
  split <;> omega
/-- What is told of the depth, where there are truths. -/
structure DepIs (t : TD) (p : Nat) (m lo hi : Int) : Prop where
  v : t.depthT p m = ⟨(lo, hi), 0⟩
  bnd : ∀ x ∈ t.tru, lo ≤ t.dep m p x ∧ t.dep m p x ≤ hi
  lo : ∃ x ∈ t.tru, t.dep m p x = lo
  hi : ∃ x ∈ t.tru, t.dep m p x = hi
theorem dep_is {t : TD} (hv : t.Valid) (hn : t.tru ≠ []) {p : Nat} (hp : p < t.nS) {m : Int} (hm : t.isMin m) : ∃ lo hi, DepIs t p m lo hi := by
  have hna : t.all ≠ [] := fun h => hn ((all_nil hv).1 h)
  have hpl : t.isPl (p : Int) := ⟨by omega, by omega⟩
  have key : ∀ h ∈ t.hts, t.some h = true → (t.tr h).s p = t.set h p ∧ SetIs t h p ∧ t.set h p ≠ 0 := fun h _ hs => by
    refine ⟨?_, set_is hv h hp, (some_iff hv).1 hs p hp⟩
    simp only [TD.tr, if_pos hp]
  have pick : ∀ h ∈ t.hts, t.some h = true → ∀ v, t.slo p ≤ v → v ≤ t.shi p → t.ok1 h p v = true → ∃ x ∈ t.tru, x.1 = h ∧ x.2 p = v := fun h hh hs v h1 h2 h3 => by
    obtain ⟨g1, g2⟩ := sand_right hv (h := h) (f := fun q => if q = p then v else loE (t.set h q)) fun q hq => by
      by_cases e : q = p
      · subst e
        simp only [if_true]
        exact ⟨h1, h2, h3⟩
      · simp only [if_neg e]
        exact ((set_is hv h hq).ends ((some_iff hv).1 hs q hq)).1
    refine ⟨(h, _), tru_mem.2 ⟨hh, g1, g2⟩, rfl, ?_⟩
    show (if p < t.nS then (if p = p then v else loE (t.set h p)) else 0) = v
    rw [if_pos hp, if_pos rfl]
  refine ⟨_, _, ⟨by simp only [TD.depthT, hv, hpl, hm, hna, not_true, if_false, and_self]; rfl, fun x hx => ?_, ?_, ?_⟩⟩
  · obtain ⟨h1, h2, h3⟩ := tru_mem.1 hx
    have hs := some_of hv h2 h3
    obtain ⟨e, si, hne⟩ := key _ h1 hs
    have hy : t.tr x.1 ∈ t.all := all_mem.2 ⟨_, h1, hs, rfl⟩
    have a1 := (hul_mem (a := a98 t m p) hy).1
    have a2 := (hul_mem (a := b98 t m p) hy).2
    have b := (si.ends hne).2.2 (x.2 p) ((sds_mem.1 h2).1 p hp).1 ((sds_mem.1 h2).1 p hp).2 ((right_iff hv).1 h3 p hp)
    have c1 : a98 t m p (t.tr x.1) ≤ t.dep m p x := by
      unfold a98 TD.dep
      rw [e]
      exact max0_mono (by have := b.2; show t.stand x.1 m - _ ≤ _; omega)
    have c2 : t.dep m p x ≤ b98 t m p (t.tr x.1) := by
      unfold b98 TD.dep
      rw [e]
      exact max0_mono (by have := b.1; show _ ≤ t.stand x.1 m - _; omega)
    exact ⟨Int.le_trans a1 c1, Int.le_trans c2 a2⟩
  · obtain ⟨⟨y, hy, ey⟩, _⟩ := hul_ex (a := a98 t m p) hna
    obtain ⟨h, h1, h2, rfl⟩ := all_mem.1 hy
    obtain ⟨e, si, hne⟩ := key h h1 h2
    obtain ⟨x, hx, e1, e2⟩ := pick h h1 h2 _ (si.ends hne).2.1.1 (si.ends hne).2.1.2.1 (si.ends hne).2.1.2.2
    refine ⟨x, hx, ?_⟩
    show _ = hulLo (a98 t m p) t.all t.all.length
    rw [ey]
    unfold a98 TD.dep
    rw [e, e1, e2]
    rfl
  · obtain ⟨_, y, hy, ey⟩ := hul_ex (a := b98 t m p) hna
    obtain ⟨h, h1, h2, rfl⟩ := all_mem.1 hy
    obtain ⟨e, si, hne⟩ := key h h1 h2
    obtain ⟨x, hx, e1, e2⟩ := pick h h1 h2 _ (si.ends hne).1.1 (si.ends hne).1.2.1 (si.ends hne).1.2.2
    refine ⟨x, hx, ?_⟩
    show _ = hulHi (b98 t m p) t.all t.all.length
    rw [ey]
    unfold b98 TD.dep
    rw [e, e1, e2]
    rfl

/-! ### How many truths have a depth -/
theorem filter_or_len {α : Type} {a b : α → Bool} : ∀ {l : List α}, (∀ x ∈ l, ¬ (a x = true ∧ b x = true)) → (l.filter fun x => a x || b x).length = (l.filter a).length + (l.filter b).length
  | [], _ => rfl
  | x :: l, h => by
    have ih := filter_or_len (l := l) fun y hy => h y (List.mem_cons_of_mem _ hy)
    have hx := h x List.mem_cons_self
    cases ha : a x <;> cases hb : b x
    · simp [ha, hb, ih]
    · simp [ha, hb, ih]; omega
    · simp [ha, hb, ih]; omega
    · exact absurd ⟨ha, hb⟩ hx
theorem cntI_at (q : Int → Bool) (lo v : Int) : ∀ c, cntI (fun x => q x && decide (x = v)) lo c = if lo ≤ v ∧ v < lo + c ∧ q v = true then 1 else 0
  | 0 => by rw [cntI, if_neg (by omega)]
  | c + 1 => by
    rw [cntI, cntI_at q lo v c]
    by_cases e : lo + c = v
    · rw [← e]
      cases h : q (lo + c)
      · simp
      · rw [if_neg (by omega), if_pos (by simp), if_pos ⟨by omega, by omega, rfl⟩]
    · rw [if_neg (show ¬ (q (lo + c) && decide (lo + c = v)) = true by simp [e])]
      by_cases h : lo ≤ v ∧ v < lo + c ∧ q v = true
      · rw [if_pos h, if_pos ⟨h.1, by omega, h.2.2⟩]
      · rw [if_neg h, if_neg (fun h2 => h ⟨h2.1, by omega, h2.2.2⟩)]
theorem oc_pow {v : Nat} (h : v < 61) : oc64 ((2 ^ v : Nat) : Int) = 1 := by
  have := few_all v h 1 (by decide) (by decide)
  simp only [fewOk, Bool.and_eq_true, decide_eq_true_eq, Nat.one_mul] at this
  exact this.2.2.1
theorem count_one {t : TD} (hv : t.Valid) (h : Nat → Int) {p : Nat} (hp : p < t.nS) {v : Int} (h1 : t.slo p ≤ v) (h2 : v ≤ t.shi p) (h3 : t.ok1 h p v = true) :
    manyF ((t.tr h).one p ((2 ^ v.toNat : Nat) : Int)) t.nS = ((t.sds.filter fun s => t.right h s && decide (s p = v)).length : Int) := by
  have hs := hv.2.2.2.2.1 p hp
  simp only [TD.sandOk] at hs
  have e := lsts_count (lo := t.slo) (hi := t.shi) (n := t.nS) (fun i x => if i = p then t.ok1 h i x && decide (x = v) else t.ok1 h i x) (r := t.nS) (h := fun _ => 0) (Nat.le_refl _)
  rw [Nat.sub_self] at e
  have e2 : t.sds.filter (fun s => t.right h s && decide (s p = v)) = t.sds.filter fun x => allF (fun i => if i = p then t.ok1 h i (x i) && decide (x i = v) else t.ok1 h i (x i)) 0 t.nS := List.filter_congr fun x _ => by
    rw [right_all hv, Bool.eq_iff_iff, Bool.and_eq_true, allF_iff, allF_iff]
    constructor
    · rintro ⟨a, b⟩ i hi hi'
      have := a i hi hi'
      split
      · rename_i e3
        subst e3
        simp only [Bool.and_eq_true]
        exact ⟨this, b⟩
      · exact this
    · intro a
      refine ⟨fun i hi hi' => ?_, ?_⟩
      · have := a i hi hi'
        split at this
        · simp only [Bool.and_eq_true] at this
          exact this.1
        · exact this
      · have := a p (by omega) (by omega)
        rw [if_pos rfl, Bool.and_eq_true] at this
        exact this.2
  rw [e2, TD.sds, e]
  have := manyF_prod ((t.tr h).one p ((2 ^ v.toNat : Nat) : Int)) (fun i => cntI (fun x => if i = p then t.ok1 h i x && decide (x = v) else t.ok1 h i x) (t.slo i) (t.shi i - t.slo i + 1).toNat) t.nS 0 fun i _ hi => by
    have hi' : i < t.nS := by omega
    simp only [Tr.one, upd, TD.tr]
    by_cases e3 : i = p
    · subst e3
      simp only [if_true]
      rw [cntI_at, if_pos ⟨h1, by omega, h3⟩, oc_pow (by omega)]
      rfl
    · simp only [if_neg e3, if_pos hi']
      exact (set_is hv h hi').many
  rw [Nat.zero_add, manyF, Int.one_mul] at this
  exact this

/-- How many truths with these heights of marks have a depth. -/
def TD.atH (t : TD) (m : Int) (p : Nat) (k : Int) (h : Nat → Int) : Int := ((t.sds.filter fun s => t.right h s && decide (t.dep m p (h, s) = k)).length : Int)
theorem depIn_aval {t : TD} (hv : t.Valid) {m : Int} {p : Nat} (hp : p < t.nS) (h : Nat → Int) (M : List (Int × Int)) (k : Int) : ∀ c : Nat, t.slo p + c ≤ t.shi p + 1 →
    aval (depIn t m p (t.tr h) c M) k = aval M k + ((t.sds.filter fun s => (t.right h s && decide (t.dep m p (h, s) = k)) && decide (s p < t.slo p + c)).length : Int)
  | 0, _ => by
    have : (t.sds.filter fun s => (t.right h s && decide (t.dep m p (h, s) = k)) && decide (s p < t.slo p + (0 : Nat))) = [] := List.filter_eq_nil_iff.2 fun s hs hq => by
      have := (sds_mem.1 hs).1 p hp
      simp only [Bool.and_eq_true, decide_eq_true_eq] at hq
      omega
    rw [this]
    simp [depIn]
  | c + 1, hc => by
    have ih := depIn_aval hv hp h M k (m := m) c (by omega)
    have si := set_is hv h hp
    have hb := si.bit (t.slo p + c) (by omega) (by omega)
    have hx : (t.tr h).s p = t.set h p := by simp only [TD.tr, if_pos hp]
    have split : (t.sds.filter fun s => (t.right h s && decide (t.dep m p (h, s) = k)) && decide (s p < t.slo p + (c + 1 : Nat))).length = (t.sds.filter fun s => (t.right h s && decide (t.dep m p (h, s) = k)) && decide (s p < t.slo p + c)).length + (t.sds.filter fun s => (t.right h s && decide (t.dep m p (h, s) = k)) && decide (s p = t.slo p + c)).length := by
      rw [← filter_or_len]
      · congr 1
        refine List.filter_congr fun s _ => ?_
        rw [Bool.eq_iff_iff]
        simp only [Bool.and_eq_true, Bool.or_eq_true, decide_eq_true_eq]
        constructor
        · rintro ⟨a, b⟩
          by_cases e : s p = t.slo p + c
          · exact .inr ⟨a, e⟩
          · exact .inl ⟨a, by omega⟩
        · rintro (⟨a, b⟩ | ⟨a, b⟩)
          · exact ⟨a, by omega⟩
          · exact ⟨a, by omega⟩
      · intro s _ ⟨a, b⟩
        simp only [Bool.and_eq_true, decide_eq_true_eq] at a b
        omega
    rw [split, depIn, depStep, hx]
    cases hok : t.ok1 h p (t.slo p + c)
    · rw [hok, if_neg (by decide)] at hb
      rw [if_pos hb, ih]
      have : (t.sds.filter fun s => (t.right h s && decide (t.dep m p (h, s) = k)) && decide (s p = t.slo p + c)) = [] := List.filter_eq_nil_iff.2 fun s hs hq => by
        simp only [Bool.and_eq_true, decide_eq_true_eq] at hq
        have := (right_iff hv).1 hq.1.1 p hp
        rw [hq.2, hok] at this
        cases this
      rw [this]
      simp
    · rw [hok, if_pos rfl] at hb
      have hs := hv.2.2.2.2.1 p hp
      simp only [TD.sandOk] at hs
      have hp2 : 0 < 2 ^ (t.slo p + (c : Int)).toNat := Nat.pow_pos (by omega)
      rw [if_neg (by rw [hb]; omega), hb, aval_aset, ih, count_one hv h hp (by omega) (by omega) hok]
      have ek : depKey t m (t.tr h) (t.slo p + c) = max0 (t.stand h m - (t.slo p + c)) := rfl
      by_cases e : depKey t m (t.tr h) (t.slo p + c) = k
      · rw [if_pos e]
        subst e
        have ih2 := ih
        rw [ih]
        have : (t.sds.filter fun s => t.right h s && decide (s p = t.slo p + c)) = t.sds.filter fun s => (t.right h s && decide (t.dep m p (h, s) = depKey t m (t.tr h) (t.slo p + c))) && decide (s p = t.slo p + c) := List.filter_congr fun s _ => by
          rw [Bool.eq_iff_iff]
          simp only [Bool.and_eq_true, decide_eq_true_eq]
          constructor
          · rintro ⟨a, b⟩
            exact ⟨⟨a, by rw [ek, ← b]; rfl⟩, b⟩
          · rintro ⟨⟨a, _⟩, b⟩
            exact ⟨a, b⟩
        rw [this]
        push_cast
        omega
      · rw [if_neg e]
        have : (t.sds.filter fun s => (t.right h s && decide (t.dep m p (h, s) = k)) && decide (s p = t.slo p + c)) = [] := List.filter_eq_nil_iff.2 fun s hs hq => by
          simp only [Bool.and_eq_true, decide_eq_true_eq] at hq
          apply e
          rw [ek, ← hq.1.2, ← hq.2]
          rfl
        rw [this]
        simp
theorem depIn_all {t : TD} (hv : t.Valid) {m : Int} {p : Nat} (hp : p < t.nS) (h : Nat → Int) (M : List (Int × Int)) (k : Int) : aval (depIn t m p (t.tr h) (t.shi p - t.slo p + 1).toNat M) k = aval M k + t.atH m p k h := by
  have hs := hv.2.2.2.2.1 p hp
  simp only [TD.sandOk] at hs
  rw [depIn_aval hv hp h M k _ (by omega), TD.atH]
  congr 3
  refine List.filter_congr fun s hs' => ?_
  have := (sds_mem.1 hs').1 p hp
  have e : decide (s p < t.slo p + ((t.shi p - t.slo p + 1).toNat : Int)) = true := decide_eq_true (by omega)
  rw [e, Bool.and_true]

def sumI {α : Type} (f : α → Int) : List α → Int
  | [] => 0
  | x :: l => f x + sumI f l
theorem sumI_app {α : Type} (f : α → Int) : ∀ a b : List α, sumI f (a ++ b) = sumI f a + sumI f b
  | [], b => by simp [sumI]
  | x :: a, b => by simp only [List.cons_append, sumI, sumI_app f a b]; omega
theorem depOut_aval {t : TD} {m : Int} {p : Nat} {g : List Tr} {k : Int} (φ : Tr → Int) (hφ : ∀ x ∈ g, ∀ M, aval (depIn t m p x (t.shi p - t.slo p + 1).toNat M) k = aval M k + φ x) : ∀ j, j ≤ g.length → aval (depOut t m p g j) k = sumI φ (g.take j)
  | 0, _ => by simp [depOut, aval, aget, sumI]
  | j + 1, hj => by
    rw [depOut, hφ _ (getD_mem (by omega)), depOut_aval φ hφ j (by omega), List.take_add_one, List.getElem?_eq_getElem (by omega), sumI_app, List.getD_eq_getElem?_getD, List.getElem?_eq_getElem (by omega)]
    simp [sumI]
/-- How many truths have a depth at a place at a minute. -/
def TD.cnt (t : TD) (m : Int) (p : Nat) (k : Int) : Nat := (t.tru.filter fun x => decide (t.dep m p x = k)).length
theorem sum_tru {t : TD} (hv : t.Valid) (m : Int) (p : Nat) (k : Int) : ∀ L : List (Nat → Int), sumI (fun x => t.atH m p k x.h) (L.flatMap fun g => if t.some g = true then [t.tr g] else []) =
    (((L.flatMap fun h => (t.sds.filter (t.right h)).map fun s => (h, s)).filter fun x => decide (t.dep m p x = k)).length : Int)
  | [] => rfl
  | h :: L => by
    have e1 : (((t.sds.filter (t.right h)).map fun s => (h, s)).filter fun x => decide (t.dep m p x = k)).length = (t.sds.filter fun s => t.right h s && decide (t.dep m p (h, s) = k)).length := by
      rw [List.filter_map, List.length_map, List.filter_filter]
      congr 1
      exact List.filter_congr fun s _ => by rw [Bool.and_comm]; rfl
    rw [List.flatMap_cons, List.flatMap_cons, sumI_app, sum_tru hv m p k L, List.filter_append, List.length_append, e1]
    push_cast
    congr 1
    split
    · simp only [sumI, Int.add_zero]
      rfl
    · rename_i hn
      have : (t.sds.filter fun s => t.right h s && decide (t.dep m p (h, s) = k)) = [] := List.filter_eq_nil_iff.2 fun s hs hq => by
        simp only [Bool.and_eq_true] at hq
        exact hn (some_of hv hs hq.1)
      rw [this]
      rfl
theorem depAll_cnt {t : TD} (hv : t.Valid) {m : Int} {p : Nat} (hp : p < t.nS) (k : Int) : aval (depAll t m p) k = (t.cnt m p k : Int) := by
  have h1 := depOut_aval (t := t) (m := m) (p := p) (g := t.all) (k := k) (fun x => t.atH m p k x.h) (fun x hx M => by
    obtain ⟨h, _, _, rfl⟩ := all_mem.1 hx
    exact depIn_all hv hp h M k) t.all.length (Nat.le_refl _)
  rw [List.take_length] at h1
  rw [depAll, h1]
  have := sum_tru hv m p k t.hts
  rwa [← all_eq] at this

/-! ### The map itself -/
/-- No key twice, and no number that is not above 0. -/
structure MapOk (M : List (Int × Int)) : Prop where
  nd : (M.map Prod.fst).Nodup
  pos : ∀ q ∈ M, 0 < q.2
theorem aget_nd {M : List (Int × Int)} (h : (M.map Prod.fst).Nodup) {q : Int × Int} (hq : q ∈ M) : aval M q.1 = q.2 := by
  induction M with
  | nil => simp at hq
  | cons a l ih =>
    obtain ⟨x, y⟩ := a
    rw [List.map_cons, List.nodup_cons] at h
    rcases List.mem_cons.1 hq with rfl | h2
    · simp [aval, aget]
    · have hne : x ≠ q.1 := fun e => h.1 (by rw [show (x, y).1 = q.1 from e]; exact List.mem_map_of_mem h2)
      have := ih h.2 h2
      unfold aval at this ⊢
      simp only [aget, if_neg hne]
      cases hc : aget l q.1 with
      | none => rw [hc] at this; simpa using this
      | some u => rw [hc] at this; simpa using this
theorem aval_mem {M : List (Int × Int)} {k : Int} (h : aval M k ≠ 0) : ∃ q ∈ M, q.1 = k ∧ q.2 = aval M k := by
  rcases aget_spec (k := k) (m := M) with ⟨h1, _⟩ | ⟨j, v, h1, h2⟩
  · exfalso
    apply h
    simp [aval, h1]
  · exact ⟨(k, v), List.mem_of_getElem? h2, rfl, by simp [aval, h1]⟩
theorem aset_ok {M : List (Int × Int)} (h : MapOk M) (k : Int) {v : Int} (hv : 0 < v) : MapOk (aset M k v) := by
  unfold aset
  rcases aget_spec (k := k) (m := M) with ⟨h1, h2⟩ | ⟨j, u, h1, h2⟩
  · rw [h1]
    refine ⟨?_, fun q hq => ?_⟩
    · rw [List.map_append, List.nodup_append]
      refine ⟨h.nd, by simp, fun a ha b hb e => ?_⟩
      simp only [List.map_cons, List.map_nil, List.mem_singleton] at hb
      subst hb
      subst e
      obtain ⟨q, hq, e⟩ := List.mem_map.1 ha
      exact h2 q hq e
    · rcases List.mem_append.1 hq with hq | hq
      · exact h.pos q hq
      · simp only [List.mem_singleton] at hq
        subst hq
        exact hv
  · rw [h1]
    refine ⟨?_, fun q hq => ?_⟩
    · have : (M.set j (k, v)).map Prod.fst = M.map Prod.fst := by
        apply List.ext_getElem?
        intro i
        rw [List.getElem?_map, List.getElem?_map, List.getElem?_set]
        by_cases e : j = i
        · subst e
          rw [if_pos rfl, h2]
          have : j < M.length := by
            rcases Nat.lt_or_ge j M.length with h | h
            · exact h
            · rw [List.getElem?_eq_none h] at h2; cases h2
          simp [this]
        · rw [if_neg e]
      show ((M.set j (k, v)).map Prod.fst).Nodup
      rw [this]
      exact h.nd
    · rcases List.mem_or_eq_of_mem_set hq with hq | rfl
      · exact h.pos q hq
      · exact hv
theorem depStep_ok {t : TD} (hv : t.Valid) {m : Int} {p : Nat} {x : Tr} (hx : fullTr t x) {n : Int} (h0 : 0 ≤ n) (h1 : n ≤ 60) {M : List (Int × Int)} (hM : MapOk M) : MapOk (depStep t m p x n M) := by
  unfold depStep
  split
  · exact hM
  · rename_i hb
    refine aset_ok hM _ ?_
    have hm := many_le hv (one_full hx p h0 h1 hb)
    have : 0 ≤ aval M (depKey t m x n) := by
      rcases Decidable.em (aval M (depKey t m x n) = 0) with e | e
      · omega
      · obtain ⟨q, hq, _, e2⟩ := aval_mem e
        have := hM.pos q hq
        omega
    omega
theorem depIn_ok {t : TD} (hv : t.Valid) {m : Int} {p : Nat} (hp : p < t.nS) {x : Tr} (hx : fullTr t x) {M : List (Int × Int)} (hM : MapOk M) : ∀ c : Nat, t.slo p + c ≤ t.shi p + 1 → MapOk (depIn t m p x c M)
  | 0, _ => hM
  | c + 1, hc => by
    have hs := hv.2.2.2.2.1 p hp
    simp only [TD.sandOk] at hs
    exact depStep_ok hv hx (by omega) (by omega) (depIn_ok hv hp hx hM c (by omega))
theorem depOut_ok {t : TD} (hv : t.Valid) {m : Int} {p : Nat} (hp : p < t.nS) {g : List Tr} (hg : ∀ x ∈ g, fullTr t x) : ∀ j, j ≤ g.length → MapOk (depOut t m p g j)
  | 0, _ => ⟨by simp [depOut], fun q hq => by simp [depOut] at hq⟩
  | j + 1, hj => by
    have hs := hv.2.2.2.2.1 p hp
    simp only [TD.sandOk] at hs
    exact depIn_ok hv hp (hg _ (getD_mem (by omega))) (depOut_ok hv hp hg j (by omega)) _ (by omega)
theorem depAll_ok {t : TD} (hv : t.Valid) {m : Int} {p : Nat} (hp : p < t.nS) : MapOk (depAll t m p) := depOut_ok hv hp (all_full hv) _ (Nat.le_refl _)
theorem cnt_pos {t : TD} {m : Int} {p : Nat} {k : Int} : 0 < t.cnt m p k ↔ ∃ x ∈ t.tru, t.dep m p x = k := by
  rw [TD.cnt, List.length_pos_iff_exists_mem]
  simp [List.mem_filter]
theorem any_dep {t : TD} (hv : t.Valid) {m : Int} {p : Nat} (hp : p < t.nS) (f : Int → Bool) : ((depAll t m p).any fun q => f q.1) = true ↔ ∃ x ∈ t.tru, f (t.dep m p x) = true := by
  have ok := depAll_ok hv hp (m := m)
  rw [List.any_eq_true]
  constructor
  · rintro ⟨q, hq, hf⟩
    have h1 := aget_nd ok.nd hq
    have h2 := ok.pos q hq
    rw [depAll_cnt hv hp] at h1
    obtain ⟨x, hx, e⟩ := cnt_pos.1 (show 0 < t.cnt m p q.1 by omega)
    exact ⟨x, hx, by rw [e]; exact hf⟩
  · rintro ⟨x, hx, hf⟩
    have h1 : 0 < t.cnt m p (t.dep m p x) := cnt_pos.2 ⟨x, hx, rfl⟩
    have h2 := depAll_cnt hv hp (m := m) (t.dep m p x)
    obtain ⟨q, hq, e, _⟩ := aval_mem (show aval (depAll t m p) (t.dep m p x) ≠ 0 by omega)
    exact ⟨q, hq, by rw [e]; exact hf⟩
theorem maxV_le : ∀ {M : List (Int × Int)} {q : Int × Int}, q ∈ M → q.2 ≤ maxV M
  | [], _, h => by simp at h
  | a :: l, q, h => by
    simp only [maxV]
    rcases List.mem_cons.1 h with rfl | h
    · omega
    · have := maxV_le h
      omega
theorem maxV_ex : ∀ {M : List (Int × Int)}, maxV M = 0 ∨ ∃ q ∈ M, q.2 = maxV M
  | [] => .inl rfl
  | a :: l => by
    simp only [maxV]
    rcases Int.le_total (maxV l) a.2 with h | h
    · exact .inr ⟨a, List.mem_cons_self, by omega⟩
    · rcases maxV_ex (M := l) with h2 | ⟨q, hq, e⟩
      · rcases Int.lt_or_le 0 a.2 with h3 | h3
        · omega
        · exact .inl (by omega)
      · exact .inr ⟨q, List.mem_cons_of_mem _ hq, by omega⟩
/-- The greatest number of truths with the same depth. -/
theorem max_dep {t : TD} (hv : t.Valid) {m : Int} {p : Nat} (hp : p < t.nS) (hn : t.tru ≠ []) : (∀ k, (t.cnt m p k : Int) ≤ maxV (depAll t m p)) ∧ ∃ x ∈ t.tru, maxV (depAll t m p) = t.cnt m p (t.dep m p x) := by
  have ok := depAll_ok hv hp (m := m)
  have le : ∀ k, (t.cnt m p k : Int) ≤ maxV (depAll t m p) := fun k => by
    rcases Nat.eq_zero_or_pos (t.cnt m p k) with h | h
    · rw [h]
      exact (maxV_app (depAll t m p) []).2
    · have h2 := depAll_cnt hv hp (m := m) k
      obtain ⟨q, hq, e, e2⟩ := aval_mem (show aval (depAll t m p) k ≠ 0 by omega)
      have := maxV_le hq
      omega
  refine ⟨le, ?_⟩
  rcases maxV_ex (M := depAll t m p) with h | ⟨q, hq, e⟩
  · exfalso
    obtain ⟨x, hx⟩ := List.exists_mem_of_ne_nil _ hn
    have h1 : 0 < t.cnt m p (t.dep m p x) := cnt_pos.2 ⟨x, hx, rfl⟩
    have := le (t.dep m p x)
    omega
  · have h1 := aget_nd ok.nd hq
    have h2 := ok.pos q hq
    rw [depAll_cnt hv hp] at h1
    obtain ⟨x, hx, e1⟩ := cnt_pos.1 (show 0 < t.cnt m p q.1 by omega)
    exact ⟨x, hx, by rw [e1]; omega⟩
theorem nextF_spec (f : Nat → Int) : ∀ n, 0 < n → ∃ p : Nat, nextF f n = ((p : Int), f p) ∧ p < n ∧ ∀ q, q < n → f p ≤ f q ∧ (q < p → f p < f q)
  | 0, h => by omega
  | k + 1, _ => by
    simp only [nextF]
    rcases Nat.eq_zero_or_pos k with rfl | hk
    · refine ⟨0, by simp, by omega, fun q hq => ?_⟩
      have : q = 0 := by omega
      subst this
      exact ⟨Int.le_refl _, fun h => by omega⟩
    · obtain ⟨p, e, h1, h2⟩ := nextF_spec f k hk
      rw [e]
      by_cases h : f k < f p
      · rw [if_pos (.inr h)]
        refine ⟨k, rfl, by omega, fun q hq => ?_⟩
        rcases Nat.lt_succ_iff_lt_or_eq.1 hq with h3 | rfl
        · have := (h2 q h3).1
          exact ⟨by omega, fun _ => by omega⟩
        · exact ⟨Int.le_refl _, fun h => by omega⟩
      · rw [if_neg (by simp only; omega)]
        refine ⟨p, rfl, by omega, fun q hq => ?_⟩
        rcases Nat.lt_succ_iff_lt_or_eq.1 hq with h3 | rfl
        · exact h2 q h3
        · exact ⟨by omega, fun h => by omega⟩
end Go.Proofs.YtipbempkngfdbaaDoor
/-
  The plain law of a look more.
-/
namespace Go.Proofs.YtipbempkngfdbaaDoor
open Go Go.Sy
set_option maxRecDepth 100000
set_option maxHeartbeats 4000000

/-- A tide with a look more. -/
def TD.plus (t : TD) (a m lo hi : Int) (cap : Nat) : TD :=
  { t with nL := t.nL + 1, lp := fun k => if k = t.nL then a else t.lp k, lm := fun k => if k = t.nL then m else t.lm k, llo := fun k => if k = t.nL then lo else t.llo k, lhi := fun k => if k = t.nL then hi else t.lhi k, bL := true, cL := cap }
theorem plus_valid {t : TD} (hv : t.Valid) (hL : t.nL < 6) {p : Nat} (hp : p < t.nS) {m : Int} (hm : t.isMin m) {lo hi : Int} (h0 : 0 ≤ lo) (h1 : lo ≤ hi) (h2 : hi ≤ 60) (cap : Nat) : (t.plus p m lo hi cap).Valid := by
  obtain ⟨a, b, c, d, e, f⟩ := hv
  refine ⟨a, b, by show t.nL + 1 ≤ 6; omega, d, e, fun i hi' => ?_⟩
  have hi' : i < t.nL + 1 := hi'
  simp only [TD.lookOk, TD.plus]
  by_cases h : i = t.nL
  · simp only [if_pos h]
    exact ⟨⟨by omega, by omega⟩, hm, h0, h1, h2⟩
  · simp only [if_neg h]
    exact f i (by omega)
theorem plus_right {t : TD} (p : Nat) (m lo hi : Int) (cap : Nat) (h s : Nat → Int) : (t.plus p m lo hi cap).right h s = (t.right h s && inB (t.dep m p (h, s)) lo hi) := by
  have e : (t.plus p m lo hi cap).right h s = (allB (fun i => (t.plus p m lo hi cap).fit h i (s ((t.plus p m lo hi cap).lp i).toNat)) t.nL && (t.plus p m lo hi cap).fit h t.nL (s ((t.plus p m lo hi cap).lp t.nL).toNat)) := rfl
  rw [e]
  congr 1
  · rw [TD.right, Bool.eq_iff_iff, allB_iff, allB_iff]
    have key : ∀ i, i < t.nL → (t.plus p m lo hi cap).fit h i (s ((t.plus p m lo hi cap).lp i).toNat) = t.fit h i (s (t.lp i).toNat) := fun i hi' => by
      simp only [TD.fit, TD.plus, if_neg (show ¬ i = t.nL by omega)]
      rfl
    exact ⟨fun a i hi' => by rw [← key i hi']; exact a i hi', fun a i hi' => by rw [key i hi']; exact a i hi'⟩
  · simp only [TD.fit, TD.plus, if_true, Int.toNat_natCast]
    rfl
theorem plus_tru {t : TD} (p : Nat) (m lo hi : Int) (cap : Nat) : (t.plus p m lo hi cap).tru = t.tru.filter fun x => inB (t.dep m p x) lo hi := by
  have e : (t.plus p m lo hi cap).tru = t.hts.flatMap fun h => (t.sds.filter ((t.plus p m lo hi cap).right h)).map fun s => (h, s) := rfl
  rw [e, TD.tru, List.filter_flatMap]
  congr 1
  funext h
  rw [List.filter_map, List.filter_filter]
  congr 1
  refine List.filter_congr fun s _ => ?_
  rw [plus_right, Bool.and_comm]
  rfl
theorem plus_count {t : TD} (hv : t.Valid) (hL : t.nL < 6) {p : Nat} (hp : p < t.nS) {m : Int} (hm : t.isMin m) {lo hi : Int} (h0 : 0 ≤ lo) (h1 : lo ≤ hi) (h2 : hi ≤ 60) (cap : Nat) :
    (t.plus p m lo hi cap).countT = ⟨((t.tru.filter fun x => inB (t.dep m p x) lo hi).length : Int), 0⟩ := by
  rw [count_tru (plus_valid hv hL hp hm h0 h1 h2 cap), plus_tru]
theorem plus_cnt {t : TD} (hv : t.Valid) (hL : t.nL < 6) {p : Nat} (hp : p < t.nS) {m : Int} (hm : t.isMin m) {d : Int} (h0 : 0 ≤ d) (h1 : d ≤ 60) (cap : Nat) :
    (t.plus p m d d cap).countT = ⟨(t.cnt m p d : Int), 0⟩ := by
  rw [plus_count hv hL hp hm h0 (Int.le_refl _) h1, TD.cnt]
  congr 3
  refine List.filter_congr fun x _ => ?_
  rw [Bool.eq_iff_iff, inB_iff, decide_eq_true_eq]
  omega

/-- Depths are from 0 to 60. -/
theorem dep_range {t : TD} (hv : t.Valid) {p : Nat} (hp : p < t.nS) {m : Int} (hm : t.isMin m) {x : (Nat → Int) × (Nat → Int)} (hx : x ∈ t.tru) : 0 ≤ t.dep m p x ∧ t.dep m p x ≤ 60 := by
  obtain ⟨h1, h2, _⟩ := tru_mem.1 hx
  have hh : okH x.1 := fun i => by
    rcases Nat.lt_or_ge i t.nM with h | h
    · have := (hts_mem.1 h1).1 i h
      have mk := hv.marks (i := i) h
      simp only [TD.markOk] at mk
      omega
    · rw [(hts_mem.1 h1).2 i h]
      omega
  have hr := stand_range hv hm hh
  have hs := hv.2.2.2.2.1 p hp
  simp only [TD.sandOk] at hs
  have := (sds_mem.1 h2).1 p hp
  refine ⟨max0_nn _, ?_⟩
  unfold TD.dep max0
  split <;> omega
/-- The greatest number of truths left, of the depths below one. -/
def TD.worst (t : TD) (m : Int) (p : Nat) : Nat → Int
  | 0 => 0
  | k + 1 => if t.worst m p k < (t.cnt m p k : Int) then (t.cnt m p k : Int) else t.worst m p k
theorem worst_le {t : TD} {m : Int} {p : Nat} : ∀ {c : Nat} {k : Nat}, k < c → (t.cnt m p k : Int) ≤ t.worst m p c
  | 0, k, h => by omega
  | c + 1, k, h => by
    simp only [TD.worst]
    rcases Nat.lt_succ_iff_lt_or_eq.1 h with h | rfl
    · have := worst_le h (t := t) (m := m) (p := p)
      split <;> omega
    · split <;> omega
theorem worst_bd {t : TD} {m : Int} {p : Nat} {B : Int} (h0 : 0 ≤ B) (h : ∀ k : Nat, (t.cnt m p k : Int) ≤ B) : ∀ c : Nat, 0 ≤ t.worst m p c ∧ t.worst m p c ≤ B
  | 0 => ⟨Int.le_refl _, h0⟩
  | c + 1 => by
    have h1 := worst_bd h0 h c
    have h2 := h c
    simp only [TD.worst]
    split <;> omega
theorem worst_max {t : TD} (hv : t.Valid) (hn : t.tru ≠ []) {p : Nat} (hp : p < t.nS) {m : Int} (hm : t.isMin m) : t.worst m p 61 = maxV (depAll t m p) := by
  obtain ⟨h1, x, hx, h2⟩ := max_dep hv hp hn (m := m)
  have hr := dep_range hv hp hm hx
  have e : ((t.dep m p x).toNat : Int) = t.dep m p x := by omega
  have h3 := worst_le (t := t) (m := m) (p := p) (c := 61) (k := (t.dep m p x).toNat) (by omega)
  rw [e] at h3
  have h4 := (worst_bd (t := t) (m := m) (p := p) (B := maxV (depAll t m p)) (maxV_app (depAll t m p) []).2 (fun k => h1 k) 61).2
  omega
theorem cnt_le {t : TD} (m : Int) (p : Nat) (k : Int) : t.cnt m p k ≤ t.tru.length := List.length_filter_le _ _
theorem tru_len {t : TD} (hv : t.Valid) : t.tru.length ≤ 6561 := by
  have h := count_tru hv
  simp only [TD.countT, hv, not_true, if_false, Told.mk.injEq, and_true] at h
  have h2 := sumF_range hv t.all (all_full hv)
  have h3 := all_len hv
  omega
/-- What Next tells, where there are truths. -/
theorem next_law {t : TD} (hv : t.Valid) (hn : t.tru ≠ []) {m : Int} (hm : t.isMin m) :
    ∃ p : Nat, t.nextT m = ⟨((p : Int), t.worst m p 61), 0⟩ ∧ p < t.nS ∧ 1 ≤ t.worst m p 61 ∧ t.worst m p 61 ≤ t.tru.length ∧ ∀ q, q < t.nS → t.worst m p 61 ≤ t.worst m q 61 ∧ (q < p → t.worst m p 61 < t.worst m q 61) := by
  have hna : t.all ≠ [] := fun h => hn ((all_nil hv).1 h)
  obtain ⟨p, e, hp, hq⟩ := nextF_spec (fun p => maxV (depAll t m p)) t.nS (by have := hv.2.1; omega)
  have w : ∀ q, q < t.nS → t.worst m q 61 = maxV (depAll t m q) := fun q hq' => worst_max hv hn hq' hm
  obtain ⟨_, x, hx, h2⟩ := max_dep hv hp hn (m := m)
  have h3 : 0 < t.cnt m p (t.dep m p x) := cnt_pos.2 ⟨x, hx, rfl⟩
  have h4 := cnt_le (t := t) m p (t.dep m p x)
  refine ⟨p, ?_, hp, by rw [w p hp]; omega, by rw [w p hp]; omega, fun q hq' => by rw [w p hp, w q hq']; exact hq q hq'⟩
  unfold TD.nextT
  rw [if_neg (fun h => h hv), if_neg (fun h => h hm), if_neg hna, e, w p hp]
end Go.Proofs.YtipbempkngfdbaaDoor
/-
  The plain law of TideEnds, TideTrue: sums of depths, and places by bits.
-/
namespace Go.Proofs.YtipbempkngfdbaaDoor
open Go Go.Sy
set_option maxRecDepth 100000
set_option maxHeartbeats 4000000

/-- How many truths have a depth from a on, below n. -/
def TD.upTo (t : TD) (m : Int) (p : Nat) (a n : Int) : Nat := (t.tru.filter fun x => inB (t.dep m p x) a (n - 1)).length
theorem upTo_none (t : TD) (m : Int) (p : Nat) (a : Int) : t.upTo m p a a = 0 := by
  rw [TD.upTo, List.length_eq_zero_iff, List.filter_eq_nil_iff]
  intro x _ h
  have := inB_iff.1 h
  omega
theorem upTo_step {t : TD} {m : Int} {p : Nat} {a n : Int} (h : a ≤ n) : t.upTo m p a (n + 1) = t.upTo m p a n + t.cnt m p n := by
  rw [TD.upTo, TD.upTo, TD.cnt, ← filter_or_len]
  · congr 1
    refine List.filter_congr fun x _ => ?_
    rw [Bool.eq_iff_iff, Bool.or_eq_true, inB_iff, inB_iff, decide_eq_true_eq]
    omega
  · intro x _ ⟨h1, h2⟩
    have := inB_iff.1 h1
    have := of_decide_eq_true h2
    omega
theorem filter_all {α : Type} {q : α → Bool} {l : List α} (h : ∀ x ∈ l, q x = true) : l.filter q = l := List.filter_eq_self.2 h
theorem upTo_all {t : TD} {m : Int} {p : Nat} {a n : Int} (h : ∀ x ∈ t.tru, a ≤ t.dep m p x ∧ t.dep m p x < n) : t.upTo m p a n = t.tru.length := by
  rw [TD.upTo, filter_all]
  intro x hx
  have := h x hx
  exact inB_iff.2 ⟨this.1, by omega⟩
theorem cnt_zero {t : TD} {m : Int} {p : Nat} {k : Int} : t.cnt m p k = 0 ↔ ∀ x ∈ t.tru, t.dep m p x ≠ k := by
  constructor
  · intro h x hx e
    have : 0 < t.cnt m p k := cnt_pos.2 ⟨x, hx, e⟩
    omega
  · intro h
    rcases Nat.eq_zero_or_pos (t.cnt m p k) with h0 | h0
    · exact h0
    · obtain ⟨x, hx, e⟩ := cnt_pos.1 h0
      exact absurd e (h x hx)

def bs4 (a b c d : Bool) (j : Nat) : Bool := [a, b, c, d].getD j false
theorem bs4_eq (f : Nat → Bool) : ∀ j, j < 4 → f j = bs4 (f 0) (f 1) (f 2) (f 3) j := fun j hj => by
  have : j = 0 ∨ j = 1 ∨ j = 2 ∨ j = 3 := by omega
  rcases this with rfl | rfl | rfl | rfl <;> rfl
theorem bitsF_congr {f g : Nat → Bool} : ∀ {c : Nat}, (∀ j, j < c → f j = g j) → bitsF f c = bitsF g c
  | 0, _ => rfl
  | c + 1, h => by rw [bitsF, bitsF, bitsF_congr (c := c) fun j hj => h j (by omega), h c (by omega)]
theorem bits_dec : ∀ n, n < 5 → ∀ a b c d : Bool, ∀ p, p < n → bitOp .and .i64 ((bitsF (bs4 a b c d) n).fdiv (2 ^ p)) 1 = if bs4 a b c d p = true then 1 else 0 := by decide +kernel
theorem bits_range_dec : ∀ n, n < 5 → ∀ a b c d : Bool, 0 ≤ bitsF (bs4 a b c d) n ∧ bitsF (bs4 a b c d) n < 2 ^ n := by decide +kernel
theorem bitsF_bit (f : Nat → Bool) {n p : Nat} (hn : n ≤ 4) (hp : p < n) : bitOp .and .i64 ((bitsF f n).fdiv (2 ^ p)) 1 = if f p = true then 1 else 0 := by
  rw [bitsF_congr (g := bs4 (f 0) (f 1) (f 2) (f 3)) fun j hj => bs4_eq f j (by omega), bits_dec n (by omega) _ _ _ _ p hp, ← bs4_eq f p (by omega)]
theorem bitsF_range (f : Nat → Bool) {n : Nat} (hn : n ≤ 4) : 0 ≤ bitsF f n ∧ bitsF f n < 2 ^ n := by
  rw [bitsF_congr (g := bs4 (f 0) (f 1) (f 2) (f 3)) fun j hj => bs4_eq f j (by omega)]
  exact bits_range_dec n (by omega) _ _ _ _
/-- How many truths have a depth from l to h. -/
def TD.num (t : TD) (m : Int) (p : Nat) (l h : Int) : Nat := (t.tru.filter fun x => inB (t.dep m p x) l h).length
theorem num_all {t : TD} {m : Int} {p : Nat} {l h : Int} : t.num m p l h = t.tru.length ↔ ∀ x ∈ t.tru, inB (t.dep m p x) l h = true := by
  rw [TD.num, List.length_filter_eq_length_iff]
theorem num_pos {t : TD} {m : Int} {p : Nat} {l h : Int} : 0 < t.num m p l h ↔ ∃ x ∈ t.tru, inB (t.dep m p x) l h = true := by
  rw [TD.num, List.length_pos_iff_exists_mem]
  simp [List.mem_filter]
/-- What Places tells, where there are truths. -/
theorem places_law {t : TD} (hv : t.Valid) (hn : t.tru ≠ []) {m : Int} (hm : t.isMin m) {l h : Int} (hl : 0 ≤ l ∧ l ≤ 60) (hh : 0 ≤ h ∧ h ≤ 60) :
    ∃ S P : Nat → Bool, t.placesT m l h = ⟨(bitsF S t.nS, bitsF P t.nS), 0⟩ ∧ ∀ p, p < t.nS → (S p = true ↔ t.num m p l h = t.tru.length) ∧ (P p = true ↔ 0 < t.num m p l h) := by
  have hna : t.all ≠ [] := fun h => hn ((all_nil hv).1 h)
  refine ⟨_, _, by unfold TD.placesT; rw [if_neg (fun h => h hv), if_neg (fun h => h ⟨hm, hl, hh⟩), if_neg hna], fun p hp => ⟨?_, ?_⟩⟩
  · rw [num_all, Bool.not_eq_true', ← Bool.not_eq_true, anyOut, any_dep hv hp (m := m) fun d => !inB d l h]
    constructor
    · intro h1 x hx
      cases hb : inB (t.dep m p x) l h
      · exact absurd ⟨x, hx, by rw [hb]; rfl⟩ h1
      · rfl
    · rintro h1 ⟨x, hx, hb⟩
      rw [h1 x hx] at hb
      cases hb
  · rw [num_pos, anyIn, any_dep hv hp (m := m) fun d => inB d l h]
end Go.Proofs.YtipbempkngfdbaaDoor
