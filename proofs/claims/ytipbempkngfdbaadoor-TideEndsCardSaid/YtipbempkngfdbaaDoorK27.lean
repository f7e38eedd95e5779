/-
  Parts: D2, D1, D3, D7.
-/
import Derived.Test.YtipbempkngfdbaaDoorK25
import Derived.Test.YtipbempkngfdbaaDoorK23
import Derived.Test.YtipbempkngfdbaaDoorK22
/-
  The plain law of a look more.
-/
namespace Go.Proofs.YtipbempkngfdbaaDoor
open Go Go.Sy
set_option maxRecDepth 100000
set_option maxHeartbeats 4000000

/-- A tide with a look more. -/
def TD.plus (t : TD) (a m lo hi : Int) (cap : Nat) : TD :=
  { t with nL := t.nL + 1, lp := fun k => if k = t.nL then a else t.lp k, lm := fun k => if k = t.nL then m else t.lm k, llo := fun k => if k = t.nL then lo else t.llo k, lhi := fun k => if k = t.nL then hi else t.lhi k, bL := true, cL := cap }
theorem plus_valid {t : TD} (hv : t.Valid) (hL : t.nL < 6) {p : Nat} (hp : p < t.nS) {m : Int} (hm : t.isMin m) {lo hi : Int} (h0 : 0 ≤ lo) (h1 : lo ≤ hi) (h2 : hi ≤ 60) (cap : Nat) : (t.plus p m lo hi cap).Valid := by
  obtain ⟨a, b, c, d, e, f⟩ := hv
  refine ⟨a, b, by show t.nL + 1 ≤ 6; omega, d, e, fun i hi' => ?_⟩
  have hi' : i < t.nL + 1 := hi'
  simp only [TD.lookOk, TD.plus]
  by_cases h : i = t.nL
  · simp only [if_pos h]
    exact ⟨⟨by omega, by omega⟩, hm, h0, h1, h2⟩
  · simp only [if_neg h]
    exact f i (by omega)
theorem plus_right {t : TD} (p : Nat) (m lo hi : Int) (cap : Nat) (h s : Nat → Int) : (t.plus p m lo hi cap).right h s = (t.right h s && inB (t.dep m p (h, s)) lo hi) := by
  have e : (t.plus p m lo hi cap).right h s = (allB (fun i => (t.plus p m lo hi cap).fit h i (s ((t.plus p m lo hi cap).lp i).toNat)) t.nL && (t.plus p m lo hi cap).fit h t.nL (s ((t.plus p m lo hi cap).lp t.nL).toNat)) := rfl
  rw [e]
  congr 1
  · rw [TD.right, Bool.eq_iff_iff, allB_iff, allB_iff]
    have key : ∀ i, i < t.nL → (t.plus p m lo hi cap).fit h i (s ((t.plus p m lo hi cap).lp i).toNat) = t.fit h i (s (t.lp i).toNat) := fun i hi' => by
      simp only [TD.fit, TD.plus, if_neg (show ¬ i = t.nL by omega)]
      rfl
    exact ⟨fun a i hi' => by rw [← key i hi']; exact a i hi', fun a i hi' => by rw [key i hi']; exact a i hi'⟩
  · simp only [TD.fit, TD.plus, if_true, Int.toNat_natCast]
    rfl
theorem plus_tru {t : TD} (p : Nat) (m lo hi : Int) (cap : Nat) : (t.plus p m lo hi cap).tru = t.tru.filter fun x => inB (t.dep m p x) lo hi := by
  have e : (t.plus p m lo hi cap).tru = t.hts.flatMap fun h => (t.sds.filter ((t.plus p m lo hi cap).right h)).map fun s => (h, s) := rfl
  rw [e, TD.tru, List.filter_flatMap]
  congr 1
  funext h
  rw [List.filter_map, List.filter_filter]
  congr 1
  refine List.filter_congr fun s _ => ?_
  rw [plus_right, Bool.and_comm]
  rfl
theorem plus_count {t : TD} (hv : t.Valid) (hL : t.nL < 6) {p : Nat} (hp : p < t.nS) {m : Int} (hm : t.isMin m) {lo hi : Int} (h0 : 0 ≤ lo) (h1 : lo ≤ hi) (h2 : hi ≤ 60) (cap : Nat) :
    (t.plus p m lo hi cap).countT = ⟨((t.tru.filter fun x => inB (t.dep m p x) lo hi).length : Int), 0⟩ := by
  rw [count_tru (plus_valid hv hL hp hm h0 h1 h2 cap), plus_tru]
theorem plus_cnt {t : TD} (hv : t.Valid) (hL : t.nL < 6) {p : Nat} (hp : p < t.nS) {m : Int} (hm : t.isMin m) {d : Int} (h0 : 0 ≤ d) (h1 : d ≤ 60) (cap : Nat) :
    (t.plus p m d d cap).countT = ⟨(t.cnt m p d : Int), 0⟩ := by
  rw [plus_count hv hL hp hm h0 (Int.le_refl _) h1, TD.cnt]
  congr 3
  refine List.filter_congr fun x _ => ?_
  rw [Bool.eq_iff_iff, inB_iff, decide_eq_true_eq]
  omega

/-- Depths are from 0 to 60. -/
theorem dep_range {t : TD} (hv : t.Valid) {p : Nat} (hp : p < t.nS) {m : Int} (hm : t.isMin m) {x : (Nat → Int) × (Nat → Int)} (hx : x ∈ t.tru) : 0 ≤ t.dep m p x ∧ t.dep m p x ≤ 60 := by
  obtain ⟨h1, h2, _⟩ := tru_mem.1 hx
  have hh : okH x.1 := fun i => by
    rcases Nat.lt_or_ge i t.nM with h | h
    · have := (hts_mem.1 h1).1 i h
      have mk := hv.marks (i := i) h
      simp only [TD.markOk] at mk
      omega
    · rw [(hts_mem.1 h1).2 i h]
      omega
  have hr := stand_range hv hm hh
  have hs := hv.2.2.2.2.1 p hp
  simp only [TD.sandOk] at hs
  have := (sds_mem.1 h2).1 p hp
  refine ⟨max0_nn _, ?_⟩
  unfold TD.dep max0
  split <;> omega
/-- The greatest number of truths left, of the depths below one. -/
def TD.worst (t : TD) (m : Int) (p : Nat) : Nat → Int
  | 0 => 0
  | k + 1 => if t.worst m p k < (t.cnt m p k : Int) then (t.cnt m p k : Int) else t.worst m p k
theorem worst_le {t : TD} {m : Int} {p : Nat} : ∀ {c : Nat} {k : Nat}, k < c → (t.cnt m p k : Int) ≤ t.worst m p c
  | 0, k, h => by omega
  | c + 1, k, h => by
    simp only [TD.worst]
    rcases Nat.lt_succ_iff_lt_or_eq.1 h with h | rfl
    · have := worst_le h (t := t) (m := m) (p := p)
      split <;> omega
    · split <;> omega
theorem worst_bd {t : TD} {m : Int} {p : Nat} {B : Int} (h0 : 0 ≤ B) (h : ∀ k : Nat, (t.cnt m p k : Int) ≤ B) : ∀ c : Nat, 0 ≤ t.worst m p c ∧ t.worst m p c ≤ B
  | 0 => ⟨Int.le_refl _, h0⟩
  | c + 1 => by
    have h1 := worst_bd h0 h c
    have h2 := h c
    simp only [TD.worst]
    split <;> omega
theorem worst_max {t : TD} (hv : t.Valid) (hn : t.tru ≠ []) {p : Nat} (hp : p < t.nS) {m : Int} (hm : t.isMin m) : t.worst m p 61 = maxV (depAll t m p) := by
  obtain ⟨h1, x, hx, h2⟩ := max_dep hv hp hn (m := m)
  have hr := dep_range hv hp hm hx
  have e : ((t.dep m p x).toNat : Int) = t.dep m p x := by omega
  have h3 := worst_le (t := t) (m := m) (p := p) (c := 61) (k := (t.dep m p x).toNat) (by omega)
  rw [e] at h3
  have h4 := (worst_bd (t := t) (m := m) (p := p) (B := maxV (depAll t m p)) (maxV_app (depAll t m p) []).2 (fun k => h1 k) 61).2
  omega
theorem cnt_le {t : TD} (m : Int) (p : Nat) (k : Int) : t.cnt m p k ≤ t.tru.length := List.length_filter_le _ _
theorem tru_len {t : TD} (hv : t.Valid) : t.tru.length ≤ 6561 := by
  have h := count_tru hv
  simp only [TD.countT, hv, not_true, if_false, Told.mk.injEq, and_true] at h
  have h2 := sumF_range hv t.all (all_full hv)
  have h3 := all_len hv
  omega
/-- What Next tells, where there are truths. -/
theorem next_law {t : TD} (hv : t.Valid) (hn : t.tru ≠ []) {m : Int} (hm : t.isMin m) :
    ∃ p : Nat, t.nextT m = ⟨((p : Int), t.worst m p 61), 0⟩ ∧ p < t.nS ∧ 1 ≤ t.worst m p 61 ∧ t.worst m p 61 ≤ t.tru.length ∧ ∀ q, q < t.nS → t.worst m p 61 ≤ t.worst m q 61 ∧ (q < p → t.worst m p 61 < t.worst m q 61) := by
  have hna : t.all ≠ [] := fun h => hn ((all_nil hv).1 h)
  obtain ⟨p, e, hp, hq⟩ := nextF_spec (fun p => maxV (depAll t m p)) t.nS (by have := hv.2.1; omega)
  have w : ∀ q, q < t.nS → t.worst m q 61 = maxV (depAll t m q) := fun q hq' => worst_max hv hn hq' hm
  obtain ⟨_, x, hx, h2⟩ := max_dep hv hp hn (m := m)
  have h3 : 0 < t.cnt m p (t.dep m p x) := cnt_pos.2 ⟨x, hx, rfl⟩
  have h4 := cnt_le (t := t) m p (t.dep m p x)
  refine ⟨p, ?_, hp, by rw [w p hp]; omega, by rw [w p hp]; omega, fun q hq' => by rw [w p hp, w q hq']; exact hq q hq'⟩
  unfold TD.nextT
  rw [if_neg (fun h => h hv), if_neg (fun h => h hm), if_neg hna, e, w p hp]
end Go.Proofs.YtipbempkngfdbaaDoor
/-
  Contract: dipworkslaw01.with: a tide with a look more.
-/
namespace Go.Proofs.YtipbempkngfdbaaDoor
open Go Go.Sy
set_option linter.unusedSimpArgs false
set_option maxRecDepth 100000
set_option maxHeartbeats 4000000
attribute [local irreducible] CallP CodeP Ent YieldP

def KWith (t : TD) (a m lo hi : Int) : CE → SHeap → Prop := fun ce h' => ∃ cap : Nat, t.nL + 1 ≤ cap ∧ cap ≤ 9223372036854775807 ∧
  ce = .ret (.agg [.osl t.bM 0 3 t.nM t.cM, .osl t.bS 1 2 t.nS t.cS, .slice 5 4 0 (t.nL + 1) cap]) ∧ h' = t.HG ++ [some (.arr 4 (t.nL + 1) cap (row4 (t.plus a m lo hi cap).lp (t.plus a m lo hi cap).lm (t.plus a m lo hi cap).llo (t.plus a m lo hi cap).lhi))]
def pl35_1s : Plan := .eager 1 <| .eager 4 <| .alt 0 (.alt 2 (.alt 3 (.alt 5 (.alt 6 (.eager 7 <| .alt 8 .done .no) .no) .no) (.alt 5 (.alt 3 (.alt 6 (.eager 7 <| .alt 8 .done .no) .no) .no) .no)) (.alt 5 (.alt 2 (.alt 3 (.alt 6 (.eager 7 <| .alt 8 .done .no) .no) .no) .no) .no)) (.alt 2 (.alt 0 (.alt 3 (.alt 5 (.alt 6 (.eager 7 <| .alt 8 .done .no) .no) .no) (.alt 5 (.alt 3 (.alt 6 (.eager 7 <| .alt 8 .done .no) .no) .no) .no)) (.alt 5 (.alt 0 (.alt 3 (.alt 6 (.eager 7 <| .alt 8 .done .no) .no) .no) .no) .no)) (.alt 5 (.alt 0 (.alt 2 (.alt 3 (.alt 6 (.eager 7 <| .alt 8 .done .no) .no) .no) .no) (.alt 2 (.alt 0 (.alt 3 (.alt 6 (.eager 7 <| .alt 8 .done .no) .no) .no) .no) .no)) .no))
theorem t35 (t : TD) (hL : t.nL ≤ 1000) (a m lo hi : Int) : CallP Tryd.prog 35 [t.A, .agg [.int .i64 a, .int .i64 m, .int .i64 lo, .int .i64 hi]] t.HG (KWith t a m lo hi) := by
  refine callK (E := E) E_ok Tryd.func35 rfl ?_
  refine And.intro ?_ ?_
  · (repeat' (first | exact trivial | exact fun _ => rfl | exact rfl | refine And.intro ?_ ?_))
  have b1 : (0 + t.nL) * 32 ≤ 140737488355328 := by omega
  have b2 : (0 + t.nL + 1) * 32 ≤ 140737488355328 := by omega
  have hrow : ∀ (g0 : Nat → List SV) (cap k : Nat), k < 0 + t.nL + 1 → selL (decide (k < 0 + t.nL)) (selL (decide (k < 0)) (g0 k) (row4 t.lp t.lm t.llo t.lhi (0 + (k - 0)))) (getOf 4 [.int .i64 a, .int .i64 m, .int .i64 lo, .int .i64 hi] (0 + (k - (0 + t.nL)))) = row4 (t.plus a m lo hi cap).lp (t.plus a m lo hi cap).lm (t.plus a m lo hi cap).llo (t.plus a m lo hi cap).lhi k := by
    intro g0 cap k hk
    rw [Nat.zero_add] at hk
    simp only [Nat.zero_add, Nat.sub_zero, Nat.not_lt_zero, decide_false, selL_false]
    rcases Nat.lt_succ_iff_lt_or_eq.1 hk with h | rfl
    · rw [decide_eq_true h, selL_true]
      simp only [row4, TD.plus, if_neg (show ¬ k = t.nL by omega)]
    · rw [decide_eq_false (Nat.lt_irrefl _), selL_false, Nat.sub_self]
      simp only [row4, TD.plus, if_true]
      rfl
  refine drawP E_ok [6] pl35_1s (by kernel_rfl) ?_
  (repeat' (first | exact trivial | exact fun _ => rfl | exact rfl | refine And.intro ?_ ?_))
  all_goals first | exact Nat.le_refl _ | exact Nat.zero_le _ | exact Nat.le_of_eq (Nat.zero_add _) | exact b1 | exact (fun k hk => rfl) | intro c1 hc1 hc2
  all_goals (repeat' (first | exact trivial | exact fun _ => rfl | exact rfl | refine And.intro ?_ ?_))
  all_goals first | exact Nat.le_refl _ | exact Nat.zero_le _ | exact b2 | exact hc2 | exact hc1 | exact (fun k hk => by have := Nat.lt_one_iff.1 hk; subst this; rfl) | intro c2 hc3 hc4
  all_goals refine And.intro ?_ trivial
  all_goals refine And.intro trivial (And.intro rfl ?_)
  all_goals refine And.intro trivial ⟨_, _, ⟨c2, by have : 0 + t.nL + 1 ≤ c2 := hc3; omega, hc4, rfl, rfl⟩, ?_⟩
  all_goals refine ent_tau [0, 1, 2, 3, 4, 11] ⟨?_, ?_, rfl⟩
  all_goals (repeat' (first | exact trivial | exact rfl | exact fun _ _ => rfl | exact Or.inl rfl | refine And.intro ?_ ?_))
  all_goals first | exact congrArg (· + 1) (Nat.zero_add t.nL) | exact congrArg (fun n => SV.agg [.osl t.bM 0 3 t.nM t.cM, .osl t.bS 1 2 t.nS t.cS, .slice 11 4 0 (n + 1) c2]) (Nat.zero_add t.nL) | exact fun k hk => hrow _ c2 k hk
end Go.Proofs.YtipbempkngfdbaaDoor
/-
  The plain law of TideEnds, TideTrue: sums of depths, and places by bits.
-/
namespace Go.Proofs.YtipbempkngfdbaaDoor
open Go Go.Sy
set_option maxRecDepth 100000
set_option maxHeartbeats 4000000

/-- How many truths have a depth from a on, below n. -/
def TD.upTo (t : TD) (m : Int) (p : Nat) (a n : Int) : Nat := (t.tru.filter fun x => inB (t.dep m p x) a (n - 1)).length
theorem upTo_none (t : TD) (m : Int) (p : Nat) (a : Int) : t.upTo m p a a = 0 := by
  rw [TD.upTo, List.length_eq_zero_iff, List.filter_eq_nil_iff]
  intro x _ h
  have := inB_iff.1 h
  omega
theorem upTo_step {t : TD} {m : Int} {p : Nat} {a n : Int} (h : a ≤ n) : t.upTo m p a (n + 1) = t.upTo m p a n + t.cnt m p n := by
  rw [TD.upTo, TD.upTo, TD.cnt, ← filter_or_len]
  · congr 1
    refine List.filter_congr fun x _ => ?_
    rw [Bool.eq_iff_iff, Bool.or_eq_true, inB_iff, inB_iff, decide_eq_true_eq]
    omega
  · intro x _ ⟨h1, h2⟩
    have := inB_iff.1 h1
    have := of_decide_eq_true h2
    omega
theorem filter_all {α : Type} {q : α → Bool} {l : List α} (h : ∀ x ∈ l, q x = true) : l.filter q = l := List.filter_eq_self.2 h
theorem upTo_all {t : TD} {m : Int} {p : Nat} {a n : Int} (h : ∀ x ∈ t.tru, a ≤ t.dep m p x ∧ t.dep m p x < n) : t.upTo m p a n = t.tru.length := by
  rw [TD.upTo, filter_all]
  intro x hx
  have := h x hx
  exact inB_iff.2 ⟨this.1, by omega⟩
theorem cnt_zero {t : TD} {m : Int} {p : Nat} {k : Int} : t.cnt m p k = 0 ↔ ∀ x ∈ t.tru, t.dep m p x ≠ k := by
  constructor
  · intro h x hx e
    have : 0 < t.cnt m p k := cnt_pos.2 ⟨x, hx, e⟩
    omega
  · intro h
    rcases Nat.eq_zero_or_pos (t.cnt m p k) with h0 | h0
    · exact h0
    · obtain ⟨x, hx, e⟩ := cnt_pos.1 h0
      exact absurd e (h x hx)

def bs4 (a b c d : Bool) (j : Nat) : Bool := [a, b, c, d].getD j false
theorem bs4_eq (f : Nat → Bool) : ∀ j, j < 4 → f j = bs4 (f 0) (f 1) (f 2) (f 3) j := fun j hj => by
  have : j = 0 ∨ j = 1 ∨ j = 2 ∨ j = 3 := by omega
  rcases this with rfl | rfl | rfl | rfl <;> rfl
theorem bitsF_congr {f g : Nat → Bool} : ∀ {c : Nat}, (∀ j, j < c → f j = g j) → bitsF f c = bitsF g c
  | 0, _ => rfl
  | c + 1, h => by rw [bitsF, bitsF, bitsF_congr (c := c) fun j hj => h j (by omega), h c (by omega)]
theorem bits_dec : ∀ n, n < 5 → ∀ a b c d : Bool, ∀ p, p < n → bitOp .and .i64 ((bitsF (bs4 a b c d) n).fdiv (2 ^ p)) 1 = if bs4 a b c d p = true then 1 else 0 := by decide +kernel
theorem bits_range_dec : ∀ n, n < 5 → ∀ a b c d : Bool, 0 ≤ bitsF (bs4 a b c d) n ∧ bitsF (bs4 a b c d) n < 2 ^ n := by decide +kernel
theorem bitsF_bit (f : Nat → Bool) {n p : Nat} (hn : n ≤ 4) (hp : p < n) : bitOp .and .i64 ((bitsF f n).fdiv (2 ^ p)) 1 = if f p = true then 1 else 0 := by
  rw [bitsF_congr (g := bs4 (f 0) (f 1) (f 2) (f 3)) fun j hj => bs4_eq f j (by omega), bits_dec n (by omega) _ _ _ _ p hp, ← bs4_eq f p (by omega)]
theorem bitsF_range (f : Nat → Bool) {n : Nat} (hn : n ≤ 4) : 0 ≤ bitsF f n ∧ bitsF f n < 2 ^ n := by
  rw [bitsF_congr (g := bs4 (f 0) (f 1) (f 2) (f 3)) fun j hj => bs4_eq f j (by omega)]
  exact bits_range_dec n (by omega) _ _ _ _
/-- How many truths have a depth from l to h. -/
def TD.num (t : TD) (m : Int) (p : Nat) (l h : Int) : Nat := (t.tru.filter fun x => inB (t.dep m p x) l h).length
theorem num_all {t : TD} {m : Int} {p : Nat} {l h : Int} : t.num m p l h = t.tru.length ↔ ∀ x ∈ t.tru, inB (t.dep m p x) l h = true := by
  rw [TD.num, List.length_filter_eq_length_iff]
theorem num_pos {t : TD} {m : Int} {p : Nat} {l h : Int} : 0 < t.num m p l h ↔ ∃ x ∈ t.tru, inB (t.dep m p x) l h = true := by
  rw [TD.num, List.length_pos_iff_exists_mem]
  simp [List.mem_filter]
/-- What Places tells, where there are truths. -/
theorem places_law {t : TD} (hv : t.Valid) (hn : t.tru ≠ []) {m : Int} (hm : t.isMin m) {l h : Int} (hl : 0 ≤ l ∧ l ≤ 60) (hh : 0 ≤ h ∧ h ≤ 60) :
    ∃ S P : Nat → Bool, t.placesT m l h = ⟨(bitsF S t.nS, bitsF P t.nS), 0⟩ ∧ ∀ p, p < t.nS → (S p = true ↔ t.num m p l h = t.tru.length) ∧ (P p = true ↔ 0 < t.num m p l h) := by
  have hna : t.all ≠ [] := fun h => hn ((all_nil hv).1 h)
  refine ⟨_, _, by unfold TD.placesT; rw [if_neg (fun h => h hv), if_neg (fun h => h ⟨hm, hl, hh⟩), if_neg hna], fun p hp => ⟨?_, ?_⟩⟩
  · rw [num_all, Bool.not_eq_true', ← Bool.not_eq_true, anyOut, any_dep hv hp (m := m) fun d => !inB d l h]
    constructor
    · intro h1 x hx
      cases hb : inB (t.dep m p x) l h
      · exact absurd ⟨x, hx, by rw [hb]; rfl⟩ h1
      · rfl
    · rintro h1 ⟨x, hx, hb⟩
      rw [h1 x hx] at hb
      cases hb
  · rw [num_pos, anyIn, any_dep hv hp (m := m) fun d => inB d l h]
end Go.Proofs.YtipbempkngfdbaaDoor
/-
  Contracts: TideNext's own function, and TideNext.
-/
namespace Go.Proofs.YtipbempkngfdbaaDoor
open Go Go.Sy
set_option linter.unusedSimpArgs false
set_option maxRecDepth 100000
set_option maxHeartbeats 4000000
attribute [local irreducible] CallP CodeP Ent YieldP

noncomputable def H38 (t : TD) (m : Int) : SHeap := [some (.roa 3 t.nM (row3 t.mi t.mlo t.mhi)), some (.roa 2 t.nS (row2 t.slo t.shi)), some (.roa 4 t.nL (row4 t.lp t.lm t.llo t.lhi)), some (.glob 0 [.int .i64 0, .int .i64 1, .int .i64 3, .int .i64 6, .int .i64 9, .int .i64 11, .int .i64 12]), some db, some (.roc [.osl t.bM 0 3 t.nM t.cM, .osl t.bS 1 2 t.nS t.cS, .osl t.bL 2 4 t.nL t.cL]), some (.roc [.int .i64 m])]
theorem cnt_le6 {t : TD} (hv : t.Valid) (m : Int) (p : Nat) (k : Int) : 0 ≤ (t.cnt m p k : Int) ∧ (t.cnt m p k : Int) ≤ 6561 := by
  have := tru_len hv
  have := cnt_le (t := t) m p k
  omega
theorem t38 (t : TD) (hv : t.Valid) (hL : t.nL < 6) (p : Nat) (hp : p < t.nS) (m : Int) (hm : t.isMin m) : CallP Tryd.prog 38 [.int .i64 p, .ptr 5 0, .ptr 6 0] (H38 t m) (Ret (.int .i64 (t.worst m p 61)) (H38 t m)) := by
  refine callR (E := E) E_ok Tryd.func38 rfl ?_
  refine And.intro ?_ ?_
  · (repeat' (first | exact trivial | exact fun _ => rfl | exact rfl | refine And.intro ?_ ?_))
  refine loopP E_ok [0, 1, 2] (fun k : Nat => [(4, .int .i64 (t.worst m p k)), (8, .int .i64 k)]) (fun _ H => H) (fun k => k ≤ 61) (fun k => 61 - k) 0 (by decide) ?_ ?_
  · exact ent_tau [0, 1, 2, 3, 4, 5, 6] ⟨by (repeat' (first | exact trivial | exact rfl | exact fun _ _ => rfl | exact Or.inl rfl | refine And.intro ?_ ?_)), by (repeat' (first | exact trivial | exact rfl | exact congrArg (SV.int .i64) (Int.natCast_succ _).symm | refine And.intro ?_ ?_)), rfl⟩
  · intro k hk
    have hw := worst_bd (t := t) (m := m) (p := p) (B := 6561) (by decide) (fun k => (cnt_le6 hv m p k).2) k
    have hck := cnt_le6 hv m p k
    refine And.intro ?_ (And.intro (fun hc => ?_) (fun hc => ?_))
    · (repeat' (first | exact trivial | exact fun _ => rfl | exact rfl | refine And.intro ?_ ?_))
    · have hk' : k < 61 := by
        have : (k : Int) < 61 := by simpa using hc
        omega
      refine And.intro ?_ ?_
      · (repeat' (first | exact trivial | exact fun _ => rfl | exact rfl | refine And.intro ?_ ?_))
      refine drawP E_ok [] pl38_4 (by kernel_rfl) ?_
      refine And.intro (And.intro ?_ ?_) trivial
      · (repeat' (first | exact trivial | exact fun _ => rfl | exact rfl | refine And.intro ?_ ?_))
      refine (t36 p m k k).use [] ?_ (by (repeat' (first | exact trivial | exact rfl | exact fun _ _ => rfl | exact Or.inl rfl | refine And.intro ?_ ?_))) rfl
      refine And.intro (And.intro ?_ ?_) trivial
      · (repeat' (first | exact trivial | exact fun _ => rfl | exact rfl | refine And.intro ?_ ?_))
      refine CallP.frameH (t35 t (by omega) p m k k) [0, 1, 2, 3, 4] (by (repeat' (first | exact trivial | exact rfl | exact fun _ _ => rfl | exact Or.inl rfl | refine And.intro ?_ ?_))) rfl ?_
      rintro ce h' ⟨cap, hc1, hc2, rfl, rfl⟩
      refine ⟨rfl, ?_⟩
      refine And.intro (And.intro ?_ ?_) trivial
      · (repeat' (first | exact trivial | exact fun _ => rfl | exact rfl | refine And.intro ?_ ?_))
      have c26 := t26 (t.plus p m k k cap)
      rw [plus_cnt hv hL hp hm (by omega) (by omega) cap] at c26
      refine CallP.argsD (args' := [.agg [.osl t.bM 0 3 t.nM t.cM, .osl t.bS 1 2 t.nS t.cS, .osl true 7 4 (t.nL + 1) cap]]) (fun η => by simp [den, denL]) ?_
      refine (c26).use [0, 1, 7, 3, 4] ?_ (by (repeat' (first | exact trivial | exact rfl | exact fun _ _ => rfl | exact Or.inl rfl | refine And.intro ?_ ?_))) rfl
      refine And.intro ?_ ?_
      · (repeat' (first | exact trivial | exact fun _ => rfl | exact rfl | refine And.intro ?_ ?_))
      refine And.intro rfl ?_
      refine And.intro ?_ (And.intro (fun h => absurd h (by simp)) (fun h => ?_))
      · (repeat' (first | exact trivial | exact fun _ => rfl | exact rfl | refine And.intro ?_ ?_))
      refine And.intro ?_ ⟨k + 1, hk', by omega, ?_⟩
      · simp [AllP, under, gB, wB, inR_iff, IntKind.bits]
        omega
      · refine ent_tau [0, 1, 2, 3, 4, 5, 6] ⟨by (repeat' (first | exact trivial | exact rfl | exact fun _ _ => rfl | exact Or.inl rfl | refine And.intro ?_ ?_)), ?_, rfl⟩
        (repeat' (first | exact trivial | exact rfl | exact congrArg (SV.int .i64) (Int.natCast_succ _).symm | refine And.intro ?_ ?_))
    · have hk' : k = 61 := by
        have : ¬ (k : Int) < 61 := by simpa using hc
        omega
      subst hk'
      refine And.intro ?_ ?_
      · (repeat' (first | exact trivial | exact fun _ => rfl | exact rfl | refine And.intro ?_ ?_))
      refine And.intro ?_ ?_
      · (repeat' (first | exact trivial | exact fun _ => rfl | exact rfl | refine And.intro ?_ ?_))
      exact ent_tau [0, 1, 2, 3, 4, 5, 6] ⟨by (repeat' (first | exact trivial | exact rfl | exact fun _ _ => rfl | exact Or.inl rfl | refine And.intro ?_ ?_)), by (repeat' (first | exact trivial | exact rfl | exact congrArg (SV.int .i64) (Int.natCast_succ _).symm | refine And.intro ?_ ?_)), rfl⟩
theorem t10 (t : TD) (ht : t.ok) (a w : Int) (ha : 0 ≤ a ∧ a ≤ 255) (hw : 0 ≤ w ∧ w ≤ 255) : CallP Tryd.prog 10 [t.A, .int .u8 a, .int .u8 w] t.HG (Ret (.bool true) t.HG) := by
  refine callR (E := E) E_ok Tryd.func10 rfl ?_
  refine And.intro ?_ ?_
  · simp [AllP, under, gB, wB, inR_iff, IntKind.bits]
  refine (t33 t).use [0, 1, 2] ?_ (by (repeat' (first | exact trivial | exact rfl | exact fun _ _ => rfl | exact Or.inl rfl | refine And.intro ?_ ?_))) rfl
  refine And.intro ?_ (And.intro (fun hl => ?_) (fun hl => ?_))
  · simp [AllP, under, gB, wB, inR_iff, IntKind.bits]
  · refine (t34 t ht).use [0, 1, 2] ?_ (by (repeat' (first | exact trivial | exact rfl | exact fun _ _ => rfl | exact Or.inl rfl | refine And.intro ?_ ?_))) rfl
    refine And.intro ?_ (And.intro (fun hb => ?_) (fun hb => ?_))
    · (repeat' (first | exact True.intro | exact d1 _ | exact d1t _ | exact d2 _ | exact d3 _ _ | exact d3f _ _ | exact fun _ _ => rfl | exact fun _ => rfl | exact rfl | refine And.intro ?_ ?_))
    · refine And.intro trivial ?_
      refine (t14).use [3, 4] ?_ (by (repeat' (first | exact trivial | exact rfl | exact fun _ _ => rfl | exact Or.inl rfl | refine And.intro ?_ ?_))) rfl
      refine And.intro trivial ?_
      exact ent_tau [0, 1, 2, 3, 4] ⟨by (repeat' (first | exact trivial | exact rfl | exact fun _ _ => rfl | exact Or.inl rfl | refine And.intro ?_ ?_)), by (repeat' (first | exact trivial | exact rfl | exact congrArg (SV.int .i64) (Int.natCast_succ _).symm | refine And.intro ?_ ?_)), rfl⟩
    · have hvL : t.Valid ∧ t.nL < 6 := by
        have h2 : t.valid = true ∧ (t.nL : Int) < 6 := by
          cases hc : decide (40 < max (max t.nM t.nS) t.nL)
          · rw [hc] at hb
            simpa using hb
          · rw [hc] at hb
            cases hb
        exact ⟨by simpa [TD.valid] using h2.1, by omega⟩
      obtain ⟨hv, hL⟩ := hvL
      have hM := hv.1
      have hS := hv.2.1
      have e1 : ((t.nM : Int) - 1).toNat = t.nM - 1 := by omega
      have eL : t.mi (0 + ((t.nM : Int) - 1).toNat) = t.mi (t.nM - 1) := by rw [e1, Nat.zero_add]
      have mk1 := hv.marks (i := 0) (by omega)
      have mk2 := hv.marks (i := t.nM - 1) (by omega)
      simp only [TD.markOk] at mk1 mk2
      have mle : t.mi 0 ≤ t.mi (t.nM - 1) := mi_le hv (Nat.zero_le _) (by omega)
      obtain ⟨bg, eb⟩ : ∃ x : Int, t.mi 0 + a.tmod (t.mi (t.nM - 1) - t.mi 0 + 1) = x := ⟨_, rfl⟩
      have hr0 := Int.tmod_nonneg (t.mi (t.nM - 1) - t.mi 0 + 1) ha.1
      have hr1 := Int.tmod_lt_of_pos a (show 0 < t.mi (t.nM - 1) - t.mi 0 + 1 by omega)
      have mB : t.isMin bg := ⟨by omega, by omega⟩
      have eB : t.mi 0 + a.tmod (t.mi (0 + ((t.nM : Int) - 1).toNat) - t.mi 0 + 1) = bg := by rw [eL]; exact eb
      have hcount := count_tru hv
      have c26 := t26 t
      rw [hcount] at c26
      have c37 := t37 t bg
      refine And.intro ?_ ?_
      · simp only [AllP, under, inR_iff, and_true, Int.toNat_zero, Nat.zero_add, e1]
        (repeat' refine And.intro ?_ ?_) <;> omega
      by_cases hn : t.tru = []
      · have e37 : t.nextT bg = ⟨(0, 0), 10⟩ := by
          unfold TD.nextT
          rw [if_neg (fun h => h hv), if_neg (fun h => h mB), if_pos ((all_nil hv).2 hn)]
        rw [e37, ← eB] at c37
        rw [hn] at c26
        refine (c37).use [0, 1, 2, 3, 4] ?_ (by (repeat' (first | exact trivial | exact rfl | exact fun _ _ => rfl | exact Or.inl rfl | refine And.intro ?_ ?_))) rfl
        refine And.intro ?_ ?_
        · (repeat' (first | exact trivial | exact fun _ => rfl | exact rfl | refine And.intro ?_ ?_))
        refine (c26).use [0, 1, 2, 3, 4] ?_ (by (repeat' (first | exact trivial | exact rfl | exact fun _ _ => rfl | exact Or.inl rfl | refine And.intro ?_ ?_))) rfl
        refine And.intro ?_ (And.intro (fun h => ?_) (fun h => absurd h (by simp)))
        · (repeat' (first | exact True.intro | exact d1 _ | exact d1t _ | exact d2 _ | exact d3 _ _ | exact d3f _ _ | exact fun _ _ => rfl | exact fun _ => rfl | exact rfl | refine And.intro ?_ ?_))
        refine And.intro ?_ (And.intro (fun h => ?_) (fun h => absurd h (by simp [gB, wB])))
        · (repeat' (first | exact True.intro | exact d1 _ | exact d1t _ | exact d2 _ | exact d3 _ _ | exact d3f _ _ | exact fun _ _ => rfl | exact fun _ => rfl | exact rfl | refine And.intro ?_ ?_))
        refine (t14).use [3, 4] ?_ (by (repeat' (first | exact trivial | exact rfl | exact fun _ _ => rfl | exact Or.inl rfl | refine And.intro ?_ ?_))) rfl
        refine And.intro ?_ ?_
        · (repeat' (first | exact trivial | exact fun _ => rfl | exact rfl | refine And.intro ?_ ?_))
        exact ent_tau [0, 1, 2, 3, 4] ⟨by (repeat' (first | exact trivial | exact rfl | exact fun _ _ => rfl | exact Or.inl rfl | refine And.intro ?_ ?_)), by (repeat' (first | exact trivial | exact rfl | exact congrArg (SV.int .i64) (Int.natCast_succ _).symm | refine And.intro ?_ ?_)), rfl⟩
      · obtain ⟨pl, e37, hpl, hw1, hw2, hmin⟩ := next_law hv hn mB
        obtain ⟨q, hq⟩ := Int.eq_ofNat_of_zero_le (Int.tmod_nonneg (t.nS : Int) hw.1)
        have hq2 := Int.tmod_lt_of_pos w (show 0 < (t.nS : Int) by omega)
        have hq3 : q < t.nS := by omega
        have cq := t38 t hv hL q hq3 bg mB
        have cp := t38 t hv hL pl hpl bg mB
        have hmq := hmin q hq3
        obtain ⟨wq, hwq⟩ : ∃ x, t.worst bg q 61 = x := ⟨_, rfl⟩
        obtain ⟨wp, hwp⟩ : ∃ x, t.worst bg pl 61 = x := ⟨_, rfl⟩
        rw [hwq, hwp] at hmq
        rw [hwq] at cq
        rw [hwp] at cp hw1 hw2 e37
        rw [e37] at c37
        rw [← hq] at cq
        rw [← eB] at cp cq c37
        have hp1 : ¬ (pl : Int) < 0 := by omega
        have hp2 : ¬ (pl : Int) ≥ t.nS := by omega
        refine (c37).use [0, 1, 2, 3, 4] ?_ (by (repeat' (first | exact trivial | exact rfl | exact fun _ _ => rfl | exact Or.inl rfl | refine And.intro ?_ ?_))) rfl
        refine And.intro ?_ ?_
        · (repeat' (first | exact trivial | exact fun _ => rfl | exact rfl | refine And.intro ?_ ?_))
        refine (c26).use [0, 1, 2, 3, 4] ?_ (by (repeat' (first | exact trivial | exact rfl | exact fun _ _ => rfl | exact Or.inl rfl | refine And.intro ?_ ?_))) rfl
        refine And.intro ?_ (And.intro (fun h => absurd h (by simp)) (fun h => ?_))
        · (repeat' (first | exact True.intro | exact d1 _ | exact d1t _ | exact d2 _ | exact d3 _ _ | exact d3f _ _ | exact fun _ _ => rfl | exact fun _ => rfl | exact rfl | refine And.intro ?_ ?_))
        refine And.intro ?_ (And.intro (fun h => ?_) (fun h => ?_))
        · (repeat' (first | exact True.intro | exact d1 _ | exact d1t _ | exact d2 _ | exact d3 _ _ | exact d3f _ _ | exact fun _ _ => rfl | exact fun _ => rfl | exact rfl | refine And.intro ?_ ?_))
        · exfalso
          simp at h
          omega
        refine And.intro ?_ ?_
        · (repeat' (first | exact trivial | exact fun _ => rfl | exact rfl | refine And.intro ?_ ?_))
          all_goals first | omega | exact un (by omega)
        refine (cq).use [0, 1, 2, 3, 4, 5, 6] ?_ (by (repeat' (first | exact trivial | exact rfl | exact fun _ _ => rfl | exact Or.inl rfl | refine And.intro ?_ ?_))) rfl
        refine And.intro ?_ ?_
        · (repeat' (first | exact trivial | exact fun _ => rfl | exact rfl | refine And.intro ?_ ?_))
        refine (cp).use [0, 1, 2, 3, 4, 5, 6] ?_ (by (repeat' (first | exact trivial | exact rfl | exact fun _ _ => rfl | exact Or.inl rfl | refine And.intro ?_ ?_))) rfl
        have hF : (bif bif bif decide (wp = wp) then decide (wp ≥ 1) else false then decide (wp ≤ (t.tru.length : Int)) else false then bif decide (wq > wp) then true else bif decide (wq = wp) then decide (w.tmod (t.nS : Int) ≥ (pl : Int)) else false else false) = true := by
          rw [hq, decide_eq_true (rfl : wp = wp), decide_eq_true (show wp ≥ 1 from hw1), decide_eq_true hw2]
          rcases Int.lt_or_eq_of_le hmq.1 with h1 | h1
          · rw [decide_eq_true (show wq > wp from h1)]
            rfl
          · have h2 : (q : Int) ≥ pl := by
              rcases Nat.lt_or_ge q pl with h3 | h3
              · have := hmq.2 h3
                omega
              · omega
            rw [decide_eq_false (show ¬ wq > wp by omega), decide_eq_true h1.symm, decide_eq_true h2]
            rfl
        refine And.intro ?_ (And.intro (fun hg => ?_) (fun hg => absurd (hF.symm.trans hg) (by decide)))
        · (repeat' (first | exact True.intro | exact d1 _ | exact d1t _ | exact d2 _ | exact d3 _ _ | exact d3f _ _ | exact fun _ _ => rfl | exact fun _ => rfl | exact rfl | refine And.intro ?_ ?_))
        refine (t14).use [3, 4] ?_ (by (repeat' (first | exact trivial | exact rfl | exact fun _ _ => rfl | exact Or.inl rfl | refine And.intro ?_ ?_))) rfl
        refine And.intro ?_ ?_
        · (repeat' (first | exact True.intro | exact d1 _ | exact d1t _ | exact d2 _ | exact d3 _ _ | exact d3f _ _ | exact fun _ _ => rfl | exact fun _ => rfl | exact rfl | refine And.intro ?_ ?_))
        refine ent_tau [0, 1, 2, 3, 4] ⟨by (repeat' (first | exact trivial | exact rfl | exact fun _ _ => rfl | exact Or.inl rfl | refine And.intro ?_ ?_)), ?_, rfl⟩
        (repeat' (first | exact trivial | exact rfl | exact fun _ _ => rfl | exact Or.inl rfl | refine And.intro ?_ ?_))
        exact congrArg (fun z => SV.bool (bif z then true else false)) hF
  · have hl2 : decide (40 < max (max t.nM t.nS) t.nL) = true := by
      cases hc : decide (40 < max (max t.nM t.nS) t.nL)
      · rw [hc] at hl
        cases hl
      · rfl
    refine And.intro ?_ (And.intro (fun hb => ?_) (fun hb => ?_))
    · (repeat' (first | exact True.intro | exact d1 _ | exact d1t _ | exact d2 _ | exact d3 _ _ | exact d3f _ _ | exact fun _ _ => rfl | exact fun _ => rfl | exact rfl | refine And.intro ?_ ?_))
      all_goals exact fun h => absurd (h.symm.trans hl) (by decide)
    · refine And.intro trivial ?_
      refine (t14).use [3, 4] ?_ (by (repeat' (first | exact trivial | exact rfl | exact fun _ _ => rfl | exact Or.inl rfl | refine And.intro ?_ ?_))) rfl
      refine And.intro trivial ?_
      exact ent_tau [0, 1, 2, 3, 4] ⟨by (repeat' (first | exact trivial | exact rfl | exact fun _ _ => rfl | exact Or.inl rfl | refine And.intro ?_ ?_)), by (repeat' (first | exact trivial | exact rfl | exact congrArg (SV.int .i64) (Int.natCast_succ _).symm | refine And.intro ?_ ?_)), rfl⟩
    · rw [hl2] at hb
      cases hb
end Go.Proofs.YtipbempkngfdbaaDoor
