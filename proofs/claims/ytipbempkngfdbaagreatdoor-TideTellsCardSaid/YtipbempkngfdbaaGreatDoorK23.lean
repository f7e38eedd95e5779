/-
  Parts: C3, F3, G1, C11, C12, C13, C14, D2.
-/
import Derived.Test.YtipbempkngfdbaaGreatDoorK16
import Derived.Test.YtipbempkngfdbaaGreatDoorK22
import Derived.Test.YtipbempkngfdbaaGreatDoorK11
import Derived.Test.YtipbempkngfdbaaGreatDoorK18
import Derived.Test.YtipbempkngfdbaaGreatDoorK21
set_option linter.unusedVariables false
/-
  Contract: dipworkslaw01.TideMoves.
-/
namespace Go.Proofs.YtipbempkngfdbaaGreatDoor
open Go Go.Sy
set_option linter.unusedSimpArgs false
set_option maxRecDepth 100000
set_option maxHeartbeats 4000000
attribute [local irreducible] CallP CodeP Ent YieldP

theorem un {p : Prop} (h : p) : under none p := h
theorem Hull.le {t : TD} {m lo hi : Int} (h : Hull t m lo hi) : lo ≤ hi := by
  obtain ⟨u, hu, _⟩ := h.lo
  have := h.bnd u hu
  omega
theorem d1 (x : Bool) : under none (x = false → (some (gB none (wB false x))).getD true = true) := fun h => by rw [h]; rfl
theorem d1t (x : Bool) : under none (x = true → (some (gB none (wB true x))).getD true = true) := fun h => by rw [h]; rfl
theorem d3 (g x : Bool) : under (some g) (x = true → (some (gB (some g) (wB true x))).getD true = true) := fun hg h => by rw [hg, h]; rfl
theorem d3f (g x : Bool) : under (some g) (x = false → (some (gB (some g) (wB false x))).getD true = true) := fun hg h => by rw [hg, h]; rfl
theorem d4 {g : Bool} {p : Prop} (h : p) : under (some g) p := fun _ => h
theorem d2 (g : Bool) : under (some g) (g = true) := fun h => h
end Go.Proofs.YtipbempkngfdbaaGreatDoor
/-
  Contract: stands: how high the water stands, sixth by sixth.
-/
namespace Go.Proofs.YtipbempkngfdbaaGreatDoor
open Go Go.Sy
set_option linter.unusedSimpArgs false
set_option maxRecDepth 100000
set_option maxHeartbeats 4000000
attribute [local irreducible] CallP CodeP Ent YieldP

/-- A tide's rows, and heights of its marks. -/
def HS (t : TD) (h : Nat → Int) (n : Nat) : SHeap := t.H ++ [some (.roa 1 n fun k => [.int .i64 (h k)])]
end Go.Proofs.YtipbempkngfdbaaGreatDoor
/-
  Contracts of the specification: Deep, wider, Has, Stands.
-/
namespace Go.Proofs.YtipbempkngfdbaaGreatDoor
open Go Go.Sy
set_option linter.unusedSimpArgs false
set_option maxRecDepth 100000
set_option maxHeartbeats 4000000
attribute [local irreducible] CallP CodeP Ent YieldP

theorem t53 (n : Int) : CallP Tryz.prog 54 [.int .i64 n] [] (Ret (.bool (inB n 0 60)) []) := by
  refine callR (E := E) E_ok Tryz.func54 rfl ?_
  refine And.intro ?_ ?_
  · (repeat' (first | exact trivial | exact fun _ => rfl | exact rfl | refine And.intro ?_ ?_))
  refine (t91 n 0 60).use [] ?_ (by (repeat' (first | exact trivial | exact rfl | exact fun _ _ => rfl | exact Or.inl rfl | refine And.intro ?_ ?_))) rfl
  refine And.intro ?_ ?_
  · (repeat' (first | exact trivial | exact fun _ => rfl | exact rfl | refine And.intro ?_ ?_))
  exact ent_tau [] ⟨by (repeat' (first | exact trivial | exact rfl | exact fun _ _ => rfl | exact Or.inl rfl | refine And.intro ?_ ?_)), by (repeat' (first | exact trivial | exact rfl | exact congrArg (SV.int .i64) (Int.natCast_succ _).symm | refine And.intro ?_ ?_)), rfl⟩
theorem t99 (a b n : Int) : CallP Tryz.prog 37 [.agg [.int .i64 a, .int .i64 b], .int .i64 n] [] (Ret (.agg [.int .i64 (if n < a then n else a), .int .i64 (if n > b then n else b)]) []) := by
  refine callR (E := E) E_ok Tryz.func37 rfl ?_
  refine And.intro ?_ ?_
  · (repeat' (first | exact trivial | exact fun _ => rfl | exact rfl | refine And.intro ?_ ?_))
  exact ent_tau [] ⟨by (repeat' (first | exact trivial | exact rfl | exact fun _ _ => rfl | exact Or.inl rfl | refine And.intro ?_ ?_)), by (repeat' (first | exact trivial | exact rfl | exact congrArg (SV.int .i64) (Int.natCast_succ _).symm | refine And.intro ?_ ?_)), rfl⟩
theorem pow_pos (n : Nat) : (0 : Int) < 2 ^ n := by
  have : 0 < 2 ^ n := Nat.pow_pos (by omega)
  exact_mod_cast this
theorem t121 (x : Int) (hx : 0 ≤ x ∧ x ≤ 1000) (n : Nat) (hn : n ≤ 60) : CallP Tryz.prog 105 [.int .i64 x, .int .i64 n] [] (Ret (.bool (decide ((x.tdiv (2 ^ n)).tmod 2 = 1))) []) := by
  have hp := pow_pos n
  have hd : 0 ≤ x.tdiv (2 ^ n) ∧ x.tdiv (2 ^ n) ≤ 1000 := by
    rw [Int.tdiv_eq_ediv_of_nonneg hx.1]
    exact ⟨Int.ediv_nonneg hx.1 (by omega), Int.le_trans (Int.ediv_le_self _ hx.1) hx.2⟩
  refine callR (E := E) E_ok Tryz.func105 rfl ?_
  refine And.intro ?_ ?_
  · (repeat' (first | exact trivial | exact fun _ => rfl | exact rfl | refine And.intro ?_ ?_))
  refine (t109 n (by omega)).use [] ?_ (by (repeat' (first | exact trivial | exact rfl | exact fun _ _ => rfl | exact Or.inl rfl | refine And.intro ?_ ?_))) rfl
  refine And.intro ?_ ?_
  · (repeat' (first | exact trivial | exact fun _ => rfl | exact rfl | refine And.intro ?_ ?_))
    all_goals exact un (by omega)
  exact ent_tau [] ⟨by (repeat' (first | exact trivial | exact rfl | exact fun _ _ => rfl | exact Or.inl rfl | refine And.intro ?_ ?_)), by (repeat' (first | exact trivial | exact rfl | exact congrArg (SV.int .i64) (Int.natCast_succ _).symm | refine And.intro ?_ ?_)), rfl⟩
theorem moreL_tw : ∀ q : Nat, q < 6 → ([1, 2, 3, 3, 2, 1] : List Int).getD q 0 = tw ((q : Int) + 1) - tw q := by decide
theorem doneL_tw : ∀ q : Nat, q < 6 → ([0, 1, 3, 6, 9, 11] : List Int).getD q 0 = tw q := by decide
theorem doneL_le : ∀ q : Nat, q < 6 → 0 ≤ ([0, 1, 3, 6, 9, 11] : List Int).getD q 0 ∧ ([0, 1, 3, 6, 9, 11] : List Int).getD q 0 ≤ 12 := by decide
theorem moreL_le : ∀ q : Nat, q < 6 → 0 ≤ ([1, 2, 3, 3, 2, 1] : List Int).getD q 0 ∧ ([1, 2, 3, 3, 2, 1] : List Int).getD q 0 ≤ 3 := by decide
theorem t119 (t : TD) (hv : t.Valid) (h : Nat → Int) (hh : okH h) (n c : Nat) (hn : t.nM ≤ n) (hn2 : n ≤ 1000) (m : Int) (hm : t.isMin m) :
    CallP Tryz.prog 38 [t.A, .osl true 3 1 n c, .int .i64 m] (HS t h n) (Ret (.int .i64 (t.stand h m)) (HS t h n)) := by
  have hM := hv.1
  refine callR (E := E) E_ok Tryz.func38 rfl ?_
  refine And.intro ?_ ?_
  · (repeat' (first | exact trivial | exact fun _ => rfl | exact rfl | refine And.intro ?_ ?_))
  refine loopP E_ok [0, 1, 2, 3, 6, 7, 8] (fun i : Nat => [(9, .int .i64 i)]) (fun _ h => h) (fun i => 1 ≤ i ∧ i < t.nM ∧ ∀ j, 1 ≤ j → j < i → t.mi j < m) (fun i => t.nM - i) 1 ⟨Nat.le_refl _, by omega, fun j h1 h2 => by omega⟩ ?_ ?_
  · exact ent_tau [0, 1, 2, 3, 4, 5, 6] ⟨by (repeat' (first | exact trivial | exact rfl | exact fun _ _ => rfl | exact Or.inl rfl | refine And.intro ?_ ?_)), by (repeat' (first | exact trivial | exact rfl | exact congrArg (SV.int .i64) (Int.natCast_succ _).symm | refine And.intro ?_ ?_)), rfl⟩
  rintro i ⟨h1, hi, hall⟩
  refine And.intro ?_ (And.intro (fun hc => ?_) (fun hc => ?_))
  · (repeat' (first | exact trivial | exact fun _ => rfl | exact rfl | refine And.intro ?_ ?_))
  · have e1 : 0 + ((i : Int) - 1).toNat = i - 1 := by omega
    have e2 : 0 + (i : Int).toNat = i := by omega
    refine And.intro ?_ ?_
    · (repeat' (first | exact trivial | exact fun _ => rfl | exact rfl | refine And.intro ?_ ?_))
    refine drawP E_ok [4] pl38_6 (by kernel_rfl) ?_
    refine And.intro ?_ ?_
    · (repeat' (first | exact True.intro | exact d1 _ | exact d1t _ | exact d2 _ | exact d3 _ _ | exact d3f _ _ | exact fun _ _ => rfl | exact fun _ => rfl | exact rfl | refine And.intro ?_ ?_))
      all_goals first | omega | exact un (by omega)
    refine And.intro rfl ?_
    rw [e1, e2]
    have ha : t.mi (i - 1) ≤ m := by
      rcases Nat.eq_or_lt_of_le h1 with rfl | h
      · exact hm.1
      · exact Int.le_of_lt (hall (i - 1) (by omega) (by omega))
    have hst := hv.step (i := i) (by omega) hi
    have hmk := (hv.marks hi).1
    have hmk' := (hv.marks (i := i - 1) (by omega)).1
    have hm0 := hh i
    have hm1 := hh (i - 1)
    generalize hfr : t.mi (i - 1) = fr at *
    generalize hto : t.mi i = to at *
    refine And.intro ?_ (And.intro (fun hd => ?_) (fun hd => ?_))
    · (repeat' (first | exact trivial | exact fun _ => rfl | exact rfl | refine And.intro ?_ ?_))
    · have hb : m = to := of_decide_eq_true hd
      have hS := stand_at hv h1 hi (by omega) (show m ≤ t.mi i by omega) h
      have e : t.stand h m = h i := by
        rw [hS, hfr, hto, hb, moved_all (by omega)]
        exact mid_all (by omega)
      refine And.intro ?_ ?_
      · (repeat' (first | exact trivial | exact fun _ => rfl | exact rfl | refine And.intro ?_ ?_))
        all_goals first | omega | exact un (by omega)
      rw [e2, ← e]
      (repeat' (first | exact trivial | exact fun _ => rfl | exact rfl | refine And.intro ?_ ?_))
      exact ent_tau [0, 1, 2, 3] ⟨by (repeat' (first | exact trivial | exact rfl | exact fun _ _ => rfl | exact Or.inl rfl | refine And.intro ?_ ?_)), by (repeat' (first | exact trivial | exact rfl | exact congrArg (SV.int .i64) (Int.natCast_succ _).symm | refine And.intro ?_ ?_)), rfl⟩
    · have hb : m ≠ to := of_decide_eq_false hd
      refine And.intro ?_ (And.intro (fun he => ?_) (fun he => ?_))
      · (repeat' (first | exact True.intro | exact d1 _ | exact d1t _ | exact d2 _ | exact d3 _ _ | exact d3f _ _ | exact fun _ _ => rfl | exact fun _ => rfl | exact rfl | refine And.intro ?_ ?_))
        all_goals first | exact un (fun h => by rw [h]; rfl)
      · have hlt : m < to := by
          simp only [decide_eq_true (show fr ≤ m by omega), cond_true, decide_eq_true_eq] at he
          exact he
        have hS := stand_at hv h1 hi (by omega) (show m ≤ t.mi i by omega) h
        refine And.intro ?_ ?_
        · (repeat' (first | exact trivial | exact fun _ => rfl | exact rfl | refine And.intro ?_ ?_))
          all_goals first | omega | exact un (by omega)
        obtain ⟨lg, elg⟩ : ∃ x, to - fr = x := ⟨_, rfl⟩
        obtain ⟨x, ex⟩ : ∃ x, 6 * (m - fr) = x := ⟨_, rfl⟩
        have q0 : 0 ≤ x / lg := Int.ediv_nonneg (by omega) (by omega)
        have q6 : x / lg < 6 := Int.ediv_lt_of_lt_mul (by omega) (by omega)
        have r0 := Int.emod_nonneg x (b := lg) (by omega)
        have r1 := Int.emod_lt_of_pos x (b := lg) (by omega)
        have et : x.tdiv lg = x / lg := Int.tdiv_eq_ediv_of_nonneg (by omega)
        have em : x.tmod lg = x % lg := Int.tmod_eq_emod_of_nonneg (by omega)
        have eM : moved lg (m - fr) = tw (x / lg) * lg + (tw (x / lg + 1) - tw (x / lg)) * (x % lg) := by rw [moved, ex]
        obtain ⟨q, eq⟩ : ∃ q : Nat, x / lg = q := ⟨(x / lg).toNat, by omega⟩
        rw [eq] at et eM
        have hq : q < 6 := by omega
        obtain ⟨r, er⟩ : ∃ r, x % lg = r := ⟨_, rfl⟩
        rw [er] at em eM r0 r1
        rw [← moreL_tw q hq, ← doneL_tw q hq] at eM
        have hd3 : 0 ≤ ([0, 1, 3, 6, 9, 11] : List Int).getD q 0 ∧ ([0, 1, 3, 6, 9, 11] : List Int).getD q 0 ≤ 12 := doneL_le q hq
        have hm3 : 0 ≤ ([1, 2, 3, 3, 2, 1] : List Int).getD q 0 ∧ ([1, 2, 3, 3, 2, 1] : List Int).getD q 0 ≤ 3 := moreL_le q hq
        have e5 : 0 + ((q : Nat) : Int).toNat = q := by omega
        rw [ex]
        refine drawP E_ok [] pl38_11 (by kernel_rfl) ?_
        refine And.intro ?_ ?_
        · rw [elg, et]
          (repeat' (first | exact True.intro | exact d1 _ | exact d1t _ | exact d2 _ | exact d3 _ _ | exact d3f _ _ | exact fun _ _ => rfl | exact fun _ => rfl | exact rfl | refine And.intro ?_ ?_))
          all_goals first | omega | exact un (by omega)
        refine And.intro rfl ?_
        rw [elg, et, em]
        refine And.intro trivial ?_
        have n1 := Int.mul_nonneg hd3.1 (show 0 ≤ lg by omega)
        have n2 : ([0, 1, 3, 6, 9, 11] : List Int).getD q 0 * lg ≤ 12 * lg := Int.mul_le_mul_of_nonneg_right hd3.2 (by omega)
        have n3 := Int.mul_nonneg hm3.1 r0
        have n4 : ([1, 2, 3, 3, 2, 1] : List Int).getD q 0 * r ≤ 3 * r := Int.mul_le_mul_of_nonneg_right hm3.2 r0
        refine drawP E_ok [5, 6] pl38_12 (by kernel_rfl) ?_
        refine And.intro ?_ ?_
        · rw [elg, e5]
          (repeat' (first | exact True.intro | exact d1 _ | exact d1t _ | exact d2 _ | exact d3 _ _ | exact d3f _ _ | exact fun _ _ => rfl | exact fun _ => rfl | exact rfl | refine And.intro ?_ ?_))
          all_goals first | omega | exact un (by omega) | exact un ((inR_iff _).2 ⟨by omega, by omega⟩)
        refine And.intro rfl ?_
        rw [elg, e5]
        rw [← eM]
        refine And.intro trivial ?_
        have hmv : 0 ≤ moved lg (m - fr) ∧ moved lg (m - fr) ≤ 12 * lg := by
          have a1 := moved_mono (lg := lg) (d := 0) (d' := m - fr) (by omega) (by omega)
          have a2 := moved_mono (lg := lg) (d := m - fr) (d' := lg) (by omega) (by omega)
          rw [moved_zero] at a1
          rw [moved_all (by omega)] at a2
          exact ⟨a1, a2⟩
        have st := stand_range hv hm hh
        have w1 := Int.mul_nonneg hm0.1 hmv.1
        have w2 : h i * moved lg (m - fr) ≤ 60 * moved lg (m - fr) := Int.mul_le_mul_of_nonneg_right hm0.2 hmv.1
        have w0 : 0 ≤ 12 * lg - moved lg (m - fr) := by omega
        have w3 := Int.mul_nonneg hm1.1 w0
        have w4 : h (i - 1) * (12 * lg - moved lg (m - fr)) ≤ 60 * (12 * lg - moved lg (m - fr)) := Int.mul_le_mul_of_nonneg_right hm1.2 w0
        have ed : (h (i - 1) * (12 * lg - moved lg (m - fr)) + h i * moved lg (m - fr)).tdiv (12 * lg) = t.stand h m := by
          rw [Int.tdiv_eq_ediv_of_nonneg (by omega), hS, hto, hfr, elg]
          rfl
        refine drawP E_ok [] pl38_13 (by kernel_rfl) ?_
        refine And.intro ?_ ?_
        · rw [e1, e2, elg, ed]
          (repeat' (first | exact True.intro | exact d1 _ | exact d1t _ | exact d2 _ | exact d3 _ _ | exact d3f _ _ | exact fun _ _ => rfl | exact fun _ => rfl | exact rfl | refine And.intro ?_ ?_))
          all_goals first | omega | exact un (by omega) | exact un ((inR_iff _).2 ⟨by omega, by omega⟩)
        refine And.intro rfl ?_
        rw [e1, e2, elg, ed]
        (repeat' (first | exact trivial | exact fun _ => rfl | exact rfl | refine And.intro ?_ ?_))
        exact ent_tau [0, 1, 2, 3] ⟨by (repeat' (first | exact trivial | exact rfl | exact fun _ _ => rfl | exact Or.inl rfl | refine And.intro ?_ ?_)), by (repeat' (first | exact trivial | exact rfl | exact congrArg (SV.int .i64) (Int.natCast_succ _).symm | refine And.intro ?_ ?_)), rfl⟩
      · have hgt : to < m := by
          have : ¬ m < to := fun hlt => by
            simp [decide_eq_true (show fr ≤ m by omega), decide_eq_true hlt] at he
          omega
        refine And.intro ?_ ?_
        · (repeat' (first | exact trivial | exact fun _ => rfl | exact rfl | refine And.intro ?_ ?_))
          all_goals omega
        refine ⟨i + 1, ⟨by omega, ?_, fun j j1 j2 => ?_⟩, by omega, ?_⟩
        · refine Nat.lt_of_not_le fun h => ?_
          have : i = t.nM - 1 := by omega
          subst this
          have := hm.2
          omega
        · rcases Nat.lt_succ_iff_lt_or_eq.1 j2 with h | rfl
          · exact hall j j1 h
          · omega
        · exact ent_tau [0, 1, 2, 3, 4, 5, 6] ⟨by (repeat' (first | exact trivial | exact rfl | exact fun _ _ => rfl | exact Or.inl rfl | refine And.intro ?_ ?_)), by (repeat' (first | exact trivial | exact rfl | exact congrArg (SV.int .i64) (Int.natCast_succ _).symm | refine And.intro ?_ ?_)), rfl⟩
  · have := of_decide_eq_false hc
    omega
end Go.Proofs.YtipbempkngfdbaaGreatDoor
/-
  Truths one by one: heights of marks and of sand, and which of them fit the looks.
-/
namespace Go.Proofs.YtipbempkngfdbaaGreatDoor
open Go Go.Sy
set_option maxRecDepth 100000
set_option maxHeartbeats 4000000

/-! ### Lists -/
def catG {α : Type} (f : Int → List α) (lo : Int) : Nat → List α
  | 0 => []
  | c + 1 => catG f lo c ++ f (lo + c)
theorem catG_mem {α : Type} {f : Int → List α} {lo : Int} {x : α} : ∀ {c : Nat}, x ∈ catG f lo c ↔ ∃ v, lo ≤ v ∧ v < lo + c ∧ x ∈ f v
  | 0 => by
    simp only [catG, List.not_mem_nil, false_iff]
    rintro ⟨v, h1, h2, _⟩
    omega
  | c + 1 => by
    simp only [catG, List.mem_append, catG_mem (c := c)]
    constructor
    · rintro (⟨v, h1, h2, h3⟩ | h)
      · exact ⟨v, h1, by omega, h3⟩
      · exact ⟨lo + c, by omega, by omega, h⟩
    · rintro ⟨v, h1, h2, h3⟩
      by_cases h : v = lo + c
      · subst h; exact .inr h3
      · exact .inl ⟨v, h1, by omega, h3⟩
theorem catF_eq (f : Int → List Tr) (lo : Int) : ∀ c, catF f lo c = catG f lo c
  | 0 => rfl
  | c + 1 => by rw [catF, catG, catF_eq f lo c]
theorem catG_bind {α β : Type} (f : Int → List α) (g : α → List β) (lo : Int) : ∀ c, (catG f lo c).flatMap g = catG (fun v => (f v).flatMap g) lo c
  | 0 => rfl
  | c + 1 => by rw [catG, catG, List.flatMap_append, catG_bind f g lo c]
theorem catG_congr {α : Type} {f g : Int → List α} {lo : Int} : ∀ {c : Nat}, (∀ v, lo ≤ v → v < lo + c → f v = g v) → catG f lo c = catG g lo c
  | 0, _ => rfl
  | c + 1, h => by rw [catG, catG, catG_congr (c := c) fun v h1 h2 => h v h1 (by omega), h _ (by omega) (by omega)]
theorem catG_filter {α : Type} (f : Int → List α) (q : α → Bool) (lo : Int) : ∀ c, (catG f lo c).filter q = catG (fun v => (f v).filter q) lo c
  | 0 => rfl
  | c + 1 => by rw [catG, catG, List.filter_append, catG_filter f q lo c]
/-- All functions with numbers of spans, from place n - r on. -/
def lsts (lo hi : Nat → Int) (n : Nat) : Nat → (Nat → Int) → List (Nat → Int)
  | 0, h => [h]
  | r + 1, h => catG (fun v => lsts lo hi n r (upd h (n - (r + 1)) v)) (lo (n - (r + 1))) (hi (n - (r + 1)) - lo (n - (r + 1)) + 1).toNat
theorem lsts_mem {lo hi : Nat → Int} {n : Nat} : ∀ {r : Nat} {h x : Nat → Int}, r ≤ n → (x ∈ lsts lo hi n r h ↔ (∀ i, n - r ≤ i → i < n → lo i ≤ x i ∧ x i ≤ hi i) ∧ ∀ i, (i < n - r ∨ n ≤ i) → x i = h i)
  | 0, h, x, _ => by
    simp only [lsts, List.mem_singleton]
    constructor
    · rintro rfl
      exact ⟨fun i h1 h2 => by omega, fun i _ => rfl⟩
    · rintro ⟨_, h2⟩
      exact funext fun i => h2 i (by omega)
  | r + 1, h, x, hr => by
    simp only [lsts, catG_mem]
    constructor
    · rintro ⟨v, h1, h2, h3⟩
      obtain ⟨a, b⟩ := (lsts_mem (by omega)).1 h3
      have e := b (n - (r + 1)) (by omega)
      simp only [upd, if_true] at e
      refine ⟨fun i hi hi' => ?_, fun i hi => ?_⟩
      · by_cases hj : i = n - (r + 1)
        · subst hj; omega
        · exact a i (by omega) hi'
      · rw [b i (by omega)]
        simp only [upd]
        rw [if_neg (by omega)]
    · rintro ⟨a, b⟩
      have := a (n - (r + 1)) (Nat.le_refl _) (by omega)
      refine ⟨x (n - (r + 1)), this.1, by omega, (lsts_mem (by omega)).2 ⟨fun i hi hi' => a i (by omega) hi', fun i hi => ?_⟩⟩
      simp only [upd]
      split
      · rename_i e
        rw [e]
      · exact b i (by omega)
/-! ### Products -/
/-- How many numbers of the first c from lo on are so. -/
def cntI (q : Int → Bool) (lo : Int) : Nat → Nat
  | 0 => 0
  | c + 1 => cntI q lo c + if q (lo + c) = true then 1 else 0
def prodF (f : Nat → Nat) (a : Nat) : Nat → Nat
  | 0 => 1
  | r + 1 => f a * prodF f (a + 1) r
/-- From a on, r of them. -/
def allF (f : Nat → Bool) (a : Nat) : Nat → Bool
  | 0 => true
  | r + 1 => f a && allF f (a + 1) r
theorem allF_iff {f : Nat → Bool} : ∀ {r a : Nat}, allF f a r = true ↔ ∀ i, a ≤ i → i < a + r → f i = true
  | 0, a => by
    simp only [allF, true_iff]
    intro i h1 h2
    omega
  | r + 1, a => by
    simp only [allF, Bool.and_eq_true, allF_iff (r := r)]
    constructor
    · rintro ⟨h1, h2⟩ i hi hi'
      rcases Nat.eq_or_lt_of_le hi with rfl | h
      · exact h1
      · exact h2 i (by omega) (by omega)
    · exact fun h => ⟨h a (by omega) (by omega), fun i h1 h2 => h i (by omega) (by omega)⟩
theorem catG_count {α : Type} {f : Int → List α} {q : Int → Bool} {lo : Int} {N : Nat} : ∀ {c : Nat}, (∀ v, lo ≤ v → v < lo + c → (f v).length = if q v = true then N else 0) → (catG f lo c).length = cntI q lo c * N
  | 0, _ => by simp [catG, cntI]
  | c + 1, h => by
    rw [catG, List.length_append, catG_count (c := c) fun v h1 h2 => h v h1 (by omega), h _ (by omega) (by omega), cntI, Nat.add_mul]
    congr 1
    split <;> simp
theorem lsts_count {lo hi : Nat → Int} {n : Nat} (q : Nat → Int → Bool) : ∀ {r : Nat} {h : Nat → Int}, r ≤ n →
    ((lsts lo hi n r h).filter fun x => allF (fun i => q i (x i)) (n - r) r).length = prodF (fun i => cntI (q i) (lo i) (hi i - lo i + 1).toNat) (n - r) r
  | 0, h, _ => by simp [lsts, allF, prodF]
  | r + 1, h, hr => by
    have e1 : n - (r + 1) + 1 = n - r := by omega
    rw [lsts, catG_filter, prodF, e1]
    refine catG_count fun v _ _ => ?_
    have e : ∀ x ∈ lsts lo hi n r (upd h (n - (r + 1)) v), allF (fun i => q i (x i)) (n - (r + 1)) (r + 1) = (q (n - (r + 1)) v && allF (fun i => q i (x i)) (n - r) r) := fun x hx => by
      have := ((lsts_mem (by omega)).1 hx).2 (n - (r + 1)) (by omega)
      simp only [upd, if_true] at this
      rw [allF, e1, this]
    rw [List.filter_congr e]
    cases hq : q (n - (r + 1)) v
    · simp
    · simp only [Bool.true_and, if_true]
      exact lsts_count q (by omega)
theorem manyF_prod (x : Tr) (f : Nat → Nat) : ∀ (r a : Nat), (∀ i, a ≤ i → i < a + r → oc64 (x.s i) = (f i : Int)) → manyF x (a + r) = manyF x a * (prodF f a r : Int)
  | 0, a, _ => by simp [prodF]
  | r + 1, a, h => by
    have := manyF_prod x f r (a + 1) fun i h1 h2 => h i (by omega) (by omega)
    rw [show a + (r + 1) = a + 1 + r by omega, this, manyF, h a (by omega) (by omega), prodF, Int.mul_assoc]
    push_cast
    rfl
end Go.Proofs.YtipbempkngfdbaaGreatDoor
/-
  What the set of heights of sand at a place says.
-/
namespace Go.Proofs.YtipbempkngfdbaaGreatDoor
open Go Go.Sy
set_option maxRecDepth 100000
set_option maxHeartbeats 4000000

def maskF (f : Nat → Bool) : Nat → Nat
  | 0 => 0
  | c + 1 => maskF f c + if f c = true then 2 ^ c else 0
def cntN (f : Nat → Bool) : Nat → Nat
  | 0 => 0
  | c + 1 => cntN f c + if f c = true then 1 else 0
def loM (m : Nat) : Nat := if m % 2 = 1 then 0 else if m % 4 = 2 then 1 else 2
def hiM (m : Nat) : Nat := if 4 ≤ m then 3 else if 2 ≤ m then 2 else 1
theorem maskF_congr {f g : Nat → Bool} : ∀ {c : Nat}, (∀ j, j < c → f j = g j) → maskF f c = maskF g c
  | 0, _ => rfl
  | c + 1, h => by rw [maskF, maskF, maskF_congr (c := c) fun j hj => h j (by omega), h c (by omega)]
theorem cntN_congr {f g : Nat → Bool} : ∀ {c : Nat}, (∀ j, j < c → f j = g j) → cntN f c = cntN g c
  | 0, _ => rfl
  | c + 1, h => by rw [cntN, cntN, cntN_congr (c := c) fun j hj => h j (by omega), h c (by omega)]
theorem cntI_N (q : Int → Bool) (lo : Int) : ∀ c, cntI q lo c = cntN (fun j => q (lo + (j : Nat))) c
  | 0 => rfl
  | c + 1 => by rw [cntI, cntN, cntI_N q lo c]
def bs (a b d : Bool) (j : Nat) : Bool := [a, b, d].getD j false
theorem mask_d1 : ∀ c, c < 4 → ∀ a b d : Bool, maskF (bs a b d) c < 8 ∧ (maskF (bs a b d) c = 0 ↔ ∀ j, j < c → bs a b d j = false) := by decide
theorem mask_d3 : ∀ c, c < 4 → ∀ a b d : Bool, (if maskF (bs a b d) c = 0 then 0 else if maskF (bs a b d) c = 1 ∨ maskF (bs a b d) c = 2 ∨ maskF (bs a b d) c = 4 then 1 else if maskF (bs a b d) c = 7 then 3 else 2) = cntN (bs a b d) c := by decide
theorem mask_d4 : ∀ c, c < 4 → ∀ a b d : Bool, maskF (bs a b d) c ≠ 0 → loM (maskF (bs a b d) c) < c ∧ hiM (maskF (bs a b d) c) - 1 < c ∧ bs a b d (loM (maskF (bs a b d) c)) = true ∧ bs a b d (hiM (maskF (bs a b d) c) - 1) = true := by decide
theorem mask_d5 : ∀ c, c < 4 → ∀ a b d : Bool, maskF (bs a b d) c ≠ 0 → ∀ j, j < c → bs a b d j = true → loM (maskF (bs a b d) c) ≤ j ∧ j ≤ hiM (maskF (bs a b d) c) - 1 := by decide
theorem mask_d6 : ∀ c, c < 4 → ∀ a b d : Bool, ∀ j, j < c → (maskF (bs a b d) c).testBit j = bs a b d j := by decide
theorem oc_zero : oc64 0 = 0 := by decide
theorem bs_eq (f : Nat → Bool) {c : Nat} (hc : c < 4) : ∀ j, j < c → f j = bs (f 0) (f 1) (f 2) j := fun j hj => by
  have : j = 0 ∨ j = 1 ∨ j = 2 := by omega
  rcases this with rfl | rfl | rfl <;> rfl
theorem setF_mask {t : TD} {h : Nat → Int} {p : Nat} (h0 : 0 ≤ t.slo p) : ∀ c : Nat, t.setF h p c = ((maskF (fun j => t.ok1 h p (t.slo p + (j : Nat))) c * 2 ^ (t.slo p).toNat : Nat) : Int)
  | 0 => by simp [TD.setF, maskF]
  | c + 1 => by
    have e : (t.slo p + c).toNat = (t.slo p).toNat + c := by omega
    rw [TD.setF, setF_mask h0 c, e, maskF]
    split
    · rw [Nat.add_mul, ← Nat.pow_add, Nat.add_comm c]
      push_cast
      rfl
    · simp
/-- All that is said of the set of a place. -/
structure SetIs (t : TD) (h : Nat → Int) (p : Nat) : Prop where
  zero : t.set h p = 0 ↔ ∀ v, t.slo p ≤ v → v ≤ t.shi p → t.ok1 h p v = false
  many : oc64 (t.set h p) = (cntI (t.ok1 h p) (t.slo p) (t.shi p - t.slo p + 1).toNat : Int)
  ends : t.set h p ≠ 0 → (t.slo p ≤ loE (t.set h p) ∧ loE (t.set h p) ≤ t.shi p ∧ t.ok1 h p (loE (t.set h p)) = true) ∧ (t.slo p ≤ hiE (t.set h p) ∧ hiE (t.set h p) ≤ t.shi p ∧ t.ok1 h p (hiE (t.set h p)) = true) ∧
    ∀ v, t.slo p ≤ v → v ≤ t.shi p → t.ok1 h p v = true → loE (t.set h p) ≤ v ∧ v ≤ hiE (t.set h p)
  bit : ∀ v, t.slo p ≤ v → v ≤ t.shi p → bitAt (t.set h p) v = if t.ok1 h p v = true then ((2 ^ v.toNat : Nat) : Int) else 0
theorem set_is {t : TD} (hv : t.Valid) (h : Nat → Int) {p : Nat} (hp : p < t.nS) : SetIs t h p := by
  have hs := hv.2.2.2.2.1 p hp
  simp only [TD.sandOk] at hs
  obtain ⟨c, hc⟩ : ∃ c, c = (t.shi p - t.slo p + 1).toNat := ⟨_, rfl⟩
  have hc4 : c < 4 := by omega
  have hcs : (c : Int) = t.shi p - t.slo p + 1 := by omega
  obtain ⟨f, hf⟩ : ∃ f : Nat → Bool, f = fun j => t.ok1 h p (t.slo p + (j : Nat)) := ⟨_, rfl⟩
  have hfv : ∀ v, t.slo p ≤ v → t.ok1 h p v = f (v - t.slo p).toNat := fun v h1 => by
    rw [hf]
    show _ = t.ok1 h p (t.slo p + ((v - t.slo p).toNat : Int))
    rw [show t.slo p + ((v - t.slo p).toNat : Int) = v by omega]
  have e0 := setF_mask (t := t) (h := h) hs.1.1 c
  rw [← hf] at e0
  have eb := bs_eq f hc4
  have d0 := mask_d1 c hc4 (f 0) (f 1) (f 2)
  have d3 := mask_d3 c hc4 (f 0) (f 1) (f 2)
  have d4a := mask_d4 c hc4 (f 0) (f 1) (f 2)
  have d4b := mask_d5 c hc4 (f 0) (f 1) (f 2)
  have d5 := mask_d6 c hc4 (f 0) (f 1) (f 2)
  rw [← maskF_congr eb] at d0 d3 d4a d4b d5
  rw [← cntN_congr eb] at d3
  obtain ⟨d1, d2⟩ := d0
  obtain ⟨lo, hlo⟩ : ∃ lo : Nat, t.slo p = lo := ⟨(t.slo p).toNat, by omega⟩
  have hl61 : lo < 61 := by omega
  have eS : t.set h p = ((maskF f c * 2 ^ lo : Nat) : Int) := by
    rw [TD.set, ← hc, e0, hlo]
    rfl
  have p0 : 0 < 2 ^ lo := Nat.pow_pos (by omega)
  have z : t.set h p = 0 ↔ maskF f c = 0 := by
    rw [eS]
    constructor
    · intro h1
      have h2 : maskF f c * 2 ^ lo = 0 := by omega
      rcases Nat.mul_eq_zero.1 h2 with h3 | h3
      · exact h3
      · omega
    · intro h1
      rw [h1, Nat.zero_mul]
      rfl
  have few : maskF f c ≠ 0 → loE (t.set h p) = lo + loM (maskF f c) ∧ hiE (t.set h p) = lo + hiM (maskF f c) - 1 ∧ oc64 (t.set h p) = (if maskF f c = 1 ∨ maskF f c = 2 ∨ maskF f c = 4 then 1 else if maskF f c = 7 then 3 else 2) := fun h1 => by
    have hfew := few_all lo hl61 (maskF f c) d1 (by omega)
    simp only [fewOk, Bool.and_eq_true, decide_eq_true_eq] at hfew
    obtain ⟨_, a3, a4, a5⟩ := hfew
    rw [← eS] at a3 a4
    refine ⟨?_, ?_, a4⟩
    · rw [loE, a3, loM]
      push_cast
      congr 1
      repeat' split
      all_goals rfl
    · rw [hiE, eS, Int.toNat_natCast, a5, hiM]
      repeat' split
      all_goals (push_cast; omega)
  refine ⟨?_, ?_, ?_, ?_⟩
  · rw [z, d2]
    constructor
    · intro h1 v h2 h3
      rw [hfv v h2, eb (v - t.slo p).toNat (by omega)]
      exact h1 (v - t.slo p).toNat (by omega)
    · intro h1 j hj
      have := h1 (t.slo p + j) (by omega) (by omega)
      rw [hfv _ (by omega), show (t.slo p + (j : Int) - t.slo p).toNat = j by omega] at this
      rw [← eb j hj]
      exact this
  · rw [cntI_N, ← hc, ← hf, ← d3]
    by_cases h1 : maskF f c = 0
    · rw [z.2 h1, if_pos h1, oc_zero]
      rfl
    · rw [(few h1).2.2, if_neg h1]
      repeat' split
      all_goals rfl
  · intro h1
    have h1' : maskF f c ≠ 0 := fun h2 => h1 (z.2 h2)
    obtain ⟨f1, f2, _⟩ := few h1'
    obtain ⟨g1, g2, g3, g4⟩ := d4a h1'
    have g5 := d4b h1'
    have hh : 1 ≤ hiM (maskF f c) := by
      unfold hiM
      repeat' split
      all_goals omega
    rw [f1, f2]
    clear few z eS e0 d3 d4a d4b d5 p0 f1 f2 h1
    refine ⟨⟨by omega, by omega, ?_⟩, ⟨by omega, by omega, ?_⟩, fun v h2 h3 h4 => ?_⟩
    · rw [hfv _ (by omega), show ((lo : Int) + (loM (maskF f c) : Int) - t.slo p).toNat = loM (maskF f c) by omega, eb _ g1]
      exact g3
    · rw [hfv _ (by omega), show ((lo : Int) + (hiM (maskF f c) : Int) - 1 - t.slo p).toNat = hiM (maskF f c) - 1 by omega, eb _ g2]
      exact g4
    · rw [hfv v h2, eb (v - t.slo p).toNat (by omega)] at h4
      have := g5 (v - t.slo p).toNat (by omega) h4
      omega
  · intro v h2 h3
    have hm : maskF f c * 2 ^ lo < 2 ^ 64 := by
      have : 2 ^ lo ≤ 2 ^ 60 := Nat.pow_le_pow_right (by omega) (by omega)
      have := Nat.mul_le_mul (show maskF f c ≤ 7 by omega) this
      omega
    have := bitAt_or (maskF f c * 2 ^ lo) v.toNat hm (by omega)
    rw [show ((v.toNat : Nat) : Int) = v by omega] at this
    rw [eS, this]
    have e1 : (maskF f c * 2 ^ lo).testBit v.toNat = t.ok1 h p v := by
      rw [Nat.testBit_mul_two_pow, hfv v h2, eb (v - t.slo p).toNat (by omega), show (v - t.slo p).toNat = v.toNat - lo by omega, d5 (v.toNat - lo) (by omega)]
      simp
      omega
    rw [e1]
end Go.Proofs.YtipbempkngfdbaaGreatDoor
/-
  What is told, by truths one by one.
-/
namespace Go.Proofs.YtipbempkngfdbaaGreatDoor
open Go Go.Sy
set_option maxRecDepth 100000
set_option maxHeartbeats 4000000

/-- All looks can be so. -/
def TD.right (t : TD) (h s : Nat → Int) : Bool := allB (fun i => t.fit h i (s (t.lp i).toNat)) t.nL
def TD.hts (t : TD) : List (Nat → Int) := lsts t.mlo t.mhi t.nM t.nM fun _ => 0
def TD.sds (t : TD) : List (Nat → Int) := lsts t.slo t.shi t.nS t.nS fun _ => 0
/-- All truths. -/
def TD.tru (t : TD) : List ((Nat → Int) × (Nat → Int)) := t.hts.flatMap fun h => (t.sds.filter (t.right h)).map fun s => (h, s)
theorem hts_mem {t : TD} {h : Nat → Int} : h ∈ t.hts ↔ (∀ i, i < t.nM → t.mlo i ≤ h i ∧ h i ≤ t.mhi i) ∧ ∀ i, t.nM ≤ i → h i = 0 := by
  rw [TD.hts, lsts_mem (Nat.le_refl _)]
  constructor
  · rintro ⟨a, b⟩
    exact ⟨fun i hi => a i (by omega) hi, fun i hi => b i (.inr hi)⟩
  · rintro ⟨a, b⟩
    exact ⟨fun i _ hi => a i hi, fun i hi => b i (by omega)⟩
theorem sds_mem {t : TD} {s : Nat → Int} : s ∈ t.sds ↔ (∀ i, i < t.nS → t.slo i ≤ s i ∧ s i ≤ t.shi i) ∧ ∀ i, t.nS ≤ i → s i = 0 := by
  rw [TD.sds, lsts_mem (Nat.le_refl _)]
  constructor
  · rintro ⟨a, b⟩
    exact ⟨fun i hi => a i (by omega) hi, fun i hi => b i (.inr hi)⟩
  · rintro ⟨a, b⟩
    exact ⟨fun i _ hi => a i hi, fun i hi => b i (by omega)⟩
theorem tru_mem {t : TD} {x : (Nat → Int) × (Nat → Int)} : x ∈ t.tru ↔ x.1 ∈ t.hts ∧ x.2 ∈ t.sds ∧ t.right x.1 x.2 = true := by
  obtain ⟨h, s⟩ := x
  simp only [TD.tru, List.mem_flatMap, List.mem_map, List.mem_filter]
  constructor
  · rintro ⟨a, h1, b, ⟨h2, h3⟩, h4⟩
    cases h4
    exact ⟨h1, h2, h3⟩
  · rintro ⟨h1, h2, h3⟩
    exact ⟨h, h1, s, ⟨h2, h3⟩, rfl⟩
theorem right_iff {t : TD} (hv : t.Valid) {h s : Nat → Int} : t.right h s = true ↔ ∀ p, p < t.nS → t.ok1 h p (s p) = true := by
  simp only [TD.right, TD.ok1, allB_iff]
  constructor
  · intro a p hp i hi
    have := a i hi
    by_cases e : t.lp i = p
    · rw [e, Int.toNat_natCast] at this
      simp [e, this]
    · simp [e]
  · intro a i hi
    have hl := hv.2.2.2.2.2 i hi
    simp only [TD.lookOk] at hl
    have hS := hv.2.1
    have := a (t.lp i).toNat (by omega) i hi
    have e : t.lp i = (t.lp i).toNat := by omega
    simpa [← e] using this
theorem right_all {t : TD} (hv : t.Valid) (h s : Nat → Int) : t.right h s = allF (fun i => t.ok1 h i (s i)) 0 t.nS := by
  rw [Bool.eq_iff_iff, right_iff hv, allF_iff]
  exact ⟨fun a i _ hi => a i (by omega), fun a i hi => a i (by omega) (by omega)⟩

/-! ### The program's truths -/
def TD.some (t : TD) (h : Nat → Int) : Bool := allB (fun p => !decide (t.set h p = 0)) t.nS
theorem tls_eq (t : TD) : ∀ (r : Nat) (h : Nat → Int), t.tls r h = (lsts t.mlo t.mhi t.nM r h).flatMap fun g => if t.some g = true then [t.tr g] else []
  | 0, h => by
    simp only [TD.tls, lsts, TD.some, List.flatMap_cons, List.flatMap_nil, List.append_nil]
    rfl
  | r + 1, h => by
    rw [TD.tls, lsts, catG_bind, catF_eq]
    exact catG_congr fun v _ _ => tls_eq t r _
theorem all_eq (t : TD) : t.all = t.hts.flatMap fun g => if t.some g = true then [t.tr g] else [] := tls_eq t t.nM _
theorem all_mem {t : TD} {x : Tr} : x ∈ t.all ↔ ∃ h ∈ t.hts, t.some h = true ∧ x = t.tr h := by
  rw [all_eq, List.mem_flatMap]
  constructor
  · rintro ⟨h, h1, h2⟩
    split at h2
    · rename_i h3
      exact ⟨h, h1, h3, by simpa using h2⟩
    · simp at h2
  · rintro ⟨h, h1, h2, rfl⟩
    exact ⟨h, h1, by simp [h2]⟩
theorem some_iff {t : TD} (_ : t.Valid) {h : Nat → Int} : t.some h = true ↔ ∀ p, p < t.nS → t.set h p ≠ 0 := by
  simp [TD.some, allB_iff]
theorem some_of {t : TD} (hv : t.Valid) {h s : Nat → Int} (hs : s ∈ t.sds) (hr : t.right h s = true) : t.some h = true := by
  refine (some_iff hv).2 fun p hp e => ?_
  have h1 := (right_iff hv).1 hr p hp
  have h2 := (sds_mem.1 hs).1 p hp
  rw [(set_is hv h hp).zero.1 e _ h2.1 h2.2] at h1
  cases h1
/-- The sand by a choice for each place. -/
def sandBy (t : TD) (f : Nat → Int) (p : Nat) : Int := if p < t.nS then f p else 0
theorem sand_right {t : TD} (hv : t.Valid) {h f : Nat → Int} (hf : ∀ p, p < t.nS → t.slo p ≤ f p ∧ f p ≤ t.shi p ∧ t.ok1 h p (f p) = true) : sandBy t f ∈ t.sds ∧ t.right h (sandBy t f) = true := by
  refine ⟨sds_mem.2 ⟨fun i hi => ?_, fun i hi => ?_⟩, (right_iff hv).2 fun p hp => ?_⟩
  · simp only [sandBy, if_pos hi]
    exact ⟨(hf i hi).1, (hf i hi).2.1⟩
  · simp only [sandBy, if_neg (by omega : ¬ i < t.nS)]
  · simp only [sandBy, if_pos hp]
    exact (hf p hp).2.2
theorem all_nil {t : TD} (hv : t.Valid) : t.all = [] ↔ t.tru = [] := by
  constructor
  · intro h0
    refine List.eq_nil_iff_forall_not_mem.2 fun x hx => ?_
    obtain ⟨h1, h2, h3⟩ := tru_mem.1 hx
    have : t.tr x.1 ∈ t.all := all_mem.2 ⟨_, h1, some_of hv h2 h3, rfl⟩
    rw [h0] at this
    simp at this
  · intro h0
    refine List.eq_nil_iff_forall_not_mem.2 fun x hx => ?_
    obtain ⟨h, h1, h2, rfl⟩ := all_mem.1 hx
    have hs := (some_iff hv).1 h2
    obtain ⟨g1, g2⟩ := sand_right hv (h := h) (f := fun p => loE (t.set h p)) fun p hp => ((set_is hv h hp).ends (hs p hp)).1
    have : (h, sandBy t fun p => loE (t.set h p)) ∈ t.tru := tru_mem.2 ⟨h1, g1, g2⟩
    rw [h0] at this
    simp at this

/-! ### How many -/
theorem count_h {t : TD} (hv : t.Valid) (h : Nat → Int) : manyF (t.tr h) t.nS = ((t.sds.filter (t.right h)).length : Int) := by
  have e := lsts_count (lo := t.slo) (hi := t.shi) (n := t.nS) (t.ok1 h) (r := t.nS) (h := fun _ => 0) (Nat.le_refl _)
  rw [Nat.sub_self] at e
  have e2 : t.sds.filter (t.right h) = t.sds.filter fun x => allF (fun i => t.ok1 h i (x i)) 0 t.nS := List.filter_congr fun x _ => right_all hv h x
  rw [e2, TD.sds, e]
  have := manyF_prod (t.tr h) (fun i => cntI (t.ok1 h i) (t.slo i) (t.shi i - t.slo i + 1).toNat) t.nS 0 fun i _ hi => by
    have hi' : i < t.nS := by omega
    simp only [TD.tr, if_pos hi']
    exact (set_is hv h hi').many
  rw [Nat.zero_add, manyF, Int.one_mul] at this
  exact this
theorem count_none {t : TD} (hv : t.Valid) {h : Nat → Int} (hn : ¬ t.some h = true) : t.sds.filter (t.right h) = [] :=
  List.filter_eq_nil_iff.2 fun _ hs hr => hn (some_of hv hs hr)
theorem sumF_tru {t : TD} (hv : t.Valid) : ∀ L : List (Nat → Int), sumF t (L.flatMap fun g => if t.some g = true then [t.tr g] else []) = ((L.flatMap fun h => (t.sds.filter (t.right h)).map fun s => (h, s)).length : Int)
  | [] => rfl
  | h :: L => by
    rw [List.flatMap_cons, List.flatMap_cons, sumF_app, sumF_tru hv L, List.length_append, List.length_map]
    push_cast
    congr 1
    split
    · simp only [sumF]
      rw [count_h hv]
      omega
    · rename_i hn
      rw [count_none hv hn]
      rfl
theorem count_tru {t : TD} (hv : t.Valid) : t.countT = ⟨t.tru.length, 0⟩ := by
  have := sumF_tru hv t.hts
  rw [← all_eq] at this
  simp only [TD.countT, hv, not_true, if_false, this]
  rfl
end Go.Proofs.YtipbempkngfdbaaGreatDoor
/-
  Depths that are told, and how many truths have each, by truths one by one.
-/
namespace Go.Proofs.YtipbempkngfdbaaGreatDoor
open Go Go.Sy
set_option maxRecDepth 100000
set_option maxHeartbeats 4000000

/-- How deep it is at a place at a minute. -/
def TD.dep (t : TD) (m : Int) (p : Nat) (x : (Nat → Int) × (Nat → Int)) : Int := max0 (t.stand x.1 m - x.2 p)
theorem max0_mono {a b : Int} (h : a ≤ b) : max0 a ≤ max0 b := by
  unfold max0
  split <;> split <;> omega
theorem max0_nn (a : Int) : 0 ≤ max0 a := by
  unfold max0
  split <;> omega
/-- What is told of the depth, where there are truths. -/
structure DepIs (t : TD) (p : Nat) (m lo hi : Int) : Prop where
  v : t.depthT p m = ⟨(lo, hi), 0⟩
  bnd : ∀ x ∈ t.tru, lo ≤ t.dep m p x ∧ t.dep m p x ≤ hi
  lo : ∃ x ∈ t.tru, t.dep m p x = lo
  hi : ∃ x ∈ t.tru, t.dep m p x = hi
theorem dep_is {t : TD} (hv : t.Valid) (hn : t.tru ≠ []) {p : Nat} (hp : p < t.nS) {m : Int} (hm : t.isMin m) : ∃ lo hi, DepIs t p m lo hi := by
  have hna : t.all ≠ [] := fun h => hn ((all_nil hv).1 h)
  have hpl : t.isPl (p : Int) := ⟨by omega, by omega⟩
  have key : ∀ h ∈ t.hts, t.some h = true → (t.tr h).s p = t.set h p ∧ SetIs t h p ∧ t.set h p ≠ 0 := fun h _ hs => by
    refine ⟨?_, set_is hv h hp, (some_iff hv).1 hs p hp⟩
    simp only [TD.tr, if_pos hp]
  have pick : ∀ h ∈ t.hts, t.some h = true → ∀ v, t.slo p ≤ v → v ≤ t.shi p → t.ok1 h p v = true → ∃ x ∈ t.tru, x.1 = h ∧ x.2 p = v := fun h hh hs v h1 h2 h3 => by
    obtain ⟨g1, g2⟩ := sand_right hv (h := h) (f := fun q => if q = p then v else loE (t.set h q)) fun q hq => by
      by_cases e : q = p
      · subst e
        simp only [if_true]
        exact ⟨h1, h2, h3⟩
      · simp only [if_neg e]
        exact ((set_is hv h hq).ends ((some_iff hv).1 hs q hq)).1
    refine ⟨(h, _), tru_mem.2 ⟨hh, g1, g2⟩, rfl, ?_⟩
    show (if p < t.nS then (if p = p then v else loE (t.set h p)) else 0) = v
    rw [if_pos hp, if_pos rfl]
  refine ⟨_, _, ⟨by simp only [TD.depthT, hv, hpl, hm, hna, not_true, if_false, and_self]; rfl, fun x hx => ?_, ?_, ?_⟩⟩
  · obtain ⟨h1, h2, h3⟩ := tru_mem.1 hx
    have hs := some_of hv h2 h3
    obtain ⟨e, si, hne⟩ := key _ h1 hs
    have hy : t.tr x.1 ∈ t.all := all_mem.2 ⟨_, h1, hs, rfl⟩
    have a1 := (hul_mem (a := a98 t m p) hy).1
    have a2 := (hul_mem (a := b98 t m p) hy).2
    have b := (si.ends hne).2.2 (x.2 p) ((sds_mem.1 h2).1 p hp).1 ((sds_mem.1 h2).1 p hp).2 ((right_iff hv).1 h3 p hp)
    have c1 : a98 t m p (t.tr x.1) ≤ t.dep m p x := by
      unfold a98 TD.dep
      rw [e]
      exact max0_mono (by have := b.2; show t.stand x.1 m - _ ≤ _; omega)
    have c2 : t.dep m p x ≤ b98 t m p (t.tr x.1) := by
      unfold b98 TD.dep
      rw [e]
      exact max0_mono (by have := b.1; show _ ≤ t.stand x.1 m - _; omega)
    exact ⟨Int.le_trans a1 c1, Int.le_trans c2 a2⟩
  · obtain ⟨⟨y, hy, ey⟩, _⟩ := hul_ex (a := a98 t m p) hna
    obtain ⟨h, h1, h2, rfl⟩ := all_mem.1 hy
    obtain ⟨e, si, hne⟩ := key h h1 h2
    obtain ⟨x, hx, e1, e2⟩ := pick h h1 h2 _ (si.ends hne).2.1.1 (si.ends hne).2.1.2.1 (si.ends hne).2.1.2.2
    refine ⟨x, hx, ?_⟩
    show _ = hulLo (a98 t m p) t.all t.all.length
    rw [ey]
    unfold a98 TD.dep
    rw [e, e1, e2]
    rfl
  · obtain ⟨_, y, hy, ey⟩ := hul_ex (a := b98 t m p) hna
    obtain ⟨h, h1, h2, rfl⟩ := all_mem.1 hy
    obtain ⟨e, si, hne⟩ := key h h1 h2
    obtain ⟨x, hx, e1, e2⟩ := pick h h1 h2 _ (si.ends hne).1.1 (si.ends hne).1.2.1 (si.ends hne).1.2.2
    refine ⟨x, hx, ?_⟩
    show _ = hulHi (b98 t m p) t.all t.all.length
    rw [ey]
    unfold b98 TD.dep
    rw [e, e1, e2]
    rfl

/-! ### How many truths have a depth -/
theorem filter_or_len {α : Type} {a b : α → Bool} : ∀ {l : List α}, (∀ x ∈ l, ¬ (a x = true ∧ b x = true)) → (l.filter fun x => a x || b x).length = (l.filter a).length + (l.filter b).length
  | [], _ => rfl
  | x :: l, h => by
    have ih := filter_or_len (l := l) fun y hy => h y (List.mem_cons_of_mem _ hy)
    have hx := h x List.mem_cons_self
    cases ha : a x <;> cases hb : b x
    · simp [ha, hb, ih]
    · simp [ha, hb, ih]; omega
    · simp [ha, hb, ih]; omega
    · exact absurd ⟨ha, hb⟩ hx
theorem cntI_at (q : Int → Bool) (lo v : Int) : ∀ c, cntI (fun x => q x && decide (x = v)) lo c = if lo ≤ v ∧ v < lo + c ∧ q v = true then 1 else 0
  | 0 => by rw [cntI, if_neg (by omega)]
  | c + 1 => by
    rw [cntI, cntI_at q lo v c]
    by_cases e : lo + c = v
    · rw [← e]
      cases h : q (lo + c)
      · simp
      · rw [if_neg (by omega), if_pos (by simp), if_pos ⟨by omega, by omega, rfl⟩]
    · rw [if_neg (show ¬ (q (lo + c) && decide (lo + c = v)) = true by simp [e])]
      by_cases h : lo ≤ v ∧ v < lo + c ∧ q v = true
      · rw [if_pos h, if_pos ⟨h.1, by omega, h.2.2⟩]
      · rw [if_neg h, if_neg (fun h2 => h ⟨h2.1, by omega, h2.2.2⟩)]
theorem oc_pow {v : Nat} (h : v < 61) : oc64 ((2 ^ v : Nat) : Int) = 1 := by
  have := few_all v h 1 (by decide) (by decide)
  simp only [fewOk, Bool.and_eq_true, decide_eq_true_eq, Nat.one_mul] at this
  exact this.2.2.1
theorem count_one {t : TD} (hv : t.Valid) (h : Nat → Int) {p : Nat} (hp : p < t.nS) {v : Int} (h1 : t.slo p ≤ v) (h2 : v ≤ t.shi p) (h3 : t.ok1 h p v = true) :
    manyF ((t.tr h).one p ((2 ^ v.toNat : Nat) : Int)) t.nS = ((t.sds.filter fun s => t.right h s && decide (s p = v)).length : Int) := by
  have hs := hv.2.2.2.2.1 p hp
  simp only [TD.sandOk] at hs
  have e := lsts_count (lo := t.slo) (hi := t.shi) (n := t.nS) (fun i x => if i = p then t.ok1 h i x && decide (x = v) else t.ok1 h i x) (r := t.nS) (h := fun _ => 0) (Nat.le_refl _)
  rw [Nat.sub_self] at e
  have e2 : t.sds.filter (fun s => t.right h s && decide (s p = v)) = t.sds.filter fun x => allF (fun i => if i = p then t.ok1 h i (x i) && decide (x i = v) else t.ok1 h i (x i)) 0 t.nS := List.filter_congr fun x _ => by
    rw [right_all hv, Bool.eq_iff_iff, Bool.and_eq_true, allF_iff, allF_iff]
    constructor
    · rintro ⟨a, b⟩ i hi hi'
      have := a i hi hi'
      split
      · rename_i e3
        subst e3
        simp only [Bool.and_eq_true]
        exact ⟨this, b⟩
      · exact this
    · intro a
      refine ⟨fun i hi hi' => ?_, ?_⟩
      · have := a i hi hi'
        split at this
        · simp only [Bool.and_eq_true] at this
          exact this.1
        · exact this
      · have := a p (by omega) (by omega)
        rw [if_pos rfl, Bool.and_eq_true] at this
        exact this.2
  rw [e2, TD.sds, e]
  have := manyF_prod ((t.tr h).one p ((2 ^ v.toNat : Nat) : Int)) (fun i => cntI (fun x => if i = p then t.ok1 h i x && decide (x = v) else t.ok1 h i x) (t.slo i) (t.shi i - t.slo i + 1).toNat) t.nS 0 fun i _ hi => by
    have hi' : i < t.nS := by omega
    simp only [Tr.one, upd, TD.tr]
    by_cases e3 : i = p
    · subst e3
      simp only [if_true]
      rw [cntI_at, if_pos ⟨h1, by omega, h3⟩, oc_pow (by omega)]
      rfl
    · simp only [if_neg e3, if_pos hi']
      exact (set_is hv h hi').many
  rw [Nat.zero_add, manyF, Int.one_mul] at this
  exact this

/-- How many truths with these heights of marks have a depth. -/
def TD.atH (t : TD) (m : Int) (p : Nat) (k : Int) (h : Nat → Int) : Int := ((t.sds.filter fun s => t.right h s && decide (t.dep m p (h, s) = k)).length : Int)
theorem depIn_aval {t : TD} (hv : t.Valid) {m : Int} {p : Nat} (hp : p < t.nS) (h : Nat → Int) (M : List (Int × Int)) (k : Int) : ∀ c : Nat, t.slo p + c ≤ t.shi p + 1 →
    aval (depIn t m p (t.tr h) c M) k = aval M k + ((t.sds.filter fun s => (t.right h s && decide (t.dep m p (h, s) = k)) && decide (s p < t.slo p + c)).length : Int)
  | 0, _ => by
    have : (t.sds.filter fun s => (t.right h s && decide (t.dep m p (h, s) = k)) && decide (s p < t.slo p + (0 : Nat))) = [] := List.filter_eq_nil_iff.2 fun s hs hq => by
      have := (sds_mem.1 hs).1 p hp
      simp only [Bool.and_eq_true, decide_eq_true_eq] at hq
      omega
    rw [this]
    simp [depIn]
  | c + 1, hc => by
    have ih := depIn_aval hv hp h M k (m := m) c (by omega)
    have si := set_is hv h hp
    have hb := si.bit (t.slo p + c) (by omega) (by omega)
    have hx : (t.tr h).s p = t.set h p := by simp only [TD.tr, if_pos hp]
    have split : (t.sds.filter fun s => (t.right h s && decide (t.dep m p (h, s) = k)) && decide (s p < t.slo p + (c + 1 : Nat))).length = (t.sds.filter fun s => (t.right h s && decide (t.dep m p (h, s) = k)) && decide (s p < t.slo p + c)).length + (t.sds.filter fun s => (t.right h s && decide (t.dep m p (h, s) = k)) && decide (s p = t.slo p + c)).length := by
      rw [← filter_or_len]
      · congr 1
        refine List.filter_congr fun s _ => ?_
        rw [Bool.eq_iff_iff]
        simp only [Bool.and_eq_true, Bool.or_eq_true, decide_eq_true_eq]
        constructor
        · rintro ⟨a, b⟩
          by_cases e : s p = t.slo p + c
          · exact .inr ⟨a, e⟩
          · exact .inl ⟨a, by omega⟩
        · rintro (⟨a, b⟩ | ⟨a, b⟩)
          · exact ⟨a, by omega⟩
          · exact ⟨a, by omega⟩
      · intro s _ ⟨a, b⟩
        simp only [Bool.and_eq_true, decide_eq_true_eq] at a b
        omega
    rw [split, depIn, depStep, hx]
    cases hok : t.ok1 h p (t.slo p + c)
    · rw [hok, if_neg (by decide)] at hb
      rw [if_pos hb, ih]
      have : (t.sds.filter fun s => (t.right h s && decide (t.dep m p (h, s) = k)) && decide (s p = t.slo p + c)) = [] := List.filter_eq_nil_iff.2 fun s hs hq => by
        simp only [Bool.and_eq_true, decide_eq_true_eq] at hq
        have := (right_iff hv).1 hq.1.1 p hp
        rw [hq.2, hok] at this
        cases this
      rw [this]
      simp
    · rw [hok, if_pos rfl] at hb
      have hs := hv.2.2.2.2.1 p hp
      simp only [TD.sandOk] at hs
      have hp2 : 0 < 2 ^ (t.slo p + (c : Int)).toNat := Nat.pow_pos (by omega)
      rw [if_neg (by rw [hb]; omega), hb, aval_aset, ih, count_one hv h hp (by omega) (by omega) hok]
      have ek : depKey t m (t.tr h) (t.slo p + c) = max0 (t.stand h m - (t.slo p + c)) := rfl
      by_cases e : depKey t m (t.tr h) (t.slo p + c) = k
      · rw [if_pos e]
        subst e
        have ih2 := ih
        rw [ih]
        have : (t.sds.filter fun s => t.right h s && decide (s p = t.slo p + c)) = t.sds.filter fun s => (t.right h s && decide (t.dep m p (h, s) = depKey t m (t.tr h) (t.slo p + c))) && decide (s p = t.slo p + c) := List.filter_congr fun s _ => by
          rw [Bool.eq_iff_iff]
          simp only [Bool.and_eq_true, decide_eq_true_eq]
          constructor
          · rintro ⟨a, b⟩
            exact ⟨⟨a, by rw [ek, ← b]; rfl⟩, b⟩
          · rintro ⟨⟨a, _⟩, b⟩
            exact ⟨a, b⟩
        rw [this]
        push_cast
        omega
      · rw [if_neg e]
        have : (t.sds.filter fun s => (t.right h s && decide (t.dep m p (h, s) = k)) && decide (s p = t.slo p + c)) = [] := List.filter_eq_nil_iff.2 fun s hs hq => by
          simp only [Bool.and_eq_true, decide_eq_true_eq] at hq
          apply e
          rw [ek, ← hq.1.2, ← hq.2]
          rfl
        rw [this]
        simp
theorem depIn_all {t : TD} (hv : t.Valid) {m : Int} {p : Nat} (hp : p < t.nS) (h : Nat → Int) (M : List (Int × Int)) (k : Int) : aval (depIn t m p (t.tr h) (t.shi p - t.slo p + 1).toNat M) k = aval M k + t.atH m p k h := by
  have hs := hv.2.2.2.2.1 p hp
  simp only [TD.sandOk] at hs
  rw [depIn_aval hv hp h M k _ (by omega), TD.atH]
  congr 3
  refine List.filter_congr fun s hs' => ?_
  have := (sds_mem.1 hs').1 p hp
  have e : decide (s p < t.slo p + ((t.shi p - t.slo p + 1).toNat : Int)) = true := decide_eq_true (by omega)
  rw [e, Bool.and_true]

def sumI {α : Type} (f : α → Int) : List α → Int
  | [] => 0
  | x :: l => f x + sumI f l
theorem sumI_app {α : Type} (f : α → Int) : ∀ a b : List α, sumI f (a ++ b) = sumI f a + sumI f b
  | [], b => by simp [sumI]
  | x :: a, b => by simp only [List.cons_append, sumI, sumI_app f a b]; omega
theorem depOut_aval {t : TD} {m : Int} {p : Nat} {g : List Tr} {k : Int} (φ : Tr → Int) (hφ : ∀ x ∈ g, ∀ M, aval (depIn t m p x (t.shi p - t.slo p + 1).toNat M) k = aval M k + φ x) : ∀ j, j ≤ g.length → aval (depOut t m p g j) k = sumI φ (g.take j)
  | 0, _ => by simp [depOut, aval, aget, sumI]
  | j + 1, hj => by
    rw [depOut, hφ _ (getD_mem (by omega)), depOut_aval φ hφ j (by omega), List.take_add_one, List.getElem?_eq_getElem (by omega), sumI_app, List.getD_eq_getElem?_getD, List.getElem?_eq_getElem (by omega)]
    simp [sumI]
/-- How many truths have a depth at a place at a minute. -/
def TD.cnt (t : TD) (m : Int) (p : Nat) (k : Int) : Nat := (t.tru.filter fun x => decide (t.dep m p x = k)).length
theorem sum_tru {t : TD} (hv : t.Valid) (m : Int) (p : Nat) (k : Int) : ∀ L : List (Nat → Int), sumI (fun x => t.atH m p k x.h) (L.flatMap fun g => if t.some g = true then [t.tr g] else []) =
    (((L.flatMap fun h => (t.sds.filter (t.right h)).map fun s => (h, s)).filter fun x => decide (t.dep m p x = k)).length : Int)
  | [] => rfl
  | h :: L => by
    have e1 : (((t.sds.filter (t.right h)).map fun s => (h, s)).filter fun x => decide (t.dep m p x = k)).length = (t.sds.filter fun s => t.right h s && decide (t.dep m p (h, s) = k)).length := by
      rw [List.filter_map, List.length_map, List.filter_filter]
      congr 1
      exact List.filter_congr fun s _ => by rw [Bool.and_comm]; rfl
    rw [List.flatMap_cons, List.flatMap_cons, sumI_app, sum_tru hv m p k L, List.filter_append, List.length_append, e1]
    push_cast
    congr 1
    split
    · simp only [sumI, Int.add_zero]
      rfl
    · rename_i hn
      have : (t.sds.filter fun s => t.right h s && decide (t.dep m p (h, s) = k)) = [] := List.filter_eq_nil_iff.2 fun s hs hq => by
        simp only [Bool.and_eq_true] at hq
        exact hn (some_of hv hs hq.1)
      rw [this]
      rfl
theorem depAll_cnt {t : TD} (hv : t.Valid) {m : Int} {p : Nat} (hp : p < t.nS) (k : Int) : aval (depAll t m p) k = (t.cnt m p k : Int) := by
  have h1 := depOut_aval (t := t) (m := m) (p := p) (g := t.all) (k := k) (fun x => t.atH m p k x.h) (fun x hx M => by
    obtain ⟨h, _, _, rfl⟩ := all_mem.1 hx
    exact depIn_all hv hp h M k) t.all.length (Nat.le_refl _)
  rw [List.take_length] at h1
  rw [depAll, h1]
  have := sum_tru hv m p k t.hts
  rwa [← all_eq] at this

/-! ### The map itself -/
/-- No key twice, and no number that is not above 0. -/
structure MapOk (M : List (Int × Int)) : Prop where
  nd : (M.map Prod.fst).Nodup
  pos : ∀ q ∈ M, 0 < q.2
theorem aget_nd {M : List (Int × Int)} (h : (M.map Prod.fst).Nodup) {q : Int × Int} (hq : q ∈ M) : aval M q.1 = q.2 := by
  induction M with
  | nil => simp at hq
  | cons a l ih =>
    obtain ⟨x, y⟩ := a
    rw [List.map_cons, List.nodup_cons] at h
    rcases List.mem_cons.1 hq with rfl | h2
    · simp [aval, aget]
    · have hne : x ≠ q.1 := fun e => h.1 (by rw [show (x, y).1 = q.1 from e]; exact List.mem_map_of_mem h2)
      have := ih h.2 h2
      unfold aval at this ⊢
      simp only [aget, if_neg hne]
      cases hc : aget l q.1 with
      | none => rw [hc] at this; simpa using this
      | some u => rw [hc] at this; simpa using this
theorem aval_mem {M : List (Int × Int)} {k : Int} (h : aval M k ≠ 0) : ∃ q ∈ M, q.1 = k ∧ q.2 = aval M k := by
  rcases aget_spec (k := k) (m := M) with ⟨h1, _⟩ | ⟨j, v, h1, h2⟩
  · exfalso
    apply h
    simp [aval, h1]
  · exact ⟨(k, v), List.mem_of_getElem? h2, rfl, by simp [aval, h1]⟩
theorem aset_ok {M : List (Int × Int)} (h : MapOk M) (k : Int) {v : Int} (hv : 0 < v) : MapOk (aset M k v) := by
  unfold aset
  rcases aget_spec (k := k) (m := M) with ⟨h1, h2⟩ | ⟨j, u, h1, h2⟩
  · rw [h1]
    refine ⟨?_, fun q hq => ?_⟩
    · rw [List.map_append, List.nodup_append]
      refine ⟨h.nd, by simp, fun a ha b hb e => ?_⟩
      simp only [List.map_cons, List.map_nil, List.mem_singleton] at hb
      subst hb
      subst e
      obtain ⟨q, hq, e⟩ := List.mem_map.1 ha
      exact h2 q hq e
    · rcases List.mem_append.1 hq with hq | hq
      · exact h.pos q hq
      · simp only [List.mem_singleton] at hq
        subst hq
        exact hv
  · rw [h1]
    refine ⟨?_, fun q hq => ?_⟩
    · have : (M.set j (k, v)).map Prod.fst = M.map Prod.fst := by
        apply List.ext_getElem?
        intro i
        rw [List.getElem?_map, List.getElem?_map, List.getElem?_set]
        by_cases e : j = i
        · subst e
          rw [if_pos rfl, h2]
          have : j < M.length := by
            rcases Nat.lt_or_ge j M.length with h | h
            · exact h
            · rw [List.getElem?_eq_none h] at h2; cases h2
          simp [this]
        · rw [if_neg e]
      show ((M.set j (k, v)).map Prod.fst).Nodup
      rw [this]
      exact h.nd
    · rcases List.mem_or_eq_of_mem_set hq with hq | rfl
      · exact h.pos q hq
      · exact hv
theorem depStep_ok {t : TD} (hv : t.Valid) {m : Int} {p : Nat} {x : Tr} (hx : fullTr t x) {n : Int} (h0 : 0 ≤ n) (h1 : n ≤ 60) {M : List (Int × Int)} (hM : MapOk M) : MapOk (depStep t m p x n M) := by
  unfold depStep
  split
  · exact hM
  · rename_i hb
    refine aset_ok hM _ ?_
    have hm := many_le hv (one_full hx p h0 h1 hb)
    have : 0 ≤ aval M (depKey t m x n) := by
      rcases Decidable.em (aval M (depKey t m x n) = 0) with e | e
      · omega
      · obtain ⟨q, hq, _, e2⟩ := aval_mem e
        have := hM.pos q hq
        omega
    omega
theorem depIn_ok {t : TD} (hv : t.Valid) {m : Int} {p : Nat} (hp : p < t.nS) {x : Tr} (hx : fullTr t x) {M : List (Int × Int)} (hM : MapOk M) : ∀ c : Nat, t.slo p + c ≤ t.shi p + 1 → MapOk (depIn t m p x c M)
  | 0, _ => hM
  | c + 1, hc => by
    have hs := hv.2.2.2.2.1 p hp
    simp only [TD.sandOk] at hs
    exact depStep_ok hv hx (by omega) (by omega) (depIn_ok hv hp hx hM c (by omega))
theorem depOut_ok {t : TD} (hv : t.Valid) {m : Int} {p : Nat} (hp : p < t.nS) {g : List Tr} (hg : ∀ x ∈ g, fullTr t x) : ∀ j, j ≤ g.length → MapOk (depOut t m p g j)
  | 0, _ => ⟨by simp [depOut], fun q hq => by simp [depOut] at hq⟩
  | j + 1, hj => by
    have hs := hv.2.2.2.2.1 p hp
    simp only [TD.sandOk] at hs
    exact depIn_ok hv hp (hg _ (getD_mem (by omega))) (depOut_ok hv hp hg j (by omega)) _ (by omega)
theorem depAll_ok {t : TD} (hv : t.Valid) {m : Int} {p : Nat} (hp : p < t.nS) : MapOk (depAll t m p) := depOut_ok hv hp (all_full hv) _ (Nat.le_refl _)
theorem cnt_pos {t : TD} {m : Int} {p : Nat} {k : Int} : 0 < t.cnt m p k ↔ ∃ x ∈ t.tru, t.dep m p x = k := by
  rw [TD.cnt, List.length_pos_iff_exists_mem]
  simp [List.mem_filter]
theorem any_dep {t : TD} (hv : t.Valid) {m : Int} {p : Nat} (hp : p < t.nS) (f : Int → Bool) : ((depAll t m p).any fun q => f q.1) = true ↔ ∃ x ∈ t.tru, f (t.dep m p x) = true := by
  have ok := depAll_ok hv hp (m := m)
  rw [List.any_eq_true]
  constructor
  · rintro ⟨q, hq, hf⟩
    have h1 := aget_nd ok.nd hq
    have h2 := ok.pos q hq
    rw [depAll_cnt hv hp] at h1
    obtain ⟨x, hx, e⟩ := cnt_pos.1 (show 0 < t.cnt m p q.1 by omega)
    exact ⟨x, hx, by rw [e]; exact hf⟩
  · rintro ⟨x, hx, hf⟩
    have h1 : 0 < t.cnt m p (t.dep m p x) := cnt_pos.2 ⟨x, hx, rfl⟩
    have h2 := depAll_cnt hv hp (m := m) (t.dep m p x)
    obtain ⟨q, hq, e, _⟩ := aval_mem (show aval (depAll t m p) (t.dep m p x) ≠ 0 by omega)
    exact ⟨q, hq, by rw [e]; exact hf⟩
theorem maxV_le : ∀ {M : List (Int × Int)} {q : Int × Int}, q ∈ M → q.2 ≤ maxV M
  | [], _, h => by simp at h
  | a :: l, q, h => by
    simp only [maxV]
    rcases List.mem_cons.1 h with rfl | h
    · omega
    · have := maxV_le h
      omega
theorem maxV_ex : ∀ {M : List (Int × Int)}, maxV M = 0 ∨ ∃ q ∈ M, q.2 = maxV M
  | [] => .inl rfl
  | a :: l => by
    simp only [maxV]
    rcases Int.le_total (maxV l) a.2 with h | h
    · exact .inr ⟨a, List.mem_cons_self, by omega⟩
    · rcases maxV_ex (M := l) with h2 | ⟨q, hq, e⟩
      · rcases Int.lt_or_le 0 a.2 with h3 | h3
        · omega
        · exact .inl (by omega)
      · exact .inr ⟨q, List.mem_cons_of_mem _ hq, by omega⟩
/-- The greatest number of truths with the same depth. -/
theorem max_dep {t : TD} (hv : t.Valid) {m : Int} {p : Nat} (hp : p < t.nS) (hn : t.tru ≠ []) : (∀ k, (t.cnt m p k : Int) ≤ maxV (depAll t m p)) ∧ ∃ x ∈ t.tru, maxV (depAll t m p) = t.cnt m p (t.dep m p x) := by
  have ok := depAll_ok hv hp (m := m)
  have le : ∀ k, (t.cnt m p k : Int) ≤ maxV (depAll t m p) := fun k => by
    rcases Nat.eq_zero_or_pos (t.cnt m p k) with h | h
    · rw [h]
      exact (maxV_app (depAll t m p) []).2
    · have h2 := depAll_cnt hv hp (m := m) k
      obtain ⟨q, hq, e, e2⟩ := aval_mem (show aval (depAll t m p) k ≠ 0 by omega)
      have := maxV_le hq
      omega
  refine ⟨le, ?_⟩
  rcases maxV_ex (M := depAll t m p) with h | ⟨q, hq, e⟩
  · exfalso
    obtain ⟨x, hx⟩ := List.exists_mem_of_ne_nil _ hn
    have h1 : 0 < t.cnt m p (t.dep m p x) := cnt_pos.2 ⟨x, hx, rfl⟩
    have := le (t.dep m p x)
    omega
  · have h1 := aget_nd ok.nd hq
    have h2 := ok.pos q hq
    rw [depAll_cnt hv hp] at h1
    obtain ⟨x, hx, e1⟩ := cnt_pos.1 (show 0 < t.cnt m p q.1 by omega)
    exact ⟨x, hx, by rw [e1]; omega⟩
end Go.Proofs.YtipbempkngfdbaaGreatDoor
/-
  The plain law of a look more.
-/
namespace Go.Proofs.YtipbempkngfdbaaGreatDoor
open Go Go.Sy
set_option maxRecDepth 100000
set_option maxHeartbeats 4000000

/-- A tide with a look more. -/
def TD.plus (t : TD) (a m lo hi : Int) (cap : Nat) : TD :=
  { t with nL := t.nL + 1, lp := fun k => if k = t.nL then a else t.lp k, lm := fun k => if k = t.nL then m else t.lm k, llo := fun k => if k = t.nL then lo else t.llo k, lhi := fun k => if k = t.nL then hi else t.lhi k, bL := true, cL := cap }
/-- Depths are from 0 to 60. -/
theorem dep_range {t : TD} (hv : t.Valid) {p : Nat} (hp : p < t.nS) {m : Int} (hm : t.isMin m) {x : (Nat → Int) × (Nat → Int)} (hx : x ∈ t.tru) : 0 ≤ t.dep m p x ∧ t.dep m p x ≤ 60 := by
  obtain ⟨h1, h2, _⟩ := tru_mem.1 hx
  have hh : okH x.1 := fun i => by
    rcases Nat.lt_or_ge i t.nM with h | h
    · have := (hts_mem.1 h1).1 i h
      have mk := hv.marks (i := i) h
      simp only [TD.markOk] at mk
      omega
    · rw [(hts_mem.1 h1).2 i h]
      omega
  have hr := stand_range hv hm hh
  have hs := hv.2.2.2.2.1 p hp
  simp only [TD.sandOk] at hs
  have := (sds_mem.1 h2).1 p hp
  refine ⟨max0_nn _, ?_⟩
  unfold TD.dep max0
  split <;> omega
theorem tru_len {t : TD} (hv : t.Valid) : t.tru.length ≤ 6561 := by
  have h := count_tru hv
  simp only [TD.countT, hv, not_true, if_false, Told.mk.injEq, and_true] at h
  have h2 := sumF_range hv t.all (all_full hv)
  have h3 := all_len hv
  omega
end Go.Proofs.YtipbempkngfdbaaGreatDoor
