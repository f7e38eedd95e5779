/-
  Parts: H5, H6, H7, H8, P1, Qt.
-/
import Derived.Test.YtgofhjihkinknaaN13
import Derived.Test.YtgofhjihkinknaaN12
import Derived.Test.YtgofhjihkinknaaN11
import Derived.Test.YtgofhjihkinknaaRows
set_option linter.unusedVariables false
/-
  Plain law of horses, part 5.
-/
namespace Kuhn
namespace HD
set_option linter.unusedVariables false

/-! ### Plans, one after the other -/
/-- Can a horse go on with the next move, by a plan of those before it? -/
def fits (h : HD) (s : Bool) (L : List Int) (x : Int) : Bool := (List.range L.length).all fun k => !(decide (L.getD k 0 = x) && h.apart s L.length k)
def ways (h : HD) (s : Bool) (ok : Nat → Bool) (N : Nat) : Nat → List Int → List (List Int)
  | 0, L => [L]
  | r + 1, L => match ok L.length with
    | true => (List.range N).flatMap fun x : Nat => match h.fits s L (x : Int) with
      | true => ways h s ok N r (L ++ [(x : Int)])
      | false => []
    | false => ways h s ok N r (L ++ [-1])
theorem apart_comm (h : HD) (s : Bool) (i k : Nat) : h.apart s i k = h.apart s k i := by
  unfold apart
  rw [Bool.and_comm]
theorem fits_iff {h : HD} {s : Bool} {L : List Int} {x : Int} : h.fits s L x = true ↔ ∀ k, k < L.length → L.getD k 0 = x → h.apart s L.length k = false := by
  unfold fits
  rw [List.all_eq_true]
  constructor
  · intro H k hk e
    have := H k (List.mem_range.2 hk)
    rw [decide_eq_true e] at this
    simpa using this
  · intro H k hk
    by_cases e : L.getD k 0 = x
    · rw [H k (List.mem_range.1 hk) e]
      simp
    · rw [decide_eq_false e]
      rfl
/-- A plan of the first moves is right. -/
structure OkL (h : HD) (s : Bool) (ok : Nat → Bool) (N : Nat) (L : List Int) : Prop where
  yes : ∀ k, k < L.length → ok k = true → 0 ≤ L.getD k 0 ∧ L.getD k 0 < N
  no : ∀ k, k < L.length → ok k = false → L.getD k 0 = -1
  right : ∀ i k, i < k → k < L.length → ok k = true → L.getD i 0 = L.getD k 0 → h.apart s k i = false
theorem getD_app {L : List Int} {x : Int} {k : Nat} : (L ++ [x]).getD k 0 = if k < L.length then L.getD k 0 else if k = L.length then x else 0 := by
  by_cases h : k < L.length
  · rw [if_pos h]
    simp [List.getD_eq_getElem?_getD, List.getElem?_append_left h]
  · rw [if_neg h]
    by_cases e : k = L.length
    · subst e
      simp
    · rw [if_neg e]
      have : (L ++ [x])[k]? = none := by
        rw [List.getElem?_eq_none_iff]
        simp
        omega
      simp [List.getD_eq_getElem?_getD, this]
theorem OkL.yes_app {h : HD} {s : Bool} {ok : Nat → Bool} {N : Nat} {L : List Int} (H : OkL h s ok N L) (ho : ok L.length = true) {x : Nat} (hx : x < N) (hf : h.fits s L x = true) : OkL h s ok N (L ++ [(x : Int)]) := by
  constructor
  · intro k hk hok
    rw [getD_app]
    by_cases c : k < L.length
    · rw [if_pos c]
      exact H.yes k c hok
    · rw [if_neg c, if_pos (by simp at hk; omega)]
      omega
  · intro k hk hok
    rw [getD_app]
    by_cases c : k < L.length
    · rw [if_pos c]
      exact H.no k c hok
    · have : k = L.length := by simp at hk; omega
      rw [this, ho] at hok
      cases hok
  · intro i k hik hk hok e
    rw [getD_app, getD_app] at e
    by_cases c : k < L.length
    · rw [if_pos c, if_pos (by omega)] at e
      exact H.right i k hik c hok e
    · have hkl : k = L.length := by simp at hk; omega
      rw [if_pos (by omega), if_neg c, if_pos hkl] at e
      rw [hkl]
      exact fits_iff.1 hf i (by omega) e
theorem OkL.no_app {h : HD} {s : Bool} {ok : Nat → Bool} {N : Nat} {L : List Int} (H : OkL h s ok N L) (ho : ok L.length = false) : OkL h s ok N (L ++ [-1]) := by
  constructor
  · intro k hk hok
    rw [getD_app]
    by_cases c : k < L.length
    · rw [if_pos c]
      exact H.yes k c hok
    · have : k = L.length := by simp at hk; omega
      rw [this, ho] at hok
      cases hok
  · intro k hk hok
    rw [getD_app]
    by_cases c : k < L.length
    · rw [if_pos c]
      exact H.no k c hok
    · rw [if_neg c, if_pos (by simp at hk; omega)]
  · intro i k hik hk hok e
    by_cases c : k < L.length
    · rw [getD_app, getD_app, if_pos c, if_pos (by omega)] at e
      exact H.right i k hik c hok e
    · have hkl : k = L.length := by simp at hk; omega
      rw [hkl, ho] at hok
      cases hok
theorem OkL.nil {h : HD} {s : Bool} {ok : Nat → Bool} {N : Nat} : OkL h s ok N [] := ⟨fun k hk => by simp at hk, fun k hk => by simp at hk, fun i k _ hk => by simp at hk⟩
theorem ways_sub {h : HD} {s : Bool} {ok : Nat → Bool} {N : Nat} : ∀ (r : Nat) (L : List Int), OkL h s ok N L → ∀ M, M ∈ h.ways s ok N r L → OkL h s ok N M ∧ M.length = L.length + r ∧ M.take L.length = L
  | 0, L, H, M, hM => by
    simp only [ways, List.mem_singleton] at hM
    rw [hM]
    exact ⟨H, rfl, List.take_length⟩
  | r + 1, L, H, M, hM => by
    have key : ∀ (y : Int), OkL h s ok N (L ++ [y]) → M ∈ h.ways s ok N r (L ++ [y]) → OkL h s ok N M ∧ M.length = L.length + (r + 1) ∧ M.take L.length = L := fun y hy hm => by
      obtain ⟨a, b, c⟩ := ways_sub r (L ++ [y]) hy M hm
      refine ⟨a, by rw [b]; simp; omega, ?_⟩
      have e := congrArg (List.take L.length) c
      rw [List.take_take] at e
      simpa using e
    unfold ways at hM
    split at hM
    · rename_i ho
      rw [List.mem_flatMap] at hM
      obtain ⟨x, hx, hm⟩ := hM
      split at hm
      · rename_i hf
        exact key x (H.yes_app ho (List.mem_range.1 hx) hf) hm
      · cases hm
    · rename_i ho
      exact key (-1) (H.no_app ho) hM
theorem take_app {M L : List Int} (h1 : M.take L.length = L) (h2 : L.length < M.length) : M.take (L ++ [M.getD L.length 0]).length = L ++ [M.getD L.length 0] := by
  rw [List.length_append, List.length_singleton, List.take_add_one, h1]
  congr 1
  rw [List.getElem?_eq_getElem h2, List.getD_eq_getElem?_getD, List.getElem?_eq_getElem h2]
  rfl
theorem ways_all {h : HD} {s : Bool} {ok : Nat → Bool} {N : Nat} {M : List Int} (H : OkL h s ok N M) : ∀ (r : Nat) (L : List Int), M.length = L.length + r → M.take L.length = L → M ∈ h.ways s ok N r L
  | 0, L, h1, h2 => by
    rw [← h1.trans (Nat.add_zero _), List.take_length] at h2
    rw [h2]
    simp [ways]
  | r + 1, L, h1, h2 => by
    have h3 := take_app h2 (by omega)
    have ih := ways_all H r (L ++ [M.getD L.length 0]) (by simp; omega) h3
    have gd : ∀ k, k < L.length → L.getD k 0 = M.getD k 0 := fun k hk => by
      rw [← h2]
      simp [List.getD_eq_getElem?_getD, List.getElem?_take]
      rw [if_pos (by omega)]
    unfold ways
    split
    · rename_i ho
      have a := H.yes L.length (by omega) ho
      rw [List.mem_flatMap]
      refine ⟨(M.getD L.length 0).toNat, List.mem_range.2 (by omega), ?_⟩
      have e : (((M.getD L.length 0).toNat : Nat) : Int) = M.getD L.length 0 := by omega
      rw [e]
      have hf : h.fits s L (M.getD L.length 0) = true := fits_iff.2 fun k hk e2 => by
        rw [gd k hk] at e2
        exact H.right k L.length hk (by omega) ho e2
      rw [hf]
      exact ih
    · rename_i ho
      rw [H.no L.length (by omega) ho] at ih
      exact ih
def full : Nat → Bool := fun _ => true
/-- The fewest horses, and the first plan. -/
def few (h : HD) (s : Bool) : Nat := h.need s full
def plan (h : HD) (s : Bool) : List Int := (h.ways s full (h.few s) h.n []).headD []
def ofP (n : Nat) (p : Nat → Int) : List Int := (List.range n).map p
theorem ofP_get {n : Nat} {p : Nat → Int} {k : Nat} (hk : k < n) : (ofP n p).getD k 0 = p k := by
  simp [ofP, List.getD_eq_getElem?_getD, hk]
theorem ofP_len (n : Nat) (p : Nat → Int) : (ofP n p).length = n := by simp [ofP]
theorem ways_ne {h : HD} (hv : h.Valid) (s : Bool) (ok : Nat → Bool) (N : Nat) : h.ways s ok N h.n [] ≠ [] ↔ h.need s ok ≤ N := by
  constructor
  · intro hne
    cases hw : h.ways s ok N h.n [] with
    | nil => exact absurd hw hne
    | cons M ws =>
      obtain ⟨H, hl, _⟩ := ways_sub h.n [] OkL.nil M (by rw [hw]; simp)
      simp only [List.length_nil, Nat.zero_add] at hl
      refine need_le hv (p := fun i => M.getD i 0) (fun i k hi hk oi ok' hne e => ?_) (fun i hi oi => H.yes i (by omega) oi)
      rcases Nat.lt_or_gt_of_ne hne with c | c
      · rw [apart_comm]
        exact H.right i k c (by omega) ok' e
      · exact H.right k i c (by omega) oi e.symm
  · intro hN hw
    obtain ⟨p, h1, h2⟩ := need_plan hv s ok
    have : ofP h.n (fun i => match ok i with | true => p i | false => -1) ∈ h.ways s ok N h.n [] := by
      refine ways_all ⟨fun k hk oi => ?_, fun k hk oi => ?_, fun i k hik hk ok' e => ?_⟩ h.n [] (by simp [ofP]) rfl
      · rw [ofP_len] at hk
        rw [ofP_get hk, oi]
        have := h1 k hk oi
        simp only
        omega
      · rw [ofP_len] at hk
        rw [ofP_get hk, oi]
      · rw [ofP_len] at hk
        rw [ofP_get hk, ofP_get (by omega), ok'] at e
        have a := h1 k hk ok'
        cases oi : ok i with
        | true =>
          rw [oi] at e
          rw [apart_comm]
          exact h2 i k (by omega) hk oi ok' (by omega) e
        | false =>
          rw [oi] at e
          simp only at e
          omega
    rw [hw] at this
    cases this
end HD
end Kuhn
/-
  Plain law of horses, part 6.
-/
namespace Kuhn
set_option linter.unusedVariables false

/-! ### Sets of moves, by size -/
def pop (S : Nat) : Nat := cnt (fun i => S.testBit i) 7
def setsL (up : Bool) (n : Nat) : List Nat := (List.range (n + 1)).flatMap fun i => (List.range (2 ^ n)).filter fun S => decide (pop S = match up with | true => i | false => n - i)
/-- Which one comes first. -/
def Prior (up : Bool) (S T : Nat) : Prop := (match up with | true => pop S < pop T | false => pop T < pop S) ∨ pop S = pop T ∧ S < T
theorem find_least {α : Type} {R : α → α → Prop} {P : α → Bool} {S T : α} : ∀ {l : List α}, l.Pairwise R → l.find? P = some S → T ∈ l → P T = true → S = T ∨ R S T
  | [], _, h, _, _ => by simp at h
  | x :: l, hp, h, hT, hP => by
    rw [List.pairwise_cons] at hp
    rw [List.find?_cons] at h
    split at h
    · cases h
      rcases List.mem_cons.1 hT with h1 | h1
      · exact .inl h1.symm
      · exact .inr (hp.1 T h1)
    · rename_i hx
      rcases List.mem_cons.1 hT with h1 | h1
      · subst h1
        rw [hP] at hx
        simp at hx
      · exact find_least hp.2 h h1 hP
theorem setsL_pair (up : Bool) (n : Nat) : (setsL up n).Pairwise (Prior up) := by
  unfold setsL
  rw [List.pairwise_flatMap]
  constructor
  · intro i _
    refine (List.Pairwise.filter _ List.pairwise_lt_range).imp_of_mem ?_
    intro S T hS hT h
    simp only [List.mem_filter, decide_eq_true_eq] at hS hT
    exact .inr ⟨hS.2.trans hT.2.symm, h⟩
  · refine List.pairwise_lt_range.imp_of_mem ?_
    intro i j hi hj h S hS T hT
    simp only [List.mem_filter, decide_eq_true_eq] at hS hT
    rw [List.mem_range] at hi hj
    left
    cases up <;> simp only at hS hT ⊢ <;> omega
theorem cnt_bnd (p : Nat → Bool) : ∀ m, cnt p m ≤ m
  | 0 => Nat.le_refl _
  | m + 1 => by
    have := cnt_bnd p m
    rw [cnt]
    split <;> omega
theorem cnt_cut {p : Nat → Bool} {n : Nat} (h : ∀ i, n ≤ i → p i = false) : ∀ m, cnt p (n + m) = cnt p n
  | 0 => rfl
  | m + 1 => by
    rw [← Nat.add_assoc, cnt, cnt_cut h m, h (n + m) (by omega)]
    simp
theorem pop_le {S n : Nat} (hn : n ≤ 7) (h : S < 2 ^ n) : pop S ≤ n := by
  have e : pop S = cnt (fun i => S.testBit i) n := by
    have := cnt_cut (p := fun i => S.testBit i) (n := n) (fun i hi => Nat.testBit_lt_two_pow (Nat.lt_of_lt_of_le h (Nat.pow_le_pow_right (by omega) hi))) (7 - n)
    rw [show n + (7 - n) = 7 by omega] at this
    exact this
  rw [e]
  exact cnt_bnd _ _
theorem mem_setsL {up : Bool} {S n : Nat} (hn : n ≤ 7) : S ∈ setsL up n ↔ S < 2 ^ n := by
  unfold setsL
  rw [List.mem_flatMap]
  constructor
  · rintro ⟨i, _, h⟩
    exact List.mem_range.1 (List.mem_filter.1 h).1
  · intro h
    have := pop_le hn h
    refine ⟨match up with | true => pop S | false => n - pop S, List.mem_range.2 ?_, List.mem_filter.2 ⟨List.mem_range.2 h, ?_⟩⟩
    · cases up <;> simp only <;> omega
    · cases up <;> simp only [decide_eq_true_eq]
      omega
/-- The first set of which something is so. -/
theorem first_set {up : Bool} {P : Nat → Bool} {n S : Nat} (hn : n ≤ 7) (h : (setsL up n).find? P = some S) : S < 2 ^ n ∧ P S = true ∧ ∀ T, T < 2 ^ n → P T = true → S = T ∨ Prior up S T :=
  ⟨(mem_setsL hn).1 (List.mem_of_find?_eq_some h), List.find?_some h, fun T hT hP => find_least (setsL_pair up n) h ((mem_setsL hn).2 hT) hP⟩
theorem first_ex {up : Bool} {P : Nat → Bool} {n T : Nat} (hn : n ≤ 7) (hT : T < 2 ^ n) (hP : P T = true) : ∃ S, (setsL up n).find? P = some S := by
  cases h : (setsL up n).find? P with
  | some S => exact ⟨S, rfl⟩
  | none =>
    have := List.find?_eq_none.1 h T ((mem_setsL hn).2 hT)
    exact absurd hP this
end Kuhn
/-
  Plain law of horses, part 7.
-/
namespace Kuhn
set_option linter.unusedVariables false

/-! ### Moves in the order in which they should begin -/
def befo (K : Nat → Int) (a b : Nat) : Prop := K a < K b ∨ K a = K b ∧ a < b
def swp (o : Nat → Nat) (j : Nat) : Nat → Nat := fun k => if k = j then o (j - 1) else if k = j - 1 then o j else o k
def insF (lt : Nat → Nat → Bool) : Nat → (Nat → Nat) → (Nat → Nat)
  | 0, o => o
  | j + 1, o => match lt (o (j + 1)) (o j) with
    | true => insF lt j (swp o (j + 1))
    | false => o
def ltK (K : Nat → Int) (a b : Nat) : Bool := decide (K a < K b)
def srtF (K : Nat → Int) : Nat → (Nat → Nat)
  | 0 => id
  | i + 1 => insF (ltK K) i (srtF K i)
theorem insF_ok {K : Nat → Int} {x i : Nat} : ∀ (j : Nat) (o : Nat → Nat), j ≤ i → o j = x → (∀ a b, a < b → b ≤ i → a ≠ j → b ≠ j → befo K (o a) (o b)) → (∀ b, j < b → b ≤ i → befo K x (o b)) → (∀ a, a ≤ i → a ≠ j → o a < x) →
    (∀ a b, a < b → b ≤ i → befo K (insF (ltK K) j o a) (insF (ltK K) j o b)) ∧ (∀ k, i < k → insF (ltK K) j o k = o k) ∧ ∀ y, (∃ k, k ≤ i ∧ insF (ltK K) j o k = y) ↔ ∃ k, k ≤ i ∧ o k = y
  | 0, o, _, hx, h1, h2, h3 => by
    refine ⟨fun a b hab hb => ?_, fun _ _ => rfl, fun _ => Iff.rfl⟩
    simp only [insF]
    by_cases ha : a = 0
    · subst ha
      rw [hx]
      exact h2 b hab hb
    · exact h1 a b hab hb ha (by omega)
  | j + 1, o, hj, hx, h1, h2, h3 => by
    cases hlt : ltK K (o (j + 1)) (o j) with
    | true =>
      have ei : insF (ltK K) (j + 1) o = insF (ltK K) j (swp o (j + 1)) := by simp only [insF, hlt]
      rw [ei]
      simp only [ltK, decide_eq_true_eq, hx] at hlt
      have e1 : swp o (j + 1) (j + 1) = o j := by simp [swp]
      have e2 : swp o (j + 1) j = x := by
        simp only [swp, if_neg (show ¬ j = j + 1 by omega), Nat.add_sub_cancel, if_true]
        exact hx
      have e3 : ∀ k, k ≠ j → k ≠ j + 1 → swp o (j + 1) k = o k := fun k a b => by
        simp only [swp, if_neg b, Nat.add_sub_cancel, if_neg a]
      obtain ⟨r1, r2, r3⟩ := insF_ok (K := K) (x := x) (i := i) j (swp o (j + 1)) (by omega) e2 (fun a b hab hb ha hb2 => by
        by_cases c1 : a = j + 1
        · subst c1
          rw [e1, e3 b hb2 (by omega)]
          exact h1 j b (by omega) hb (by omega) (by omega)
        · rw [e3 a ha c1]
          by_cases c2 : b = j + 1
          · subst c2
            rw [e1]
            exact h1 a j (by omega) (by omega) c1 (by omega)
          · rw [e3 b hb2 c2]
            exact h1 a b hab hb c1 c2) (fun b hb hb2 => by
        by_cases c : b = j + 1
        · subst c
          rw [e1]
          exact .inl hlt
        · rw [e3 b (by omega) c]
          exact h2 b (by omega) hb2) (fun a ha haj => by
        by_cases c : a = j + 1
        · subst c
          rw [e1]
          exact h3 j (by omega) (by omega)
        · rw [e3 a haj c]
          exact h3 a ha c)
      refine ⟨r1, fun k hk => ?_, fun y => (r3 y).trans ?_⟩
      · rw [r2 k hk, e3 k (by omega) (by omega)]
      · constructor
        · rintro ⟨k, hk, e⟩
          by_cases c : k = j
          · subst c
            rw [e2] at e
            exact ⟨k + 1, hj, by rw [hx]; exact e⟩
          · by_cases c2 : k = j + 1
            · subst c2
              rw [e1] at e
              exact ⟨j, by omega, e⟩
            · rw [e3 k c c2] at e
              exact ⟨k, hk, e⟩
        · rintro ⟨k, hk, e⟩
          by_cases c : k = j
          · subst c
            exact ⟨k + 1, hj, by rw [e1]; exact e⟩
          · by_cases c2 : k = j + 1
            · subst c2
              rw [hx] at e
              exact ⟨j, by omega, by rw [e2]; exact e⟩
            · exact ⟨k, hk, by rw [e3 k c c2]; exact e⟩
    | false =>
      have ei : insF (ltK K) (j + 1) o = o := by simp only [insF, hlt]
      rw [ei]
      simp only [ltK, decide_eq_false_iff_not, hx] at hlt
      refine ⟨fun a b hab hb => ?_, fun _ _ => rfl, fun _ => Iff.rfl⟩
      by_cases c1 : a = j + 1
      · subst c1
        rw [hx]
        exact h2 b hab hb
      · by_cases c2 : b = j + 1
        · subst c2
          rw [hx]
          have h4 := h3 a (by omega) c1
          have h5 : K (o a) ≤ K (o j) := by
            by_cases c3 : a = j
            · rw [c3]
              exact Int.le_refl _
            · rcases h1 a j (by omega) (by omega) c1 (by omega) with h | h <;> omega
          by_cases c4 : K (o a) < K x
          · exact .inl c4
          · exact .inr ⟨by omega, h4⟩
        · exact h1 a b hab hb c1 c2
theorem srtF_ok (K : Nat → Int) : ∀ i, (∀ a b, a < b → b < i → befo K (srtF K i a) (srtF K i b)) ∧ (∀ k, i ≤ k → srtF K i k = k) ∧ ∀ y, (∃ k, k < i ∧ srtF K i k = y) ↔ y < i
  | 0 => ⟨fun a b _ h => by omega, fun _ _ => rfl, fun y => ⟨fun ⟨k, h, _⟩ => by omega, fun h => by omega⟩⟩
  | i + 1 => by
    obtain ⟨h1, h2, h3⟩ := srtF_ok K i
    obtain ⟨r1, r2, r3⟩ := insF_ok (K := K) (x := i) (i := i) i (srtF K i) (Nat.le_refl i) (h2 i (Nat.le_refl i)) (fun a b hab hb _ hb2 => h1 a b hab (by omega)) (fun b hb hb2 => by omega) (fun a ha hai => (h3 _).1 ⟨a, by omega, rfl⟩)
    refine ⟨fun a b hab hb => r1 a b hab (by omega), fun k hk => (r2 k (by omega)).trans (h2 k (by omega)), fun y => ⟨fun ⟨k, hk, e⟩ => ?_, fun hy => ?_⟩⟩
    · obtain ⟨k2, h4, h5⟩ := (r3 y).1 ⟨k, by omega, e⟩
      by_cases c : k2 = i
      · rw [c, h2 i (Nat.le_refl i)] at h5
        omega
      · have := (h3 y).1 ⟨k2, by omega, h5⟩
        omega
    · have : ∃ k, k ≤ i ∧ srtF K i k = y := by
        by_cases c : y = i
        · exact ⟨i, Nat.le_refl i, by rw [h2 i (Nat.le_refl i), c]⟩
        · obtain ⟨k, h4, h5⟩ := (h3 y).2 (by omega)
          exact ⟨k, by omega, h5⟩
      obtain ⟨k, h4, h5⟩ := (r3 y).2 this
      exact ⟨k, by omega, h5⟩

/-! ### When each begins -/
theorem befo_irr {K : Nat → Int} {a : Nat} (h : befo K a a) : False := by
  rcases h with h | h <;> omega
theorem befo_tr {K : Nat → Int} {a b c : Nat} (h : befo K a b) (h' : befo K b c) : befo K a c := by
  unfold befo at *
  omega
/-- The last one that was done of a horse. -/
def lastI (p : Nat → Int) (o : Nat → Nat) : Nat → Int → Option Nat
  | 0, _ => none
  | j + 1, x => if p (o j) = x then some j else lastI p o j x
theorem lastI_ok (p : Nat → Int) (o : Nat → Nat) (x : Int) : ∀ j, (lastI p o j x = none ∧ ∀ i, i < j → p (o i) ≠ x) ∨ ∃ i, lastI p o j x = some i ∧ i < j ∧ p (o i) = x ∧ ∀ i', i < i' → i' < j → p (o i') ≠ x
  | 0 => .inl ⟨rfl, fun i h => by omega⟩
  | j + 1 => by
    by_cases c : p (o j) = x
    · exact .inr ⟨j, by simp [lastI, c], by omega, c, fun i' h1 h2 => by omega⟩
    · have e : lastI p o (j + 1) x = lastI p o j x := by simp [lastI, c]
      rw [e]
      rcases lastI_ok p o x j with ⟨h1, h2⟩ | ⟨i, h1, h2, h3, h4⟩
      · refine .inl ⟨h1, fun i hi => ?_⟩
        by_cases c2 : i = j
        · rw [c2]; exact c
        · exact h2 i (by omega)
      · refine .inr ⟨i, h1, by omega, h3, fun i' h5 h6 => ?_⟩
        by_cases c2 : i' = j
        · rw [c2]; exact c
        · exact h4 i' h5 (by omega)
/-- When each of the first ones begins. -/
def tmS (K p : Nat → Int) (th : Int → Nat → Nat → Int) (o : Nat → Nat) : Nat → (Nat → Int)
  | 0 => fun _ => 0
  | j + 1 => fun k => if k = o j then (match lastI p o j (p (o j)) with | none => K (o j) | some i => max (K (o j)) (th (tmS K p th o j (o i)) (o i) (o j))) else tmS K p th o j k
theorem tmS_succ {K p : Nat → Int} {th : Int → Nat → Nat → Int} {o : Nat → Nat} {j k : Nat} : tmS K p th o (j + 1) k = if k = o j then (match lastI p o j (p (o j)) with | none => K (o j) | some i => max (K (o j)) (th (tmS K p th o j (o i)) (o i) (o j))) else tmS K p th o j k := rfl
theorem tmS_keep {K p : Nat → Int} {th : Int → Nat → Nat → Int} {o : Nat → Nat} {i : Nat} : ∀ {j : Nat}, i < j → (∀ i', i < i' → i' < j → o i' ≠ o i) → tmS K p th o j (o i) = tmS K p th o (i + 1) (o i)
  | 0, h, _ => by omega
  | j + 1, h, hd => by
    by_cases c : i = j
    · rw [c]
    · have := hd j (by omega) (by omega)
      rw [tmS_succ, if_neg (fun e : o i = o j => this e.symm)]
      exact tmS_keep (j := j) (by omega) fun i' h1 h2 => hd i' h1 (by omega)
end Kuhn
/-
  Plain law of horses, part 8.
-/
namespace Kuhn
set_option linter.unusedVariables false

/-! ### Sets as numbers -/
def maskO (f : Nat → Bool) : Nat → Nat
  | 0 => 0
  | k + 1 => match f k with
    | true => maskO f k ||| 2 ^ k
    | false => maskO f k
theorem maskO_bit (f : Nat → Bool) (i : Nat) : ∀ n, (maskO f n).testBit i = (decide (i < n) && f i)
  | 0 => by simp [maskO]
  | n + 1 => by
    have ih := maskO_bit f i n
    by_cases c : i = n
    · subst c
      cases h : f i <;> simp [maskO, h, ih, Nat.testBit_or, Nat.testBit_two_pow_self]
    · have e : (i < n + 1) ↔ (i < n) := by omega
      cases h : f n
      · simp only [maskO, h, ih, e]
      · simp only [maskO, h, Nat.testBit_or, ih, e]
        rw [Nat.testBit_two_pow_of_ne (by omega)]
        simp
theorem maskO_lt (f : Nat → Bool) (n : Nat) : maskO f n < 2 ^ n :=
  Nat.lt_pow_two_of_testBit _ fun i hi => by
    rw [maskO_bit, decide_eq_false (by omega)]
    rfl
/-- Which moves can follow a move, as a number. -/
def HD.ch (h : HD) (s : Bool) (i : Nat) : Nat := match decide (i < h.n) with
  | true => maskO (fun k => h.can s i k) h.n
  | false => 0
theorem HD.ch_bit (h : HD) (s : Bool) (i k : Nat) : (h.ch s i).testBit k = (decide (i < h.n) && (decide (k < h.n) && h.can s i k)) := by
  unfold HD.ch
  cases decide (i < h.n) with
  | true => simp [maskO_bit]
  | false => simp
theorem HD.ch_lt {h : HD} (hn : h.n ≤ 7) (s : Bool) (i : Nat) : h.ch s i < 128 := by
  unfold HD.ch
  cases decide (i < h.n) with
  | true => exact Nat.lt_of_lt_of_le (maskO_lt _ _) (Nat.pow_le_pow_right (n := 2) (by omega) hn)
  | false => exact (by decide : (0 : Nat) < 128)
def HD.every (h : HD) : Nat := 2 ^ h.n - 1
theorem HD.every_bit (h : HD) (i : Nat) : h.every.testBit i = decide (i < h.n) := Nat.testBit_two_pow_sub_one h.n i
theorem HD.every_lt {h : HD} (hn : h.n ≤ 7) : h.every < 128 := by
  have : 2 ^ h.n ≤ 2 ^ 7 := Nat.pow_le_pow_right (by omega) hn
  have := Nat.pow_pos (n := h.n) (show 0 < 2 by omega)
  unfold HD.every
  omega

/-! ### Matching, on what the program keeps -/
abbrev PS := Nat × List (Int × Int)
def fget : List (Int × Int) → Int → Option Int
  | [], _ => none
  | (a, b) :: l, k => if a = k then some b else fget l k
def fset : List (Int × Int) → Int → Int → List (Int × Int)
  | [], k, v => [(k, v)]
  | (a, b) :: l, k, v => if a = k then (k, v) :: l else (a, b) :: fset l k v
theorem fget_set (l : List (Int × Int)) (k v r : Int) : fget (fset l k v) r = if r = k then some v else fget l r := by
  induction l with
  | nil =>
    simp only [fset, fget]
    by_cases h : r = k
    · rw [if_pos h, if_pos h.symm]
    · rw [if_neg h, if_neg (fun e => h e.symm)]
  | cons p l ih =>
    obtain ⟨a, b⟩ := p
    simp only [fset]
    by_cases h : a = k
    · rw [if_pos h]
      simp only [fget]
      by_cases h2 : r = k
      · rw [if_pos h2, if_pos h2.symm]
      · rw [if_neg h2, if_neg (fun e => h2 e.symm), if_neg (fun e => h2 (e.symm.trans h))]
    · rw [if_neg h]
      simp only [fget, ih]
      by_cases h2 : a = r
      · rw [if_pos h2, if_pos h2, if_neg (fun e => h (h2.trans e))]
      · rw [if_neg h2, if_neg h2]
/-- Keys are different, and less than 7; elements, too, are. -/
structure FOk (l : List (Int × Int)) : Prop where
  key : ∀ p ∈ l, 0 ≤ p.1 ∧ p.1 < 7
  val : ∀ p ∈ l, 0 ≤ p.2 ∧ p.2 < 7
  nod : (l.map (·.1)).Nodup
theorem fset_mem {l : List (Int × Int)} {k v : Int} {p : Int × Int} (h : p ∈ fset l k v) : p = (k, v) ∨ p ∈ l := by
  induction l with
  | nil => simp [fset] at h; exact .inl h
  | cons q l ih =>
    obtain ⟨a, b⟩ := q
    simp only [fset] at h
    by_cases c : a = k
    · rw [if_pos c] at h
      rcases List.mem_cons.1 h with h | h
      · exact .inl h
      · exact .inr (List.mem_cons_of_mem _ h)
    · rw [if_neg c] at h
      rcases List.mem_cons.1 h with h | h
      · exact .inr (h ▸ List.mem_cons_self ..)
      · rcases ih h with h | h
        · exact .inl h
        · exact .inr (List.mem_cons_of_mem _ h)
theorem fset_nod {l : List (Int × Int)} {k v : Int} (h : (l.map (·.1)).Nodup) : ((fset l k v).map (·.1)).Nodup := by
  induction l with
  | nil => simp [fset]
  | cons q l ih =>
    obtain ⟨a, b⟩ := q
    simp only [List.map_cons, List.nodup_cons] at h
    simp only [fset]
    by_cases c : a = k
    · rw [if_pos c]
      simp only [List.map_cons, List.nodup_cons]
      exact ⟨c ▸ h.1, h.2⟩
    · rw [if_neg c]
      simp only [List.map_cons, List.nodup_cons]
      refine ⟨fun hm => ?_, ih h.2⟩
      obtain ⟨p, hp, e⟩ := List.mem_map.1 hm
      rcases fset_mem hp with h1 | h1
      · rw [h1] at e
        exact c e.symm
      · exact h.1 (List.mem_map.2 ⟨p, h1, e⟩)
theorem FOk.set {l : List (Int × Int)} (h : FOk l) {k v : Int} (hk : 0 ≤ k ∧ k < 7) (hv : 0 ≤ v ∧ v < 7) : FOk (fset l k v) :=
  ⟨fun p hp => by
    rcases fset_mem hp with h1 | h1
    · rw [h1]; exact hk
    · exact h.key p h1, fun p hp => by
    rcases fset_mem hp with h1 | h1
    · rw [h1]; exact hv
    · exact h.val p h1, fset_nod h.nod⟩
theorem fget_mem {l : List (Int × Int)} {k v : Int} (h : fget l k = some v) : (k, v) ∈ l := by
  induction l with
  | nil => simp [fget] at h
  | cons q l ih =>
    obtain ⟨a, b⟩ := q
    simp only [fget] at h
    by_cases c : a = k
    · rw [if_pos c] at h
      cases h
      rw [c]
      exact List.mem_cons_self ..
    · rw [if_neg c] at h
      exact List.mem_cons_of_mem _ (ih h)
def scanP (m : Nat → PS → Bool × PS) (A : Nat → Nat → Bool) (i : Nat) : Nat → Nat → PS → Bool × PS
  | 0, _, s => (false, s)
  | c + 1, k, s =>
    if (!A i k || s.1.testBit k) = true then scanP m A i c (k + 1) s
    else match fget s.2 k with
      | none => (true, (s.1 ||| 2 ^ k, fset s.2 k i))
      | some j => match m j.toNat (s.1 ||| 2 ^ k, s.2) with
        | (true, s2) => (true, (s2.1, fset s2.2 k i))
        | (false, s2) => scanP m A i c (k + 1) s2
def goP (A : Nat → Nat → Bool) : Nat → Nat → PS → Bool × PS
  | 0 => fun _ s => (false, s)
  | f + 1 => fun i s => scanP (goP A f) A i 7 0 s
def stP (s : PS) : St := ⟨fun r => s.1.testBit r, fun r => (fget s.2 r).map fun v => v.toNat⟩
theorem stP_mark (s : PS) (k : Nat) : stP (s.1 ||| 2 ^ k, s.2) = (stP s).mark k := by
  simp only [stP, St.mark, St.mk.injEq, and_true]
  funext r
  rw [Nat.testBit_or]
  by_cases h : r = k
  · subst h
    simp [Nat.testBit_two_pow_self]
  · rw [Nat.testBit_two_pow_of_ne (fun e => h e.symm), decide_eq_false h]
    simp
theorem stP_put (s : PS) (k i : Nat) : stP (s.1, fset s.2 k i) = (stP s).put k i := by
  simp only [stP, St.put, St.mk.injEq, true_and]
  funext r
  rw [fget_set]
  by_cases h : r = k
  · rw [if_pos h, if_pos (by omega)]
    simp
  · rw [if_neg h, if_neg (by omega)]
theorem scanP_ok {m : Nat → PS → Bool × PS} {m' : Nat → St → Bool × St} {A : Nat → Nat → Bool} {i : Nat} (hm : ∀ j s, m' j (stP s) = ((m j s).1, stP (m j s).2)) :
    ∀ (c k : Nat) (s : PS), scan m' A i c k (stP s) = ((scanP m A i c k s).1, stP (scanP m A i c k s).2)
  | 0, _, _ => rfl
  | c + 1, k, s => by
    unfold scan scanP
    have e : (stP s).seen k = s.1.testBit k := rfl
    rw [e]
    by_cases h : (!A i k || s.1.testBit k) = true
    · rw [if_pos h, if_pos h]
      exact scanP_ok hm c (k + 1) s
    · rw [if_neg h, if_neg h]
      have e2 : (stP s).fol k = (fget s.2 k).map fun v => v.toNat := rfl
      rw [e2]
      cases hg : fget s.2 k with
      | none =>
        simp only [Option.map_none]
        rw [stP_put (s.1 ||| 2 ^ k, s.2) k i, stP_mark]
      | some j =>
        simp only [Option.map_some]
        rw [← stP_mark, hm]
        cases hr : m j.toNat (s.1 ||| 2 ^ k, s.2) with
        | mk b s2 =>
          cases b with
          | true =>
            simp only
            rw [stP_put s2 k i]
          | false => exact scanP_ok hm c (k + 1) s2
theorem goP_ok (A : Nat → Nat → Bool) : ∀ (f i : Nat) (s : PS), go A 7 f i (stP s) = ((goP A f i s).1, stP (goP A f i s).2)
  | 0, _, _ => rfl
  | f + 1, i, s => scanP_ok (fun j s => goP_ok A f j s) 7 0 s
/-- All of them, one after the other. -/
def allP (A : Nat → Nat → Bool) (ok : Nat → Bool) : Nat → List (Int × Int)
  | 0 => []
  | i + 1 => match ok i with
    | true => (goP A 8 i (0, allP A ok i)).2.2
    | false => allP A ok i
theorem allP_ok (A : Nat → Nat → Bool) (ok : Nat → Bool) : ∀ i, (stP (0, allP A ok i)).fol = all A 7 ok i
  | 0 => rfl
  | i + 1 => by
    have ih := allP_ok A ok i
    unfold allP all
    cases h : ok i with
    | false => simpa using ih
    | true =>
      rw [if_pos rfl]
      have e : (⟨fun _ => false, all A 7 ok i⟩ : St) = stP (0, allP A ok i) := by
        rw [← ih]
        simp [stP]
      rw [e, goP_ok]
      rfl
theorem scanP_inv {m : Nat → PS → Bool × PS} {A : Nat → Nat → Bool} {i : Nat} (hi : i < 7) (hm : ∀ j s, j < 7 → s.1 < 128 → FOk s.2 → (m j s).2.1 < 128 ∧ FOk (m j s).2.2 ∧ ∀ r, s.1.testBit r = true → (m j s).2.1.testBit r = true) :
    ∀ (c k : Nat) (s : PS), k + c = 7 → s.1 < 128 → FOk s.2 → (scanP m A i c k s).2.1 < 128 ∧ FOk (scanP m A i c k s).2.2 ∧ ∀ r, s.1.testBit r = true → (scanP m A i c k s).2.1.testBit r = true
  | 0, _, s, _, h1, h2 => ⟨h1, h2, fun _ h => h⟩
  | c + 1, k, s, hk, h1, h2 => by
    have hmk : s.1 ||| 2 ^ k < 128 := Nat.or_lt_two_pow (n := 7) h1 (Nat.pow_lt_pow_right (by omega) (by omega))
    have hsub : ∀ r, s.1.testBit r = true → (s.1 ||| 2 ^ k).testBit r = true := fun r h => by rw [Nat.testBit_or, h]; rfl
    unfold scanP
    split
    · exact scanP_inv hi hm c (k + 1) s (by omega) h1 h2
    · split
      · exact ⟨hmk, h2.set ⟨by omega, by omega⟩ ⟨by omega, by omega⟩, hsub⟩
      · rename_i j hj
        have hv := h2.val _ (fget_mem hj)
        simp only at hv
        have H := hm j.toNat (s.1 ||| 2 ^ k, s.2) (by omega) hmk h2
        cases hr : m j.toNat (s.1 ||| 2 ^ k, s.2) with
        | mk b s2 =>
          rw [hr] at H
          cases b with
          | true => exact ⟨H.1, H.2.1.set ⟨by omega, by omega⟩ ⟨by omega, by omega⟩, fun r h => H.2.2 r (hsub r h)⟩
          | false =>
            have R := scanP_inv (A := A) hi hm c (k + 1) s2 (by omega) H.1 H.2.1
            exact ⟨R.1, R.2.1, fun r h => R.2.2 r (H.2.2 r (hsub r h))⟩
theorem goP_inv (A : Nat → Nat → Bool) : ∀ (f i : Nat) (s : PS), i < 7 → s.1 < 128 → FOk s.2 → (goP A f i s).2.1 < 128 ∧ FOk (goP A f i s).2.2 ∧ ∀ r, s.1.testBit r = true → (goP A f i s).2.1.testBit r = true
  | 0, _, s, _, h1, h2 => ⟨h1, h2, fun _ h => h⟩
  | f + 1, i, s, hi, h1, h2 => scanP_inv hi (fun j s hj h1 h2 => goP_inv A f j s hj h1 h2) 7 0 s rfl h1 h2
theorem allP_inv (A : Nat → Nat → Bool) (ok : Nat → Bool) : ∀ i, i ≤ 7 → FOk (allP A ok i)
  | 0, _ => ⟨fun p hp => absurd hp (List.not_mem_nil), fun p hp => absurd hp (List.not_mem_nil), List.nodup_nil⟩
  | i + 1, hi => by
    have ih := allP_inv A ok i (by omega)
    unfold allP
    split
    · exact (goP_inv A 8 i (0, allP A ok i) (by omega) (by decide : (0 : Nat) < 128) ih).2.1
    · exact ih
/-- As many keys as there are. -/
theorem fok_len {l : List (Int × Int)} (h : FOk l) : l.length = cnt (fun r => (fget l (r : Nat)).isSome) 7 := by
  have key : ∀ (l : List (Int × Int)), FOk l → l.length = cnt (fun r => (fget l (r : Nat)).isSome) 7 := by
    intro l
    induction l with
    | nil =>
      intro _
      simp [fget, cnt]
    | cons p l ih =>
      intro h
      obtain ⟨a, b⟩ := p
      have hn := h.nod
      simp only [List.map_cons, List.nodup_cons] at hn
      have hl : FOk l := ⟨fun p hp => h.key p (List.mem_cons_of_mem _ hp), fun p hp => h.val p (List.mem_cons_of_mem _ hp), hn.2⟩
      have ha := h.key (a, b) (List.mem_cons_self ..)
      simp only at ha
      have e := ih hl
      have : cnt (fun r => (fget ((a, b) :: l) (r : Nat)).isSome) 7 = cnt (fun r => (fget l (r : Nat)).isSome) 7 + 1 := by
        refine cnt_one (k := a.toNat) (by omega) ?_ ?_ fun r hr => ?_
        · have e2 : ((a.toNat : Nat) : Int) = a := by omega
          cases hg : fget l a with
          | none => simp [e2, hg]
          | some v => exact absurd (List.mem_map.2 ⟨(a, v), fget_mem hg, rfl⟩) hn.1
        · have e2 : ((a.toNat : Nat) : Int) = a := by omega
          simp [e2, fget]
        · have : a ≠ (r : Int) := by omega
          simp [fget, this]
      rw [this, List.length_cons, e]
  exact key l h
/-- What the program counts. -/
theorem HD.need_is {h : HD} (hn : h.n ≤ 7) (s : Bool) {S : Nat} (hS : ∀ i, S.testBit i = true → i < h.n) :
    h.need s (fun i => S.testBit i) = pop S - (allP (fun i k => S.testBit k && (h.ch s i).testBit k) (fun i => S.testBit i) 7).length := by
  have eA : (fun i k => S.testBit k && (h.ch s i).testBit k) = h.adj s (fun i => S.testBit i) := by
    funext a r
    simp only [HD.ch_bit, HD.adj]
    cases decide (a < h.n) <;> cases decide (r < h.n) <;> cases S.testBit r <;> cases h.can s a r <;> rfl
  have eO : h.okN (fun i => S.testBit i) = fun i => S.testBit i := by
    funext i
    unfold HD.okN
    cases c : S.testBit i with
    | true => simp [hS i c, c]
    | false => simp [c]
  rw [fok_len (allP_inv _ _ 7 (Nat.le_refl 7)), eA]
  unfold HD.need
  rw [eO]
  have e := allP_ok (h.adj s (fun i => S.testBit i)) (fun i => S.testBit i) 7
  have e2 : cnt (dom (all (h.adj s fun i => S.testBit i) 7 (fun i => S.testBit i) 7)) 7 = cnt (fun r => (fget (allP (h.adj s fun i => S.testBit i) (fun i => S.testBit i) 7) (r : Nat)).isSome) 7 := by
    refine cnt_congr fun r _ => ?_
    rw [← e]
    simp [dom, stP]
  rw [e2]
  rfl
theorem HD.need_add {h : HD} (hv : h.Valid) (s : Bool) {S : Nat} (hS : ∀ i, S.testBit i = true → i < h.n) :
    pop S = h.need s (fun i => S.testBit i) + (allP (fun i k => S.testBit k && (h.ch s i).testBit k) (fun i => S.testBit i) 7).length := by
  have eA : (fun i k => S.testBit k && (h.ch s i).testBit k) = h.adj s (fun i => S.testBit i) := by
    funext a r
    simp only [HD.ch_bit, HD.adj]
    cases decide (a < h.n) <;> cases decide (r < h.n) <;> cases S.testBit r <;> cases h.can s a r <;> rfl
  have eO : h.okN (fun i => S.testBit i) = fun i => S.testBit i := by
    funext i
    unfold HD.okN
    cases c : S.testBit i with
    | true => simp [hS i c, c]
    | false => simp [c]
  have hl := dom_le (HD.ord hv s (fun i => S.testBit i))
  rw [HD.need_is hv.2.1 s hS, fok_len (allP_inv _ _ 7 (Nat.le_refl 7)), eA]
  rw [eO] at hl
  have e := allP_ok (h.adj s (fun i => S.testBit i)) (fun i => S.testBit i) 7
  have e2 : cnt (dom (all (h.adj s fun i => S.testBit i) 7 (fun i => S.testBit i) 7)) 7 = cnt (fun r => (fget (allP (h.adj s fun i => S.testBit i) (fun i => S.testBit i) 7) (r : Nat)).isSome) 7 := by
    refine cnt_congr fun r _ => ?_
    rw [← e]
    simp [dom, stP]
  rw [e2] at hl
  have : pop S = cnt (fun i => S.testBit i) 7 := rfl
  omega
end Kuhn
/-
  Contracts of the small functions of the horse package.
-/
namespace Go.Proofs.Ytgofhjihkinknaa
open Go Go.Sy Kuhn
set_option linter.unusedSimpArgs false
set_option maxRecDepth 100000
set_option maxHeartbeats 4000000
attribute [local irreducible] CallP CodeP Ent YieldP

theorem inR_iff (n : Int) : InR .i64 n ↔ -9223372036854775808 ≤ n ∧ n ≤ 9223372036854775807 := Iff.rfl
theorem un {P : Prop} {b : Bool} (h : P) : b = true → P := fun _ => h
/-- A number from one to another one. -/
def inB (n lo hi : Int) : Bool := decide (lo ≤ n) && decide (n ≤ hi)
theorem inB_iff {n lo hi : Int} : inB n lo hi = true ↔ lo ≤ n ∧ n ≤ hi := by simp [inB]

theorem t62 (n lo hi : Int) : CallP Try.prog 62 [.int .i64 n, .int .i64 lo, .int .i64 hi] [] (Ret (.bool (inB n lo hi)) []) := by
  refine callR (E := E) E_ok Try.func62 rfl ?_
  refine And.intro ?_ ?_
  · simp [AllP, under, gB, wB, inR_iff, IntKind.bits]
  refine ent_tau [] ⟨trivial, ⟨rfl, congrArg SV.bool ?_, trivial⟩, rfl⟩
  unfold inB
  cases decide (lo ≤ n) <;> rfl
theorem t64 (n lo hi : Int) : CallP Try.prog 64 [.int .i64 n, .int .i64 lo, .int .i64 hi] [] (Ret (.bool (inB n lo hi)) []) := by
  refine callR (E := E) E_ok Try.func64 rfl ?_
  refine And.intro ?_ ?_
  · simp [AllP, under, gB, wB, inR_iff, IntKind.bits]
  refine ent_tau [] ⟨trivial, ⟨rfl, congrArg SV.bool ?_, trivial⟩, rfl⟩
  unfold inB
  cases decide (lo ≤ n) <;> rfl
theorem t80_true (e : Int) : CallP Try.prog 80 [.bool true, .int .i64 e] [] (Ret (.tup []) []) := by
  refine callR (E := E) E_ok Try.func80 rfl ?_
  refine And.intro ?_ (And.intro (fun h => ?_) (fun h => ?_))
  · simp [AllP, under, gB, wB, inR_iff, IntKind.bits]
  · simp at h
  · refine And.intro ?_ ?_
    · simp [AllP, under, gB, wB, inR_iff, IntKind.bits]
    · exact ent_of [] trivial ⟨rfl, rfl, trivial⟩ rfl rfl rfl
theorem t80_false (e : Int) : CallP Try.prog 80 [.bool false, .int .i64 e] [] (Pan (.iface 119 (.int .i64 e)) []) := by
  refine callK (E := E) E_ok Try.func80 rfl ?_
  refine And.intro ?_ (And.intro (fun h => ?_) (fun h => ?_))
  · simp [AllP, under, gB, wB, inR_iff, IntKind.bits]
  · refine And.intro ?_ ⟨.panic (.iface 119 (.int .i64 e)), [], ⟨rfl, rfl⟩, ?_⟩
    · simp [AllP, under, gB, wB, inR_iff, IntKind.bits]
    · exact ent_of [] trivial ⟨rfl, rfl, trivial⟩ rfl rfl rfl
  · simp at h
theorem must {b : Bool} {e : Int} {H : SHeap} {K : CE → SHeap → Prop} (h1 : b = true → fcH H fun H => K (.ret (.tup [])) H) (h2 : b = false → fcH H fun H => K (.panic (.iface 119 (.int .i64 e))) H) :
    CallP Try.prog 80 [.bool b, .int .i64 e] H K := by
  cases b with
  | true =>
    refine CallP.frame (t80_true e) [] trivial (apartB_ok rfl) rfl ?_
    rintro ce h' ⟨rfl, rfl⟩
    have := h1 rfl
    rw [fcH_eq] at this
    exact ⟨ownB_ok rfl, by simpa [updH, putH, newH, renC, ren, renL] using this⟩
  | false =>
    refine CallP.frame (t80_false e) [] trivial (apartB_ok rfl) rfl ?_
    rintro ce h' ⟨rfl, rfl⟩
    have := h2 rfl
    rw [fcH_eq] at this
    exact ⟨ownB_ok rfl, by simpa [updH, putH, newH, renC, ren, renL] using this⟩

/-! ### Sets -/
theorem ofInt_nat (a : Nat) : BitVec.ofInt 64 (a : Int) = BitVec.ofNat 64 a := BitVec.ofInt_natCast 64 a
theorem wrap_bv (x : BitVec 64) : IntKind.wrap .u64 (x.toNat : Int) = x.toNat := wrap_in (k := .u64) ⟨by omega, by have := x.isLt; omega⟩
theorem and_nat {a b : Nat} (ha : a < 2 ^ 64) (hb : b < 2 ^ 64) : bitOp .and .u64 (a : Int) (b : Int) = ((a &&& b : Nat) : Int) := by
  show IntKind.wrap .u64 ((BitVec.ofInt 64 (a : Int) &&& BitVec.ofInt 64 (b : Int)).toNat : Int) = _
  rw [wrap_bv, ofInt_nat, ofInt_nat, BitVec.toNat_and, BitVec.toNat_ofNat, BitVec.toNat_ofNat, Nat.mod_eq_of_lt ha, Nat.mod_eq_of_lt hb]
theorem or_nat {a b : Nat} (ha : a < 2 ^ 64) (hb : b < 2 ^ 64) : bitOp .or .u64 (a : Int) (b : Int) = ((a ||| b : Nat) : Int) := by
  show IntKind.wrap .u64 ((BitVec.ofInt 64 (a : Int) ||| BitVec.ofInt 64 (b : Int)).toNat : Int) = _
  rw [wrap_bv, ofInt_nat, ofInt_nat, BitVec.toNat_or, BitVec.toNat_ofNat, BitVec.toNat_ofNat, Nat.mod_eq_of_lt ha, Nat.mod_eq_of_lt hb]
/-- The first set without the second one. -/
def sdiff (a b : Nat) : Nat := (BitVec.ofNat 64 a &&& ~~~BitVec.ofNat 64 b).toNat
theorem sdiff_nat (a b : Nat) : bitOp .andNot .u64 (a : Int) (b : Int) = ((sdiff a b : Nat) : Int) := by
  show IntKind.wrap .u64 ((BitVec.ofInt 64 (a : Int) &&& ~~~BitVec.ofInt 64 (b : Int)).toNat : Int) = _
  rw [wrap_bv, ofInt_nat, ofInt_nat]
  rfl
theorem sdiff_bit {a b i : Nat} (hi : i < 64) : (sdiff a b).testBit i = (a.testBit i && !b.testBit i) := by
  have e : (sdiff a b).testBit i = (BitVec.ofNat 64 a &&& ~~~BitVec.ofNat 64 b).getLsbD i := rfl
  rw [e, BitVec.getLsbD_and, BitVec.getLsbD_not, BitVec.getLsbD_ofNat, BitVec.getLsbD_ofNat]
  simp [hi]
theorem sdiff_lt {a b n : Nat} (ha : a < 2 ^ n) : sdiff a b < 2 ^ n := by
  refine Nat.lt_pow_two_of_testBit _ fun i hi => ?_
  by_cases h : i < 64
  · rw [sdiff_bit h, Nat.testBit_lt_two_pow (Nat.lt_of_lt_of_le ha (Nat.pow_le_pow_right (by omega) hi))]
    rfl
  · have e : sdiff a b < 2 ^ 64 := (BitVec.ofNat 64 a &&& ~~~BitVec.ofNat 64 b).isLt
    exact Nat.testBit_lt_two_pow (Nat.lt_of_lt_of_le e (Nat.pow_le_pow_right (by omega) (by omega)))
theorem has_nat {S n : Nat} (hS : S < 2 ^ 64) : decide (bitOp .and .u64 ((S : Int).fdiv (2 ^ n)) 1 = 1) = S.testBit n := by
  have e : (S : Int).fdiv (2 ^ n) = ((S / 2 ^ n : Nat) : Int) := by
    rw [Int.fdiv_eq_ediv_of_nonneg _ (by have := Nat.pow_pos (n := n) (show 0 < 2 by omega); exact_mod_cast Nat.zero_le _)]
    norm_cast
  have h1 : S / 2 ^ n < 2 ^ 64 := Nat.lt_of_le_of_lt (Nat.div_le_self _ _) hS
  have e2 := and_nat (a := S / 2 ^ n) (b := 1) h1 (by decide)
  rw [e]
  have e3 : bitOp .and .u64 ((S / 2 ^ n : Nat) : Int) 1 = ((S / 2 ^ n &&& 1 : Nat) : Int) := e2
  rw [e3, Nat.and_one_is_mod, Nat.testBit_eq_decide_div_mod_eq]
  congr 1
  simp only [eq_iff_iff]
  omega
theorem t51 (S : Nat) (hS : S < 2 ^ 64) (n : Int) (hn : 0 ≤ n ∧ n < 64) : CallP Try.prog 51 [.int .u64 S, .int .i64 n] [] (Ret (.bool (S.testBit n.toNat)) []) := by
  refine callR (E := E) E_ok Try.func51 rfl ?_
  refine And.intro ?_ ?_
  · simp [AllP, under, gB, wB, inR_iff, IntKind.bits]
    omega
  refine ent_tau [] ⟨by (repeat' (first | exact trivial | exact rfl | exact fun _ _ => rfl | exact Or.inl rfl | refine And.intro ?_ ?_)), ⟨rfl, ?_, trivial⟩, rfl⟩
  exact congrArg SV.bool (has_nat hS)
theorem t75 (S T : Nat) : CallP Try.prog 75 [.int .u64 S, .int .u64 T] [] (Ret (.int .u64 (sdiff S T : Nat)) []) := by
  refine callR (E := E) E_ok Try.func75 rfl ?_
  refine And.intro ?_ ?_
  · simp [AllP, under, gB, wB, inR_iff, IntKind.bits]
  refine ent_tau [] ⟨by (repeat' (first | exact trivial | exact rfl | exact fun _ _ => rfl | exact Or.inl rfl | refine And.intro ?_ ?_)), ⟨rfl, ?_, trivial⟩, rfl⟩
  exact congrArg (SV.int .u64) (sdiff_nat S T)
/-- A row of two sets. -/
def un2 (S T : Nat) : Nat → List SV := fun k => [.int .u64 ((match k with | 0 => S | _ => T : Nat) : Int)]
def or2 (S T : Nat) : Nat → Nat
  | 0 => 0
  | 1 => S
  | _ => S ||| T
theorem t82 (S T : Nat) (hS : S < 2 ^ 64) (hT : T < 2 ^ 64) : CallP Try.prog 82 [.slice 0 1 0 2 2] [some (.roa 1 2 (un2 S T))] (Ret (.int .u64 (S ||| T : Nat)) [some (.roa 1 2 (un2 S T))]) := by
  refine callR (E := E) E_ok Try.func82 rfl ?_
  refine And.intro ?_ ?_
  · simp [AllP, under, gB, wB, inR_iff, IntKind.bits]
  refine loopP E_ok [0, 5, 6] (fun i : Nat => [(2, .int .u64 (or2 S T i : Nat)), (7, .int .i64 i)]) (fun _ h => h) (fun i => i ≤ 2) (fun i => 2 - i) 0 (Nat.zero_le _) ?_ ?_
  · exact ent_tau [0] ⟨by (repeat' (first | exact trivial | exact rfl | exact fun _ _ => rfl | exact Or.inl rfl | refine And.intro ?_ ?_)), by (repeat' (first | exact trivial | exact rfl | exact congrArg (SV.int .i64) (Int.natCast_succ _).symm | exact congrArg (SV.int .u64) (Int.natCast_succ _).symm | refine And.intro ?_ ?_)), rfl⟩
  rintro i hi
  refine And.intro ?_ (And.intro (fun hc => ?_) (fun hc => ?_))
  · simp [AllP, under, gB, wB, inR_iff, IntKind.bits]
  · have hlt : i < 2 := by
      have := of_decide_eq_true hc
      omega
    have hc2 : i = 0 ∨ i = 1 := by omega
    rcases hc2 with rfl | rfl
    · refine And.intro ?_ ?_
      · simp [AllP, under, gB, wB, inR_iff, IntKind.bits]
      refine ⟨1, by omega, by omega, ?_⟩
      refine ent_tau [0] ⟨by (repeat' (first | exact trivial | exact rfl | exact fun _ _ => rfl | exact Or.inl rfl | refine And.intro ?_ ?_)), ?_, rfl⟩
      (repeat' (first | exact trivial | exact rfl | exact congrArg (SV.int .i64) (Int.natCast_succ _).symm | exact congrArg (SV.int .u64) (Int.natCast_succ _).symm | refine And.intro ?_ ?_))
      exact congrArg (SV.int .u64) ((or_nat (a := 0) (b := S) (by decide) hS).trans (by rw [Nat.zero_or]; rfl))
    · refine And.intro ?_ ?_
      · simp [AllP, under, gB, wB, inR_iff, IntKind.bits]
      refine ⟨2, by omega, by omega, ?_⟩
      refine ent_tau [0] ⟨by (repeat' (first | exact trivial | exact rfl | exact fun _ _ => rfl | exact Or.inl rfl | refine And.intro ?_ ?_)), ?_, rfl⟩
      (repeat' (first | exact trivial | exact rfl | exact congrArg (SV.int .i64) (Int.natCast_succ _).symm | exact congrArg (SV.int .u64) (Int.natCast_succ _).symm | refine And.intro ?_ ?_))
      exact congrArg (SV.int .u64) (or_nat hS hT)
  · have e : i = 2 := by
      have := of_decide_eq_false hc
      omega
    subst e
    (repeat' (first | exact trivial | exact fun _ => rfl | exact rfl | refine And.intro ?_ ?_))
    exact ent_tau [0] ⟨by (repeat' (first | exact trivial | exact rfl | exact fun _ _ => rfl | exact Or.inl rfl | refine And.intro ?_ ?_)), by (repeat' (first | exact trivial | exact rfl | exact congrArg (SV.int .i64) (Int.natCast_succ _).symm | exact congrArg (SV.int .u64) (Int.natCast_succ _).symm | refine And.intro ?_ ?_)), rfl⟩

/-! ### How long a move takes -/
def HD.F (h : HD) (i : Nat) : List SV := [.int .i64 (h.at' i), .int .i64 (h.pl i), .int .i64 (h.lo i), .int .i64 (h.hi i)]
def HD.A (h : HD) : SV := .agg [.int .i64 h.pace, .osl h.b 0 4 h.n h.cap]
def HD.H (h : HD) : SHeap := [some (.roa 4 h.n (HD.F h))]
/-- The slowest truth, or the fastest one. -/
def trT : Bool → Nat
  | true => 85
  | false => 86
def tr (s : Bool) : SV := .iface (trT s) (.agg [])
theorem t120 (a b c d : Int) : CallP Try.prog 120 [.agg [], .agg [.int .i64 a, .int .i64 b, .int .i64 c, .int .i64 d]] [] (Ret (.int .i64 d) []) := by
  refine callR (E := E) E_ok Try.func120 rfl ?_
  refine And.intro ?_ ?_
  · simp [AllP, under, gB, wB, inR_iff, IntKind.bits]
  exact ent_tau [] ⟨by (repeat' (first | exact trivial | exact rfl | exact fun _ _ => rfl | exact Or.inl rfl | refine And.intro ?_ ?_)), by (repeat' (first | exact trivial | exact rfl | exact congrArg (SV.int .i64) (Int.natCast_succ _).symm | exact congrArg (SV.int .u64) (Int.natCast_succ _).symm | refine And.intro ?_ ?_)), rfl⟩
theorem t121 (a b c d : Int) : CallP Try.prog 121 [.agg [], .agg [.int .i64 a, .int .i64 b, .int .i64 c, .int .i64 d]] [] (Ret (.int .i64 c) []) := by
  refine callR (E := E) E_ok Try.func121 rfl ?_
  refine And.intro ?_ ?_
  · simp [AllP, under, gB, wB, inR_iff, IntKind.bits]
  exact ent_tau [] ⟨by (repeat' (first | exact trivial | exact rfl | exact fun _ _ => rfl | exact Or.inl rfl | refine And.intro ?_ ?_)), by (repeat' (first | exact trivial | exact rfl | exact congrArg (SV.int .i64) (Int.natCast_succ _).symm | exact congrArg (SV.int .u64) (Int.natCast_succ _).symm | refine And.intro ?_ ?_)), rfl⟩
theorem t56 (s : Bool) : CallP Try.prog 56 [.bool s] [] (Ret (tr s) []) := by
  refine callR (E := E) E_ok Try.func56 rfl ?_
  refine And.intro ?_ (And.intro (fun h => ?_) (fun h => ?_))
  · simp [AllP, under, gB, wB, inR_iff, IntKind.bits]
  · subst h
    refine And.intro ?_ ?_
    · simp [AllP, under, gB, wB, inR_iff, IntKind.bits]
    exact ent_tau [] ⟨by (repeat' (first | exact trivial | exact rfl | exact fun _ _ => rfl | exact Or.inl rfl | refine And.intro ?_ ?_)), by (repeat' (first | exact trivial | exact rfl | exact congrArg (SV.int .i64) (Int.natCast_succ _).symm | exact congrArg (SV.int .u64) (Int.natCast_succ _).symm | refine And.intro ?_ ?_)), rfl⟩
  · subst h
    refine And.intro ?_ ?_
    · simp [AllP, under, gB, wB, inR_iff, IntKind.bits]
    exact ent_tau [] ⟨by (repeat' (first | exact trivial | exact rfl | exact fun _ _ => rfl | exact Or.inl rfl | refine And.intro ?_ ?_)), by (repeat' (first | exact trivial | exact rfl | exact congrArg (SV.int .i64) (Int.natCast_succ _).symm | exact congrArg (SV.int .u64) (Int.natCast_succ _).symm | refine And.intro ?_ ?_)), rfl⟩
end Go.Proofs.Ytgofhjihkinknaa
/-
  Horses that are handed to a statement, as rows that are only read.
-/
namespace Go.Proofs.Ytgofhjihkinknaa
open Go Go.Sy Kuhn Go.ChangeShapes Go.WideShapes Go.ChangeAt Go.RowKit
set_option maxRecDepth 100000

section
variable {H : Type} {enc : TypeId × Value → H} {w : World} {base : Nat} {sp : Nat → Bool} {held : Bool}
theorem wf64 (z : Int) (h : Lit.wf (.int .i64 z) = true) : InR .i64 z := by
  simpa [Lit.wf, InR, IntKind.min, IntKind.max, IntKind.signed, IntKind.bits] using h
theorem wf8 (z : Int) (h : Lit.wf (.int .u8 z) = true) : InR .u8 z := by
  simpa [Lit.wf, InR, IntKind.min, IntKind.max, IntKind.signed, IntKind.bits] using h
theorem it3 : IntT enc Try.prog w base sp held .i64 3 1 := IntT.int wf64 Try.underlying3 (by kernel_rfl)
theorem it5 : IntT enc Try.prog w base sp held .u8 5 1 := IntT.int wf8 Try.underlying5 (by kernel_rfl)
theorem it37 : IntT enc Try.prog w base sp held .i64 37 2 := IntT.two Try.underlying37 it3 it3 rfl rfl (by kernel_rfl)
theorem it54 : IntT enc Try.prog w base sp held .i64 54 4 := IntT.three (n := 1) (m := 1) (k := 2) Try.underlying54 it3 it3 it37 rfl rfl rfl (by kernel_rfl)

/-- A slice of rows, whether it is nil or not. -/
theorem partOpen {kd : IntKind} {t e : TypeId} {sz : Nat} {v : Value} {d : DataW H} {ps : List MemPlace} {r : Reach} {b0 : Nat} (ht : Try.prog.underlying t = some (.slice e)) (he : IntT enc Try.prog w base sp held kd e sz)
    (h0 : ∃ cs T fz, w.heap[0]? = some (.cells cs T fz)) (hval : Cell.okWide Try.prog w r b0 t v) {fuel : Nat} (h : DataW.trod enc Try.prog w base sp held fuel t [v] = some (d, ps)) :
    ∃ (b : Bool) (a : Nat × Nat) (n c : Nat), (b = false → n = 0) ∧ (n ≤ c ∧ c ≤ 9223372036854775807) ∧ n ≤ 9223372036854775807 ∧ (∀ (η : Nam) i, η i = some a → den η (.osl b i sz n c) = some v) ∧ ∃ cs T fz, w.heap[a.1]? = some (.cells cs T fz) ∧ ∀ k, k < n → ∀ j, j < sz → cs[a.2 + (k * sz + j)]? = some (.int kd (cellI kd w a (k * sz + j))) := by
  rcases sliceOpen ht he hval h with rfl | ⟨a, n, c, rfl, h3, h4, cs, T, fz, h1, h2⟩
  · obtain ⟨cs, T, fz, h1⟩ := h0
    exact ⟨false, (0, 0), 0, 0, fun _ => rfl, by omega, by omega, fun η i _ => by simp [den], cs, T, fz, h1, fun k hk => by omega⟩
  · exact ⟨true, a, n, c, fun q => Bool.noConfusion q, by omega, by omega, fun η i hi => by simp [den, hi], cs, T, fz, h1, h2⟩
/-- A list of numbers. -/
structure NumsIn (kd : IntKind) (w : World) (v : Value) (n : Nat) (p : Nat → Int) (b : Bool) (c : Nat) (a : Nat × Nat) : Prop where
  len : n ≤ 9223372036854775807
  rng : ∀ k, InR kd (p k)
  den : ∀ (η : Nam) i, η i = some a → den η (.osl b i 1 n c) = some v
  row : ∀ (η : Nam) F, (SObj.roa 1 n fun k => [.int kd (p k)]).holds η a F w
theorem numsOpen {kd : IntKind} {t e : TypeId} {v : Value} {d : DataW H} {ps : List MemPlace} {r : Reach} {b0 : Nat} (ht : Try.prog.underlying t = some (.slice e)) (he : IntT enc Try.prog w base sp held kd e 1)
    (h0 : ∃ cs T fz, w.heap[0]? = some (.cells cs T fz)) (hval : Cell.okWide Try.prog w r b0 t v) {fuel : Nat} (h : DataW.trod enc Try.prog w base sp held fuel t [v] = some (d, ps)) :
    ∃ n p b c a, NumsIn kd w v n p b c a := by
  obtain ⟨b, a, n, c, _, _, hl, hd, cs, T, fz, h1, h2⟩ := partOpen ht he h0 hval h
  refine ⟨n, fun k => cellI kd w a k, b, c, a, hl, fun k => cellI_ok _ _ _ _, hd, fun η F => ⟨cs, T, fz, h1, fun k hk => ⟨_, rfl, rfl, fun j v hj => ?_⟩⟩⟩
  match j, hj with
  | 0, hj =>
    cases hj
    have := h2 k hk 0 (by omega)
    simpa using this
theorem numsOpenV {kd : IntKind} {t e : TypeId} {v : Value} {d : DataW H} {ps : List MemPlace} {r : Reach} {b0 : Nat} (ht : Try.prog.underlying t = some (.slice e)) (he : IntT enc Try.prog w base sp held kd e 1)
    (h0 : ∃ cs T fz, w.heap[0]? = some (.cells cs T fz)) (hval : Value.okWide Try.prog w r b0 t v) (h : DataW.Trod enc Try.prog w base sp held t v d ps) : ∃ n p b c a, NumsIn kd w v n p b c a := by
  unfold Value.okWide at hval
  rw [ht] at hval
  obtain ⟨fuel, h⟩ := h
  have hval : Cell.okWide Try.prog w r b0 t v := hval
  have e1 : v.cells.toList = [v] := by
    have hq := hval
    unfold Cell.okWide at hq
    rw [ht] at hq
    unfold Cell.ok at hq
    rw [ht] at hq
    cases v <;> first | rfl | exact hq.elim
  rw [e1] at h
  exact numsOpen ht he h0 hval h
theorem den_two {η : Nam} {x y : SV} {a b : Value} (hx : den η x = some a) (hy : den η y = some b) : den η (.agg [x, y]) = some (.agg #[a, b]) := by
  simp [den, denL, hx, hy]
/-- The horses that an argument is. -/
structure HorseIn (w : World) (v : Value) (h : HD) (a : Nat × Nat) : Prop where
  pace : InR .i64 h.pace
  rng : ∀ k, InR .i64 (h.at' k) ∧ InR .i64 (h.pl k) ∧ InR .i64 (h.lo k) ∧ InR .i64 (h.hi k)
  len : h.n ≤ 9223372036854775807
  nb : h.b = false → h.n = 0
  nc : h.n ≤ h.cap ∧ h.cap ≤ 9223372036854775807
  den : ∀ η : Nam, η 0 = some a → den η (HD.A h) = some v
  row : ∀ (η : Nam) F, (SObj.roa 4 h.n (HD.F h)).holds η a F w
theorem horseOpen {v : Value} {d : DataW H} {ps : List MemPlace} {r : Reach} {b0 : Nat} (h0 : ∃ cs T fz, w.heap[0]? = some (.cells cs T fz)) (hval : Value.okWide Try.prog w r b0 24 v)
    (h : DataW.Trod enc Try.prog w base sp held 24 v d ps) : ∃ hd a, HorseIn w v hd a := by
  unfold Value.okWide at hval
  rw [Try.underlying24] at hval
  obtain ⟨cs, rfl, hsz, ts, hts, _, hc⟩ := hval
  have e1 : Try.prog.cellsOf 24 = 2 := by kernel_rfl
  have e2 : Try.prog.cellTypes Try.prog.depth 24 = some [3, 22] := by kernel_rfl
  have e3 : Try.prog.cellsOf 3 = 1 := by kernel_rfl
  have e4 : Try.prog.cellsOf 22 = 1 := by kernel_rfl
  rw [e1] at hsz
  rw [e2] at hts
  cases hts
  obtain ⟨fuel, h⟩ := h
  obtain ⟨v0, v1, rfl⟩ : ∃ v0 v1, cs = #[v0, v1] := by
    obtain ⟨l⟩ := cs
    match l, hsz with
    | [a, b], _ => exact ⟨a, b, rfl⟩
  obtain ⟨xs, n, rfl, hx, _, hlen, hf⟩ := DataW.trod_struct Try.underlying24 h
  have hlen' : xs.length = 2 := hlen
  have f0 : DataW.trod enc Try.prog w base sp held n 3 (([v0, v1].drop 0).take (Try.prog.cellsOf 3)) = xs[0]? := hf 0 _ rfl
  rw [e3, List.getElem?_eq_getElem (by omega)] at f0
  have f1 : DataW.trod enc Try.prog w base sp held n 22 (([v0, v1].drop 1).take (Try.prog.cellsOf 22)) = xs[1]? := hf 1 _ rfl
  rw [e4, List.getElem?_eq_getElem (by omega)] at f1
  obtain ⟨u1, hu1, w1⟩ := hc 1 v1 rfl
  cases hu1
  obtain ⟨zs, z1, z2, z3⟩ := (it3 (enc := enc) (w := w) (base := base) (sp := sp) (held := held)).2 _ _ _ f0
  obtain ⟨z, rfl⟩ : ∃ z, zs = [z] := by
    match zs, z1 with
    | [z], _ => exact ⟨z, rfl⟩
  have ev : v0 = .int .i64 z := by simpa using z3
  subst ev
  obtain ⟨b, a, m, c, hb0, hnc, hl, hd, cs, T, fz, h1, h2⟩ := partOpen Try.underlying22 it54 h0 w1 f1
  refine ⟨⟨z, m, fun k => cellI .i64 w a (k * 4), fun k => cellI .i64 w a (k * 4 + 1), fun k => cellI .i64 w a (k * 4 + 2), fun k => cellI .i64 w a (k * 4 + 3), b, c⟩, a, z2 z (by simp), fun k => ⟨cellI_ok _ _ _ _, cellI_ok _ _ _ _, cellI_ok _ _ _ _, cellI_ok _ _ _ _⟩, hl, hb0, hnc, fun η q => den_two rfl (hd η 0 q), fun η F => ⟨cs, T, fz, h1, fun k hk => ⟨_, rfl, rfl, fun j v hj => ?_⟩⟩⟩
  match j, hj with
  | 0, hj => cases hj; exact h2 k hk 0 (by omega)
  | 1, hj => cases hj; exact h2 k hk 1 (by omega)
  | 2, hj => cases hj; exact h2 k hk 2 (by omega)
  | 3, hj => cases hj; exact h2 k hk 3 (by omega)
/-- What lies first in a world. -/
theorem cells0 (h : w.ShapedOpen Try.prog) : ∃ cs T fz, w.heap[0]? = some (.cells cs T fz) := by
  obtain ⟨_, h2⟩ := h
  obtain ⟨o, o0, e1, e2, e3⟩ := h2 0 (Nat.le_of_eq (by kernel_rfl)) (Nat.lt_of_lt_of_eq (show 0 < 5 by omega) (Eq.symm (by kernel_rfl)))
  have e4 : (if World.looseAt (0 - Try.prog.globals.size) = true then o.alike o0 else o = o0) = (o = o0) := by kernel_rfl
  rw [e4] at e3
  subst e3
  have e5 : (((begin Try.prog (fun _ _ => 0) default).world.heap[0]?).map fun o => match o with | .cells _ _ _ => true | _ => false) = some true := by kernel_rfl
  rw [e2] at e5
  cases o with
  | cells cs T fz => exact ⟨cs, T, fz, e1⟩
  | _ => cases e5
end
theorem sat2 {w : World} {v v1 : Value} {h : HD} {a a1 : Nat × Nat} {kd : IntKind} {n c : Nat} {p : Nat → Int} {b : Bool} (hh : HorseIn w v h a) (h1 : NumsIn kd w v1 n p b c a1) : Sat (fun j => [a, a1][j]?) (fun _ _ => False) (HD.H h ++ [some (.roa 1 n fun k => [.int kd (p k)])]) w (fun _ => False) w := by
  refine satRo _ rfl ?_ ?_
  · intro i x hx
    match i, hx with
    | 0, hx => cases hx; exact ⟨_, rfl, rfl⟩
    | 1, hx => cases hx; exact ⟨_, rfl, rfl⟩
  · intro i o a ho ha
    match i, ho, ha with
    | 0, ho, ha => cases ho; cases ha; exact hh.row _ _
    | 1, ho, ha => cases ho; cases ha; exact h1.row _ _
end Go.Proofs.Ytgofhjihkinknaa
