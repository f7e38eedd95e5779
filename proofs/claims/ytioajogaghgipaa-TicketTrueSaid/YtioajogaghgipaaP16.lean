/-
  Parts: Plans, A1, A2, A3, A4, A5, A6.
-/
import Derived.Test.YtioajogaghgipaaP11
set_option linter.unusedVariables false
/-
 The plans of the regions that draw their order: printed by a program.
-/
namespace Go.Proofs.Ytioajogaghgipaa
open Go Go.Sy
def pl6_16 : Plan := eg [0, 1, 2, 3, 4, 5, 6, 7, 8, 9, 10, 11, 12, 13, 14, 15] <| .alt 16 (eg [17, 18, 19, 20, 21, 22, 23, 24] <| .alt 25 (eg [26, 27, 28, 29, 30, 31, 32, 33, 34, 35, 36, 37, 38, 39, 40, 41] <| .done) .no) .no
def pl6_22 : Plan := eg [0, 1, 2] <| .alt 3 (eg [4, 5, 6, 7, 8, 9, 10, 11, 12, 13, 14] <| .done) .no
def pl6_29 : Plan := eg [0, 1, 2, 3, 4, 5, 6, 7, 8, 9, 10, 11] <| .done
def pl6_34 : Plan := eg [0, 1, 2, 3, 4, 5, 6, 7, 8, 9, 10, 11, 12, 13, 14, 15, 16, 17, 18, 19, 20] <| .done
def pl6_43 : Plan := eg [0, 1, 2, 3, 7] <| .alt 4 (eg [5, 6] <| .alt 8 (eg [9, 10, 11] <| .done) .no) .no
def pl13_11 : Plan := .eager 0 <| .alt 1 (eg [2, 3, 4] <| .alt 5 (eg [6, 7, 8, 9, 10, 11, 12, 13, 14, 15, 16, 17, 18, 19, 20, 21, 22, 23, 24, 25, 26, 27, 28, 29, 30, 31, 32, 33, 34, 35, 36, 37, 38, 39, 40, 41, 42, 43, 44, 45, 46, 47, 48, 49, 50, 51, 52, 53] <| .alt 54 (eg [55, 56, 57, 58, 59, 60, 61, 62] <| .alt 63 (eg [64, 65, 66, 67, 68, 69, 70, 71] <| .alt 72 (eg [73, 74, 75, 76, 77, 78, 79, 80, 81, 82, 83, 84, 85, 86, 87, 88, 89, 90, 91, 92, 93, 94, 95] <| .done) .no) .no) .no) .no) .no
def pl14_3 : Plan := eg [0, 1, 2, 3, 4, 5] <| .alt 6 (.alt 7 (.alt 8 (.done) .no) .no) .no
def pl16_2 : Plan := eg [0, 1, 2, 5, 6, 7, 8] <| .alt 3 (.alt 4 (.alt 9 (.alt 10 (.eager 11 <| .alt 12 (.done) .no) .no) .no) .no) .no
def pl18_2 : Plan := eg [0, 1, 2] <| .alt 3 (.alt 4 (.eager 5 <| .done) .no) .no
def pl20_2 : Plan := eg [0, 1] <| .alt 2 (.alt 3 (.eager 4 <| .done) .no) .no
def pl20_17 : Plan := eg [0, 1, 2, 3] <| .alt 4 (.done) .no
def pl20_28 : Plan := eg [0, 1, 2, 3] <| .alt 4 (.done) .no
def pl22_2 : Plan := eg [0, 1, 2, 9, 10, 11, 12] <| .alt 3 (eg [4, 5] <| .alt 6 (.eager 7 <| .alt 8 (.alt 13 (.alt 14 (.eager 15 <| .alt 16 (.done) .no) .no) .no) .no) .no) .no
def pl35_7 : Plan := eg [0, 1, 2, 3, 4] <| .alt 5 (eg [6, 7] <| .done) .no
def pl37_1 : Plan := eg [0, 1, 2, 3, 4, 5, 6, 7, 8, 9, 10, 11, 12, 13, 14, 15, 16, 17, 18, 19, 20, 21, 22, 23, 24, 25] <| .done
def pl41_3 : Plan := eg [0, 1, 2, 3, 4, 5, 6, 7, 9, 10] <| .alt 8 (.alt 11 (eg [12, 13] <| .alt 14 (eg [15, 16] <| .alt 17 (.done) .no) .no) .no) .no
def pl50_14 : Plan := eg [0, 1, 2, 3] <| .alt 4 (.done) .no
def pl69_1 : Plan := eg [0, 1, 2, 3, 4, 5, 6, 7, 8, 9, 10, 11, 12, 13, 14, 15, 16, 17, 18, 19, 20, 21, 22, 23, 24, 25] <| .done
def pl82_9 : Plan := eg [0, 1, 2, 3, 4] <| .alt 5 (.done) .no
def pl93_4 : Plan := eg [0, 1, 2, 3, 4, 5, 6, 7, 8, 9, 10, 11, 12, 13] <| .done
def pl100_1 : Plan := eg [0, 1, 2, 3, 4, 5, 6, 7, 8, 9, 10, 11, 12, 13] <| .done
def pl101_1 : Plan := eg [0, 1, 2, 3, 4] <| .alt 5 (.eager 6 <| .done) .no
def pl104_1 : Plan := eg [0, 1, 2, 3, 4, 5, 6] <| .done
def pl104_3 : Plan := eg [0, 1, 2, 3, 4, 5, 6] <| .alt 7 (.alt 8 (.done) .no) .no
def pl104_7 : Plan := eg [0, 1, 2, 3, 4, 5, 6, 7] <| .done
def pl104_10 : Plan := eg [0, 1, 2, 3, 4, 5, 6, 7, 8, 9, 10, 11, 12, 13, 14, 15, 16, 17, 18, 19, 20, 21, 22, 23, 24, 25, 26] <| .alt 27 (.eager 28 <| .done) .no
def pl104_12 : Plan := eg [0, 1, 2, 3, 5, 6] <| .alt 4 (.alt 7 (.eager 8 <| .done) .no) .no
def pl116_4 : Plan := eg [0, 1, 2, 3, 4, 5, 6, 7, 8, 9, 10, 11, 12, 13] <| .alt 14 (eg [15, 16] <| .done) .no
def pl136_2 : Plan := eg [0, 1, 2, 3, 4, 5] <| .alt 6 (eg [7, 8, 9, 10, 11, 12, 13, 14, 15, 16, 17, 18, 19, 20] <| .done) .no
def pl138_4 : Plan := eg [0, 1, 2, 3, 4, 5, 6, 7, 8, 9, 10] <| .alt 11 (.eager 12 <| .done) .no
end Go.Proofs.Ytioajogaghgipaa
/-
 Plain law of tickets, part 1.
-/
namespace Tic
set_option linter.unusedVariables false

/-! ### Tickets: plain numbers -/
structure TK where
 huts : Int
 n : Nat
 bl : Nat → Int
 bh : Nat → Int
 hut : Nat → Int
 dl : Nat → Int
 dh : Nat → Int
 /-- Is there a block of tickets at all; how much room it has. -/
 b : Bool
 cap : Nat
abbrev Tru := Nat → Int × Int
def ofL (L : List (Int × Int)) : Tru := fun i => L.getD i (0, 0)
def spanOk (lo hi : Int) : Prop := 0 ≤ lo ∧ lo ≤ hi ∧ hi ≤ 240 ∧ hi - lo ≤ 2
namespace TK
def okT (t : TK) (i : Nat) : Prop := (0 ≤ t.hut i ∧ t.hut i ≤ t.huts - 1) ∧ spanOk (t.bl i) (t.bh i) ∧ spanOk (t.dl i) (t.dh i)
def Valid (t : TK) : Prop := (1 ≤ t.huts ∧ t.huts ≤ 4) ∧ t.n ≤ 5 ∧ ∀ i, i < t.n → t.okT i
def near (x y : Int) : Bool := decide (-29 ≤ x - y) && decide (x - y ≤ 29)
theorem near_comm (x y : Int) : near x y = near y x := by
 unfold near
 rw [Bool.eq_iff_iff]
 simp only [Bool.and_eq_true, decide_eq_true_eq]
 omega
theorem near_iff {x y : Int} : near x y = true ↔ -29 ≤ x - y ∧ x - y ≤ 29 := by simp [near]
def okP (t : TK) (i : Nat) (p : Int × Int) : Prop := t.bl i ≤ p.1 ∧ p.1 ≤ t.bh i ∧ t.dl i ≤ p.2 ∧ p.2 ≤ t.dh i ∧ p.1 ≤ p.2
def Right (t : TK) (x : Tru) : Prop := (∀ i, i < t.n → t.okP i (x i)) ∧ ∀ i k, i < t.n → k < t.n → i ≠ k → t.hut i = t.hut k → near (x i).2 (x k).2 = false
def upI (lo hi : Int) : List Int := (List.range (hi - lo + 1).toNat).map fun k => lo + (k : Nat)
theorem mem_upI {lo hi x : Int} : x ∈ upI lo hi ↔ lo ≤ x ∧ x ≤ hi := by
 unfold upI
 simp only [List.mem_map, List.mem_range]
 constructor
 ·rintro ⟨k, hk, rfl⟩
  omega
 ·rintro ⟨h1, h2⟩
  exact ⟨(x - lo).toNat, by omega, by omega⟩
def fits (t : TK) (L : List (Int × Int)) (p : Int × Int) : Bool := decide (p.1 ≤ p.2) && (List.range L.length).all fun i => !(decide (t.hut i = t.hut L.length) && near (ofL L i).2 p.2)
def prs (t : TK) (i : Nat) : List (Int × Int) := (upI (t.bl i) (t.bh i)).flatMap fun a => (upI (t.dl i) (t.dh i)).map fun b => (a, b)
theorem mem_prs {t : TK} {i : Nat} {p : Int × Int} : p ∈ t.prs i ↔ (t.bl i ≤ p.1 ∧ p.1 ≤ t.bh i) ∧ t.dl i ≤ p.2 ∧ p.2 ≤ t.dh i := by
 unfold prs
 simp only [List.mem_flatMap, List.mem_map, mem_upI]
 constructor
 ·rintro ⟨a, ha, b, hb, rfl⟩
  exact ⟨ha, hb⟩
 ·rintro ⟨ha, hb⟩
  exact ⟨p.1, ha, p.2, hb, rfl⟩
def go (t : TK) : Nat → List (Int × Int) → List (List (Int × Int))
 | 0, L => [L]
 | r + 1, L => (t.prs L.length).flatMap fun p => match t.fits L p with
  | true => go t r (L ++ [p])
  | false => []
def trl (t : TK) : List (List (Int × Int)) := t.go t.n []
structure OkT (t : TK) (L : List (Int × Int)) : Prop where
 one : ∀ i, i < L.length → t.okP i (ofL L i)
 two : ∀ i k, i < k → k < L.length → t.hut i = t.hut k → near (ofL L i).2 (ofL L k).2 = false
theorem ofL_app {L : List (Int × Int)} {p : Int × Int} {k : Nat} : ofL (L ++ [p]) k = if k < L.length then ofL L k else if k = L.length then p else (0, 0) := by
 unfold ofL
 rw [List.getD_eq_getElem?_getD, List.getD_eq_getElem?_getD]
 split
 ·rename_i h
  rw [List.getElem?_append_left h]
 ·rename_i h
  rw [List.getElem?_append_right (by omega)]
  split
  ·rename_i h2
   subst h2
   simp
  ·rename_i h2
   rw [List.getElem?_eq_none (by simp; omega)]
   rfl
theorem fits_iff {t : TK} {L : List (Int × Int)} {p : Int × Int} : t.fits L p = true ↔ p.1 ≤ p.2 ∧ ∀ i, i < L.length → t.hut i = t.hut L.length → near (ofL L i).2 p.2 = false := by
 unfold fits
 simp only [Bool.and_eq_true, decide_eq_true_eq, List.all_eq_true, List.mem_range, Bool.not_eq_true', Bool.and_eq_false_iff, decide_eq_false_iff_not]
 refine and_congr Iff.rfl ⟨fun H i hi e => ?_, fun H i hi => ?_⟩
 ·rcases H i hi with c | c
  ·exact absurd e c
  ·exact c
 ·by_cases e : t.hut i = t.hut L.length
  ·exact .inr (H i hi e)
  ·exact .inl e
theorem OkT.nil {t : TK} : OkT t [] := ⟨fun i hi => absurd hi (Nat.not_lt_zero i), fun i k _ hk => absurd hk (Nat.not_lt_zero k)⟩
theorem OkT.app {t : TK} {L : List (Int × Int)} (H : OkT t L) {p : Int × Int} (hp : p ∈ t.prs L.length) (hf : t.fits L p = true) : OkT t (L ++ [p]) := by
 obtain ⟨f1, f2⟩ := fits_iff.1 hf
 obtain ⟨p1, p2⟩ := mem_prs.1 hp
 constructor
 ·intro i hi
  rw [List.length_append, List.length_singleton] at hi
  rw [ofL_app]
  rcases Nat.lt_succ_iff_lt_or_eq.1 hi with c | rfl
  ·rw [if_pos c]
   exact H.one i c
  ·rw [if_neg (Nat.lt_irrefl _), if_pos rfl]
   exact ⟨p1.1, p1.2, p2.1, p2.2, f1⟩
 ·intro i k hik hk e
  rw [List.length_append, List.length_singleton] at hk
  rw [ofL_app, ofL_app]
  rcases Nat.lt_succ_iff_lt_or_eq.1 hk with c | rfl
  ·rw [if_pos (by omega), if_pos c]
   exact H.two i k hik c e
  ·rw [if_pos hik, if_neg (Nat.lt_irrefl _), if_pos rfl]
   exact f2 i hik e
theorem go_sub {t : TK} : ∀ (r : Nat) (L : List (Int × Int)), OkT t L → ∀ M, M ∈ t.go r L → OkT t M ∧ M.length = L.length + r ∧ M.take L.length = L
 | 0, L, H, M, hM => by
  rw [go, List.mem_singleton] at hM
  subst hM
  exact ⟨H, rfl, List.take_length⟩
 | r + 1, L, H, M, hM => by
  rw [go, List.mem_flatMap] at hM
  obtain ⟨p, hp, hM⟩ := hM
  cases hf : t.fits L p with
  | false => rw [hf] at hM; cases hM
  | true =>
   rw [hf] at hM
   obtain ⟨a, b, c⟩ := go_sub r (L ++ [p]) (H.app hp hf) M hM
   rw [List.length_append, List.length_singleton] at b c
   refine ⟨a, by omega, ?_⟩
   have := congrArg (List.take L.length) c
   rwa [List.take_take, Nat.min_eq_left (Nat.le_succ _), List.take_append_of_le_length (Nat.le_refl _), List.take_length] at this
theorem take_app {M L : List (Int × Int)} (h1 : M.take L.length = L) (h2 : L.length < M.length) : M.take (L ++ [ofL M L.length]).length = L ++ [ofL M L.length] := by
 rw [List.length_append, List.length_singleton, List.take_add_one, h1]
 unfold ofL
 rw [List.getD_eq_getElem?_getD, List.getElem?_eq_getElem h2]
 rfl
theorem ofL_take {M L : List (Int × Int)} (h1 : M.take L.length = L) {i : Nat} (hi : i < L.length) : ofL L i = ofL M i := by
 have e : (M.take L.length)[i]? = M[i]? := by rw [List.getElem?_take, if_pos hi]
 rw [h1] at e
 unfold ofL
 rw [List.getD_eq_getElem?_getD, List.getD_eq_getElem?_getD, e]
theorem go_all {t : TK} {M : List (Int × Int)} (H : OkT t M) : ∀ (r : Nat) (L : List (Int × Int)), M.length = L.length + r → M.take L.length = L → M ∈ t.go r L
 | 0, L, h1, h2 => by
  rw [go, List.mem_singleton]
  rw [List.take_of_length_le (by omega)] at h2
  exact h2
 | r + 1, L, h1, h2 => by
  rw [go, List.mem_flatMap]
  have hl : L.length < M.length := by omega
  have o := H.one _ hl
  refine ⟨ofL M L.length, mem_prs.2 ⟨⟨o.1, o.2.1⟩, o.2.2.1, o.2.2.2.1⟩, ?_⟩
  have hf : t.fits L (ofL M L.length) = true := fits_iff.2 ⟨o.2.2.2.2, fun i hi e => by rw [ofL_take h2 hi]; exact H.two i L.length hi hl e⟩
  rw [hf]
  exact go_all H r _ (by rw [List.length_append, List.length_singleton]; omega) (take_app h2 hl)
theorem mem_trl {t : TK} {M : List (Int × Int)} : M ∈ t.trl ↔ M.length = t.n ∧ t.Right (ofL M) := by
 constructor
 ·intro hM
  obtain ⟨a, b, _⟩ := go_sub t.n [] OkT.nil M hM
  rw [List.length_nil, Nat.zero_add] at b
  refine ⟨b, fun i hi => a.one i (by omega), fun i k hi hk hne e => ?_⟩
  rcases Nat.lt_or_gt_of_ne hne with c | c
  ·exact a.two i k c (by omega) e
  ·rw [near_comm]
   exact a.two k i c (by omega) e.symm
 ·rintro ⟨b, h1, h2⟩
  exact go_all ⟨fun i hi => h1 i (by omega), fun i k hik hk e => h2 i k (by omega) (by omega) (by omega) e⟩ t.n [] (by rw [List.length_nil, Nat.zero_add]; exact b) rfl
def trs (t : TK) : List Tru := t.trl.map ofL
def Flat (n : Nat) (x : Tru) : Prop := ∀ i, n ≤ i → x i = (0, 0)
theorem ofL_flat (L : List (Int × Int)) : Flat L.length (ofL L) := fun i hi => by
 unfold ofL
 rw [List.getD_eq_getElem?_getD, List.getElem?_eq_none hi]
 rfl
theorem mem_trs {t : TK} {x : Tru} : x ∈ t.trs ↔ Flat t.n x ∧ t.Right x := by
 unfold trs
 rw [List.mem_map]
 constructor
 ·rintro ⟨M, hM, rfl⟩
  obtain ⟨a, b⟩ := mem_trl.1 hM
  exact ⟨a ▸ ofL_flat M, b⟩
 ·rintro ⟨a, b⟩
  have e : ofL ((List.range t.n).map x) = x := by
   funext i
   unfold ofL
   rw [List.getD_eq_getElem?_getD]
   rcases Nat.lt_or_ge i t.n with c | c
   ·rw [List.getElem?_eq_getElem (by simpa using c)]
    simp
   ·rw [List.getElem?_eq_none (by simpa using c), a i c]
    rfl
  exact ⟨(List.range t.n).map x, mem_trl.2 ⟨by simp, by rw [e]; exact b⟩, e⟩
end TK
end Tic
/-
 Plain law of tickets, part 2.
-/
namespace Tic
set_option linter.unusedVariables false

/-! ### What is told of all truths -/
def hull : List Int → Int × Int
 | [] => (0, 0)
 | x :: l => l.foldl (fun s y => (min s.1 y, max s.2 y)) (x, x)
def IsHull (l : List Int) (s : Int × Int) : Prop := (s.1 ∈ l ∧ ∀ y ∈ l, s.1 ≤ y) ∧ s.2 ∈ l ∧ ∀ y ∈ l, y ≤ s.2
theorem IsHull.one (x : Int) : IsHull [x] (x, x) := by simp [IsHull]
theorem IsHull.add {l : List Int} {s : Int × Int} (h : IsHull l s) (y : Int) : IsHull (l ++ [y]) (min s.1 y, max s.2 y) := by
 obtain ⟨⟨a1, a2⟩, b1, b2⟩ := h
 refine ⟨⟨?_, fun z hz => ?_⟩, ?_, fun z hz => ?_⟩
 ·simp only [List.mem_append, List.mem_singleton]
  by_cases c : s.1 ≤ y
  ·exact .inl (by rw [Int.min_eq_left c]; exact a1)
  ·exact .inr (by rw [Int.min_eq_right (by omega)])
 ·simp only [List.mem_append, List.mem_singleton] at hz
  rcases hz with h | rfl
  ·have := a2 z h
   simp only
   omega
  ·simp only
   omega
 ·simp only [List.mem_append, List.mem_singleton]
  by_cases c : y ≤ s.2
  ·exact .inl (by rw [Int.max_eq_left c]; exact b1)
  ·exact .inr (by rw [Int.max_eq_right (by omega)])
 ·simp only [List.mem_append, List.mem_singleton] at hz
  rcases hz with h | rfl
  ·have := b2 z h
   simp only
   omega
  ·simp only
   omega
theorem IsHull.uniq {l l' : List Int} {s s' : Int × Int} (h : IsHull l s) (h' : IsHull l' s') (e : ∀ y, y ∈ l ↔ y ∈ l') : s = s' := by
 obtain ⟨⟨a1, a2⟩, b1, b2⟩ := h
 obtain ⟨⟨c1, c2⟩, d1, d2⟩ := h'
 have h1 := a2 _ ((e _).2 c1)
 have h2 := c2 _ ((e _).1 a1)
 have h3 := b2 _ ((e _).2 d1)
 have h4 := d2 _ ((e _).1 b1)
 exact Prod.ext (by omega) (by omega)
theorem hull_fold : ∀ (l l0 : List Int) (s : Int × Int), IsHull l0 s → IsHull (l0 ++ l) (l.foldl (fun s y => (min s.1 y, max s.2 y)) s)
 | [], l0, s, h => by rw [List.append_nil]; exact h
 | y :: l, l0, s, h => by
  have := hull_fold l (l0 ++ [y]) _ (h.add y)
  rw [List.append_assoc] at this
  exact this
theorem hull_is : ∀ {l : List Int}, l ≠ [] → IsHull l (hull l)
 | [], h => absurd rfl h
 | x :: l, _ => hull_fold l [x] (x, x) (IsHull.one x)
theorem hull_congr {l l' : List Int} (e : ∀ y, y ∈ l ↔ y ∈ l') : hull l = hull l' := by
 by_cases c : l = []
 ·subst c
  have : l' = [] := List.eq_nil_iff_forall_not_mem.2 fun y hy => by cases (e y).2 hy
  rw [this]
 ·have c' : l' ≠ [] := fun h => c (List.eq_nil_iff_forall_not_mem.2 fun y hy => by have := (e y).1 hy; rw [h] at this; cases this)
  exact (hull_is c).uniq (hull_is c') e
def grade {α : Type} (q : α → Bool) (l : List α) : Int := if l.all q then 2 else if l.any q then 1 else 0
def maskN (p : Nat → Bool) : Nat → Nat
 | 0 => 0
 | n + 1 => maskN p n + match p n with | true => 2 ^ n | false => 0
theorem maskN_lt (p : Nat → Bool) : ∀ n, maskN p n < 2 ^ n
 | 0 => by simp [maskN]
 | n + 1 => by
  have := maskN_lt p n
  rw [maskN, Nat.pow_succ]
  cases p n <;> simp only <;> omega
theorem maskN_bit (p : Nat → Bool) : ∀ n i, (maskN p n).testBit i = (decide (i < n) && p i)
 | 0, i => by simp [maskN]
 | n + 1, i => by
  have hl := maskN_lt p n
  have ih := maskN_bit p n i
  rw [maskN]
  rcases Nat.lt_trichotomy i n with c | rfl | c
  ·rw [decide_eq_true (Nat.lt_succ_of_lt c), Bool.true_and]
   rw [decide_eq_true c, Bool.true_and] at ih
   rw [← ih]
   cases p n with
   | false => rfl
   | true =>
    simp only
    rw [Nat.add_comm, Nat.testBit_two_pow_add_gt c]
  ·rw [decide_eq_true (Nat.lt_succ_self i), Bool.true_and]
   have hz : (maskN p i).testBit i = false := Nat.testBit_lt_two_pow hl
   cases hp : p i with
   | false => exact hz
   | true =>
    simp only
    rw [Nat.add_comm, Nat.testBit_two_pow_add_eq, hz]
    rfl
  ·rw [decide_eq_false (by omega), Bool.false_and]
   refine Nat.testBit_lt_two_pow (Nat.lt_of_lt_of_le ?_ (Nat.pow_le_pow_right (by decide) c))
   rw [Nat.pow_succ]
   cases p n <;> simp only <;> omega
theorem set_eq {a b n : Nat} (ha : a < 2 ^ n) (hb : b < 2 ^ n) (h : ∀ i, i < n → a.testBit i = b.testBit i) : a = b := by
 apply Nat.eq_of_testBit_eq
 intro i
 rcases Nat.lt_or_ge i n with c | c
 ·exact h i c
 ·rw [Nat.testBit_lt_two_pow (Nat.lt_of_lt_of_le ha (Nat.pow_le_pow_right (by decide) c)), Nat.testBit_lt_two_pow (Nat.lt_of_lt_of_le hb (Nat.pow_le_pow_right (by decide) c))]
def cntN (p : Nat → Bool) : Nat → Nat
 | 0 => 0
 | n + 1 => cntN p n + match p n with | true => 1 | false => 0
theorem cntN_le (p : Nat → Bool) : ∀ n, cntN p n ≤ n
 | 0 => Nat.le_refl _
 | n + 1 => by
  have := cntN_le p n
  rw [cntN]
  cases p n <;> simp only <;> omega
theorem cntN_congr {p q : Nat → Bool} : ∀ {n : Nat}, (∀ i, i < n → p i = q i) → cntN p n = cntN q n
 | 0, _ => rfl
 | n + 1, h => by rw [cntN, cntN, cntN_congr (n := n) fun i hi => h i (by omega), h n (by omega)]
theorem cntN_mono {p q : Nat → Bool} : ∀ {n : Nat}, (∀ i, i < n → p i = true → q i = true) → cntN p n ≤ cntN q n
 | 0, _ => Nat.le_refl _
 | n + 1, h => by
  have ih := cntN_mono (n := n) fun i hi => h i (by omega)
  have hn := h n (by omega)
  rw [cntN, cntN]
  cases hp : p n with
  | false => cases q n <;> simp only <;> omega
  | true => rw [hn hp]; simp only; omega

/-! ### Questions to a truth -/
def before (x : Tru) (a b : Nat) : Bool := decide ((x a).1 < (x b).1) || (decide ((x a).1 = (x b).1) && decide (a < b))
def over (x : Tru) (a b : Nat) : Bool := before x b a && decide ((x a).2 < (x b).2)
def anyB (p : Nat → Bool) : Nat → Bool
 | 0 => false
 | n + 1 => anyB p n || p n
theorem anyB_iff {p : Nat → Bool} : ∀ {n : Nat}, anyB p n = true ↔ ∃ i, i < n ∧ p i = true
 | 0 => ⟨fun h => Bool.noConfusion h, fun ⟨i, hi, _⟩ => absurd hi (Nat.not_lt_zero i)⟩
 | n + 1 => by
  rw [anyB, Bool.or_eq_true, anyB_iff (n := n)]
  constructor
  ·rintro (⟨i, hi, h⟩ | h)
   ·exact ⟨i, by omega, h⟩
   ·exact ⟨n, by omega, h⟩
  ·rintro ⟨i, hi, h⟩
   rcases Nat.lt_succ_iff_lt_or_eq.1 hi with c | rfl
   ·exact .inl ⟨i, c, h⟩
   ·exact .inr h
def overs (n : Nat) (x : Tru) (a : Nat) : Bool := anyB (fun b => over x a b) n
def inTurn (n : Nat) (x : Tru) (a : Nat) : Bool := !overs n x a
def inI (m lo hi : Int) : Bool := decide (lo ≤ m) && decide (m ≤ hi)
def now (x : Tru) (m : Int) : Nat → Int
 | 0 => -1
 | a + 1 => if inI m (x a).1 (x a).2 && (decide (now x m a < 0) || before x a (now x m a).toNat) then (a : Int) else now x m a
theorem now_rng (x : Tru) (m : Int) : ∀ n, -1 ≤ now x m n ∧ now x m n < n
 | 0 => by simp [now]
 | n + 1 => by
  have := now_rng x m n
  rw [now]
  split <;> omega
namespace TK
def used (t : TK) (x : Tru) (h m : Int) : Bool := anyB (fun i => decide (t.hut i = h) && inI (m - (x i).2) 0 29) t.n
def longest (x : Tru) : Nat → Int
 | 0 => 0
 | n + 1 => max (longest x n) ((x n).2 - (x n).1)
def usedN (t : TK) (x : Tru) (m : Int) : Nat := cntN (fun h => t.used x (h : Nat) m) t.huts.toNat
def mostF (t : TK) (x : Tru) : Nat → Int
 | 0 => 0
 | n + 1 => max (mostF t x n) (t.usedN x (x n).2 : Nat)
def odd (t : TK) (x : Tru) : Nat := cntN (fun i => overs t.n x i) t.n

/-! ### What is told -/
def bought (t : TK) (i : Nat) : Int × Int := hull (t.trs.map fun x => (x i).1)
def door (t : TK) (i : Nat) : Int × Int := hull (t.trs.map fun x => (x i).2)
def turn (t : TK) (i : Nat) : Int := grade (fun x => inTurn t.n x i) t.trs
def surely (t : TK) (i : Nat) : Nat := maskN (fun o => t.trs.all fun x => over x i o) t.n
def perhaps (t : TK) (i : Nat) : Nat := maskN (fun o => t.trs.any fun x => over x i o) t.n
def whose (t : TK) (m : Int) : Nat := maskN (fun i => t.trs.any fun x => decide (now x m t.n = (i : Nat))) t.n
def nobody (t : TK) (m : Int) : Bool := t.trs.any fun x => decide (now x m t.n = -1)
def freeT (t : TK) (h m : Int) : Int := grade (fun x => !t.used x h m) t.trs
def waits (t : TK) : Int × Int := hull (t.trs.map fun x => longest x t.n)
def busy (t : TK) : Int × Int := hull (t.trs.map fun x => t.mostF x t.n)
def wrong (t : TK) : Int × Int := hull (t.trs.map fun x => (t.odd x : Nat))
def pickL (S : Nat) : Nat → List Nat
 | 0 => []
 | n + 1 => pickL S n ++ match S.testBit n with | true => [n] | false => []
def only (t : TK) (S : Nat) : TK :=
 let l := pickL S t.n
 { huts := t.huts, n := l.length, bl := fun i => t.bl (l.getD i 0), bh := fun i => t.bh (l.getD i 0), hut := fun i => t.hut (l.getD i 0), dl := fun i => t.dl (l.getD i 0), dh := fun i => t.dh (l.getD i 0), b := true, cap := t.n }
def can (t : TK) (S : Nat) : Bool := !(t.only S).trs.isEmpty
def pop (S : Nat) : Nat := cntN (fun i => S.testBit i) 5
def better (t : TK) (S B : Nat) : Bool := !t.can S && decide (pop S < pop B)
def clashB (t : TK) : Nat → Nat
 | 0 => 2 ^ t.n - 1
 | S + 1 => if t.better S (clashB t S) then S else clashB t S
def clash (t : TK) : Nat := t.clashB (2 ^ t.n)
end TK
end Tic
/-
 Plain law of tickets, part 3.
-/
namespace Tic
set_option linter.unusedVariables false
namespace TK

/-! ### Truths in another order of tickets -/
structure Order (n : Nat) (ord : List Nat) : Prop where
 len : ord.length = n
 nd : ord.Nodup
 lt : ∀ k ∈ ord, k < n
 all : ∀ k, k < n → k ∈ ord
def updT (x : Tru) (k : Nat) (p : Int × Int) : Tru := fun i => if i = k then p else x i
def prsP (t : TK) (k : Nat) : List (Int × Int) := (upI (t.bl k) (t.bh k)).flatMap fun a => (upI (max a (t.dl k)) (t.dh k)).map fun b => (a, b)
theorem mem_prsP {t : TK} {k : Nat} {p : Int × Int} : p ∈ t.prsP k ↔ t.okP k p := by
 unfold prsP okP
 simp only [List.mem_flatMap, List.mem_map, mem_upI]
 constructor
 ·rintro ⟨a, ha, b, hb, rfl⟩
  simp only
  omega
 ·rintro ⟨h1, h2, h3, h4, h5⟩
  exact ⟨p.1, ⟨h1, h2⟩, p.2, ⟨by omega, h4⟩, rfl⟩
def fitsP (t : TK) (ord : List Nat) (d : Nat) (x : Tru) (p : Int × Int) : Bool := (List.range d).all fun j => !(decide (t.hut (ord.getD j 0) = t.hut (ord.getD d 0)) && near (x (ord.getD j 0)).2 p.2)
def goP (t : TK) (ord : List Nat) : Nat → Nat → Tru → List Tru
 | 0, _, x => [x]
 | r + 1, d, x => (t.prsP (ord.getD d 0)).flatMap fun p => match t.fitsP ord d x p with
  | true => goP t ord r (d + 1) (updT x (ord.getD d 0) p)
  | false => []
theorem fitsP_iff {t : TK} {ord : List Nat} {d : Nat} {x : Tru} {p : Int × Int} : t.fitsP ord d x p = true ↔ ∀ j, j < d → t.hut (ord.getD j 0) = t.hut (ord.getD d 0) → near (x (ord.getD j 0)).2 p.2 = false := by
 unfold fitsP
 simp only [List.all_eq_true, List.mem_range, Bool.not_eq_true', Bool.and_eq_false_iff, decide_eq_false_iff_not]
 refine ⟨fun H i hi e => ?_, fun H i hi => ?_⟩
 ·rcases H i hi with c | c
  ·exact absurd e c
  ·exact c
 ·by_cases e : t.hut (ord.getD i 0) = t.hut (ord.getD d 0)
  ·exact .inr (H i hi e)
  ·exact .inl e
structure Inv (t : TK) (ord : List Nat) (d : Nat) (x : Tru) : Prop where
 one : ∀ j, j < d → t.okP (ord.getD j 0) (x (ord.getD j 0))
 two : ∀ i j, i < j → j < d → t.hut (ord.getD i 0) = t.hut (ord.getD j 0) → near (x (ord.getD i 0)).2 (x (ord.getD j 0)).2 = false
 none : ∀ k, (∀ j, j < d → ord.getD j 0 ≠ k) → x k = (0, 0)
theorem Order.inj {n : Nat} {ord : List Nat} (h : Order n ord) {i j : Nat} (hi : i < n) (hj : j < n) (e : ord.getD i 0 = ord.getD j 0) : i = j := by
 have li : i < ord.length := by rw [h.len]; exact hi
 have lj : j < ord.length := by rw [h.len]; exact hj
 rw [List.getD_eq_getElem?_getD, List.getD_eq_getElem?_getD, List.getElem?_eq_getElem li, List.getElem?_eq_getElem lj] at e
 exact (List.getElem_inj h.nd).1 e
theorem Order.at_lt {n : Nat} {ord : List Nat} (h : Order n ord) {i : Nat} (hi : i < n) : ord.getD i 0 < n := by
 have li : i < ord.length := by rw [h.len]; exact hi
 rw [List.getD_eq_getElem?_getD, List.getElem?_eq_getElem li]
 exact h.lt _ (List.getElem_mem li)
theorem Order.at_ex {n : Nat} {ord : List Nat} (h : Order n ord) {k : Nat} (hk : k < n) : ∃ j, j < n ∧ ord.getD j 0 = k := by
 obtain ⟨j, hj, e⟩ := List.getElem_of_mem (h.all k hk)
 refine ⟨j, by rw [← h.len]; exact hj, ?_⟩
 rw [List.getD_eq_getElem?_getD, List.getElem?_eq_getElem hj]
 exact e
theorem updT_same (x : Tru) (k : Nat) (p : Int × Int) : updT x k p k = p := if_pos rfl
theorem updT_other (x : Tru) {k i : Nat} (p : Int × Int) (h : i ≠ k) : updT x k p i = x i := if_neg h
theorem Inv.step {t : TK} {ord : List Nat} (ho : Order t.n ord) {d : Nat} {x : Tru} (H : Inv t ord d x) (hd : d < t.n) {p : Int × Int} (hp : p ∈ t.prsP (ord.getD d 0)) (hf : t.fitsP ord d x p = true) : Inv t ord (d + 1) (updT x (ord.getD d 0) p) := by
 have ne : ∀ j, j < d → ord.getD j 0 ≠ ord.getD d 0 := fun j hj e => by
  have := ho.inj (by omega) hd e
  omega
 refine ⟨fun j hj => ?_, fun i j hij hj e => ?_, fun k hk => ?_⟩
 ·rcases Nat.lt_succ_iff_lt_or_eq.1 hj with c | rfl
  ·rw [updT_other _ _ (ne j c)]
   exact H.one j c
  ·rw [updT_same]
   exact mem_prsP.1 hp
 ·rcases Nat.lt_succ_iff_lt_or_eq.1 hj with c | rfl
  ·rw [updT_other _ _ (ne i (by omega)), updT_other _ _ (ne j c)]
   exact H.two i j hij c e
  ·rw [updT_other _ _ (ne i hij), updT_same]
   exact fitsP_iff.1 hf i hij e
 ·rw [updT_other _ _ (Ne.symm (hk d (Nat.lt_succ_self d)))]
  exact H.none k fun j hj => hk j (by omega)
theorem goP_sub {t : TK} {ord : List Nat} (ho : Order t.n ord) : ∀ (r d : Nat) (x : Tru), d + r = t.n → Inv t ord d x → ∀ y, y ∈ t.goP ord r d x → Inv t ord t.n y
 | 0, d, x, hd, H, y, hy => by
  rw [goP, List.mem_singleton] at hy
  subst hy
  rw [← hd]
  exact H
 | r + 1, d, x, hd, H, y, hy => by
  rw [goP, List.mem_flatMap] at hy
  obtain ⟨p, hp, hy⟩ := hy
  cases hf : t.fitsP ord d x p with
  | false => rw [hf] at hy; cases hy
  | true =>
   rw [hf] at hy
   exact goP_sub ho r (d + 1) _ (by omega) (H.step ho (by omega) hp hf) y hy
theorem goP_all {t : TK} {ord : List Nat} (ho : Order t.n ord) {y : Tru} (H : Inv t ord t.n y) : ∀ (r d : Nat) (x : Tru), d + r = t.n → (∀ j, j < d → x (ord.getD j 0) = y (ord.getD j 0)) → (∀ k, (∀ j, j < d → ord.getD j 0 ≠ k) → x k = (0, 0)) → y ∈ t.goP ord r d x
 | 0, d, x, hd, h1, h2 => by
  rw [goP, List.mem_singleton]
  funext k
  by_cases c : ∃ j, j < d ∧ ord.getD j 0 = k
  ·obtain ⟨j, hj, rfl⟩ := c
   exact (h1 j hj).symm
  ·have c' : ∀ j, j < d → ord.getD j 0 ≠ k := fun j hj e => c ⟨j, hj, e⟩
   rw [h2 k c', H.none k fun j hj => c' j (by omega)]
 | r + 1, d, x, hd, h1, h2 => by
  have hdn : d < t.n := by omega
  have ne : ∀ j, j < d → ord.getD j 0 ≠ ord.getD d 0 := fun j hj e => by
   have := ho.inj (by omega) hdn e
   omega
  rw [goP, List.mem_flatMap]
  refine ⟨y (ord.getD d 0), mem_prsP.2 (H.one d hdn), ?_⟩
  have hf : t.fitsP ord d x (y (ord.getD d 0)) = true := fitsP_iff.2 fun j hj e => by
   rw [h1 j hj]
   exact H.two j d hj hdn e
  rw [hf]
  refine goP_all ho H r (d + 1) _ (by omega) (fun j hj => ?_) fun k hk => ?_
  ·rcases Nat.lt_succ_iff_lt_or_eq.1 hj with c | rfl
   ·rw [updT_other _ _ (ne j c)]
    exact h1 j c
   ·rw [updT_same]
  ·rw [updT_other _ _ (Ne.symm (hk d (Nat.lt_succ_self d)))]
   exact h2 k fun j hj => hk j (by omega)
theorem inv_iff {t : TK} {ord : List Nat} (ho : Order t.n ord) {x : Tru} : Inv t ord t.n x ↔ Flat t.n x ∧ t.Right x := by
 constructor
 ·intro H
  refine ⟨fun k hk => H.none k fun j hj e => ?_, fun k hk => ?_, fun i k hi hk hne e => ?_⟩
  ·have := ho.at_lt hj
   omega
  ·obtain ⟨j, hj, rfl⟩ := ho.at_ex hk
   exact H.one j hj
  ·obtain ⟨a, ha, rfl⟩ := ho.at_ex hi
   obtain ⟨b, hb, rfl⟩ := ho.at_ex hk
   rcases Nat.lt_trichotomy a b with c | rfl | c
   ·exact H.two a b c hb e
   ·exact absurd rfl hne
   ·rw [near_comm]
    exact H.two b a c ha e.symm
 ·rintro ⟨hf, h1, h2⟩
  refine ⟨fun j hj => h1 _ (ho.at_lt hj), fun i j hij hj e => h2 _ _ (ho.at_lt (by omega)) (ho.at_lt hj) (fun e2 => ?_) e, fun k hk => ?_⟩
  ·have := ho.inj (by omega) hj e2
   omega
  ·refine hf k ?_
   rcases Nat.lt_or_ge k t.n with c | c
   ·obtain ⟨j, hj, e⟩ := ho.at_ex c
    exact absurd e (hk j hj)
   ·exact c
def trP (t : TK) (ord : List Nat) : List Tru := t.goP ord t.n 0 fun _ => (0, 0)
theorem mem_trP {t : TK} {ord : List Nat} (ho : Order t.n ord) {x : Tru} : x ∈ t.trP ord ↔ x ∈ t.trs := by
 rw [mem_trs, ← inv_iff ho]
 constructor
 ·intro h
  exact goP_sub ho t.n 0 _ (Nat.zero_add _) ⟨fun j hj => absurd hj (Nat.not_lt_zero j), fun i j _ hj => absurd hj (Nat.not_lt_zero j), fun _ _ => rfl⟩ x h
 ·intro H
  exact goP_all ho H t.n 0 _ (Nat.zero_add _) (fun j hj => absurd hj (Nat.not_lt_zero j)) fun _ _ => rfl
end TK
end Tic
/-
 Plain law of tickets, part 4.
-/
namespace Tic
set_option linter.unusedVariables false

theorem grade_two {α : Type} {q : α → Bool} {l : List α} (hne : l ≠ []) : grade q l = 2 ↔ ∀ x ∈ l, q x = true := by
 unfold grade
 rw [← List.all_eq_true]
 cases h : l.all q with
 | true => simp
 | false => cases l.any q <;> simp
theorem grade_zero {α : Type} {q : α → Bool} {l : List α} (hne : l ≠ []) : grade q l = 0 ↔ ∀ x ∈ l, q x = false := by
 unfold grade
 obtain ⟨z, hz⟩ := List.exists_mem_of_ne_nil l hne
 cases h : l.all q with
 | true =>
  rw [List.all_eq_true] at h
  constructor
  ·intro e
   simp at e
  ·intro H
   have := h z hz
   rw [H z hz] at this
   cases this
 | false =>
  cases h2 : l.any q with
  | true =>
   rw [List.any_eq_true] at h2
   obtain ⟨x, hx, hq⟩ := h2
   constructor
   ·intro e
    simp at e
   ·intro H
    have := H x hx
    rw [hq] at this
    cases this
  | false =>
   rw [List.any_eq_false] at h2
   simp only [Bool.false_eq_true, if_false, true_iff]
   intro x hx
   have := h2 x hx
   cases hq : q x with
   | false => rfl
   | true => exact absurd hq this
theorem grade_rng {α : Type} (q : α → Bool) (l : List α) : grade q l = 0 ∨ grade q l = 1 ∨ grade q l = 2 := by
 unfold grade
 split
 ·exact .inr (.inr rfl)
 ·split
  ·exact .inr (.inl rfl)
  ·exact .inl rfl
theorem overs_iff {n : Nat} {x : Tru} {a : Nat} : overs n x a = true ↔ ∃ b, b < n ∧ over x a b = true := anyB_iff
theorem over_iff {x : Tru} {a b : Nat} : over x a b = true ↔ ((x b).1 < (x a).1 ∨ (x b).1 = (x a).1 ∧ b < a) ∧ (x a).2 < (x b).2 := by
 unfold over before
 simp only [Bool.and_eq_true, Bool.or_eq_true, decide_eq_true_eq]
theorem inI_iff {m lo hi : Int} : inI m lo hi = true ↔ lo ≤ m ∧ m ≤ hi := by simp [inI]
theorem now_in {x : Tru} {m : Int} : ∀ {n : Nat} {i : Nat}, now x m n = (i : Nat) → i < n ∧ inI m (x i).1 (x i).2 = true
 | 0, i, h => by simp only [now] at h; omega
 | n + 1, i, h => by
  rw [now] at h
  split at h
  ·rename_i c
   have e : n = i := by omega
   subst e
   rw [Bool.and_eq_true] at c
   exact ⟨Nat.lt_succ_self _, c.1⟩
  ·obtain ⟨a, b⟩ := now_in h
   exact ⟨by omega, b⟩
namespace TK
variable {t : TK}
theorem bought_is (hne : t.trs ≠ []) (i : Nat) : IsHull (t.trs.map fun x => (x i).1) (t.bought i) := hull_is fun e => hne (List.map_eq_nil_iff.1 e)
theorem door_is (hne : t.trs ≠ []) (i : Nat) : IsHull (t.trs.map fun x => (x i).2) (t.door i) := hull_is fun e => hne (List.map_eq_nil_iff.1 e)
theorem waits_is (hne : t.trs ≠ []) : IsHull (t.trs.map fun x => longest x t.n) t.waits := hull_is fun e => hne (List.map_eq_nil_iff.1 e)
theorem busy_is (hne : t.trs ≠ []) : IsHull (t.trs.map fun x => t.mostF x t.n) t.busy := hull_is fun e => hne (List.map_eq_nil_iff.1 e)
theorem wrong_is (hne : t.trs ≠ []) : IsHull (t.trs.map fun x => ((t.odd x : Nat) : Int)) t.wrong := hull_is fun e => hne (List.map_eq_nil_iff.1 e)
theorem hull_in {f : Tru → Int} {s : Int × Int} (h : IsHull (t.trs.map f) s) {x : Tru} (hx : x ∈ t.trs) : s.1 ≤ f x ∧ f x ≤ s.2 := ⟨h.1.2 _ (List.mem_map_of_mem hx), h.2.2 _ (List.mem_map_of_mem hx)⟩
theorem hull_lo {f : Tru → Int} {s : Int × Int} (h : IsHull (t.trs.map f) s) : ∃ x ∈ t.trs, f x = s.1 := by
 obtain ⟨x, hx, e⟩ := List.mem_map.1 h.1.1
 exact ⟨x, hx, e⟩
theorem hull_hi {f : Tru → Int} {s : Int × Int} (h : IsHull (t.trs.map f) s) : ∃ x ∈ t.trs, f x = s.2 := by
 obtain ⟨x, hx, e⟩ := List.mem_map.1 h.2.1
 exact ⟨x, hx, e⟩
theorem surely_bit {i o : Nat} : (t.surely i).testBit o = true ↔ o < t.n ∧ ∀ x ∈ t.trs, over x i o = true := by
 unfold surely
 rw [maskN_bit, Bool.and_eq_true, decide_eq_true_eq, List.all_eq_true]
theorem perhaps_bit {i o : Nat} : (t.perhaps i).testBit o = true ↔ o < t.n ∧ ∃ x ∈ t.trs, over x i o = true := by
 unfold perhaps
 rw [maskN_bit, Bool.and_eq_true, decide_eq_true_eq, List.any_eq_true]
theorem perhaps_lt (i : Nat) : t.perhaps i < 2 ^ t.n := maskN_lt _ _
theorem surely_lt (i : Nat) : t.surely i < 2 ^ t.n := maskN_lt _ _
theorem zero_bits {S n : Nat} (h : S < 2 ^ n) : S = 0 ↔ ∀ i, i < n → S.testBit i = false := by
 constructor
 ·intro e i _
  rw [e, Nat.zero_testBit]
 ·intro H
  exact set_eq h (Nat.pow_pos (by decide)) fun i hi => by rw [H i hi, Nat.zero_testBit]
theorem turn_two (hne : t.trs ≠ []) {i : Nat} : t.turn i = 2 ↔ t.perhaps i = 0 := by
 unfold turn
 rw [grade_two hne, zero_bits (perhaps_lt i)]
 constructor
 ·intro H o ho
  cases h : (t.perhaps i).testBit o with
  | false => rfl
  | true =>
   obtain ⟨_, x, hx, hov⟩ := perhaps_bit.1 h
   have := H x hx
   unfold inTurn at this
   rw [overs_iff.2 ⟨o, ho, hov⟩] at this
   cases this
 ·intro H x hx
  unfold inTurn
  cases h : overs t.n x i with
  | false => rfl
  | true =>
   obtain ⟨o, ho, hov⟩ := overs_iff.1 h
   have := H o ho
   rw [perhaps_bit.2 ⟨ho, x, hx, hov⟩] at this
   cases this
theorem turn_zero (hne : t.trs ≠ []) {i : Nat} (h : t.surely i ≠ 0) : t.turn i = 0 := by
 unfold turn
 rw [grade_zero hne]
 intro x hx
 have : ∃ o, (t.surely i).testBit o = true := by
  refine Classical.byContradiction fun c => h ((zero_bits (surely_lt i)).2 fun o _ => ?_)
  cases hb : (t.surely i).testBit o with
  | false => rfl
  | true => exact absurd ⟨o, hb⟩ c
 obtain ⟨o, hb⟩ := this
 obtain ⟨ho, H⟩ := surely_bit.1 hb
 unfold inTurn
 rw [overs_iff.2 ⟨o, ho, H x hx⟩]
 rfl
theorem surely_perhaps (hne : t.trs ≠ []) {i o : Nat} (h : (t.surely i).testBit o = true) : (t.perhaps i).testBit o = true := by
 obtain ⟨ho, H⟩ := surely_bit.1 h
 obtain ⟨z, hz⟩ := List.exists_mem_of_ne_nil _ hne
 exact perhaps_bit.2 ⟨ho, z, hz, H z hz⟩
theorem whose_lt (m : Int) : t.whose m < 2 ^ t.n := maskN_lt _ _
theorem whose_bit {m : Int} {i : Nat} : (t.whose m).testBit i = true ↔ i < t.n ∧ ∃ x ∈ t.trs, now x m t.n = (i : Nat) := by
 unfold whose
 rw [maskN_bit, Bool.and_eq_true, decide_eq_true_eq, List.any_eq_true]
 simp only [decide_eq_true_eq]
theorem whose_some (hne : t.trs ≠ []) (m : Int) : t.whose m ≠ 0 ∨ t.nobody m = true := by
 obtain ⟨z, hz⟩ := List.exists_mem_of_ne_nil _ hne
 have hr := now_rng z m t.n
 by_cases c : now z m t.n = -1
 ·refine .inr ?_
  unfold nobody
  rw [List.any_eq_true]
  exact ⟨z, hz, decide_eq_true c⟩
 ·left
  intro e
  have hb := whose_bit (t := t) (m := m) (i := (now z m t.n).toNat)
  rw [e, Nat.zero_testBit] at hb
  exact absurd (hb.2 ⟨by omega, z, hz, by omega⟩) (by decide)
end TK
end Tic
/-
 Plain law of tickets, part 5.
-/
namespace Tic
set_option linter.unusedVariables false
namespace TK
variable {t : TK}

/-! ### The minutes of one ticket known -/
def fix (t : TK) (i : Nat) (x y : Int) : TK := { t with bl := fun k => if k = i then x else t.bl k, bh := fun k => if k = i then x else t.bh k, dl := fun k => if k = i then y else t.dl k, dh := fun k => if k = i then y else t.dh k }
theorem mem_fix {i : Nat} (hi : i < t.n) {x y : Int} (hx : t.bl i ≤ x ∧ x ≤ t.bh i) (hy : t.dl i ≤ y ∧ y ≤ t.dh i) {z : Tru} : z ∈ (t.fix i x y).trs ↔ z ∈ t.trs ∧ z i = (x, y) := by
 rw [mem_trs, mem_trs]
 have key : ∀ k, (t.fix i x y).okP k (z k) ↔ if k = i then z k = (x, y) ∧ x ≤ y else t.okP k (z k) := fun k => by
  unfold okP fix
  simp only
  by_cases c : k = i
  ·simp only [if_pos c]
   constructor
   ·intro h
    exact ⟨Prod.ext (by omega) (by omega), by omega⟩
   ·rintro ⟨h, h2⟩
    rw [h]
    simp only
    omega
  ·simp only [if_neg c]
 constructor
 ·rintro ⟨h1, h2, h3⟩
  have hz := (key i).1 (h2 i hi)
  rw [if_pos rfl] at hz
  refine ⟨⟨h1, fun k hk => ?_, h3⟩, hz.1⟩
  have := (key k).1 (h2 k hk)
  by_cases c : k = i
  ·subst c
   rw [hz.1]
   exact ⟨hx.1, hx.2, hy.1, hy.2, hz.2⟩
  ·rwa [if_neg c] at this
 ·rintro ⟨⟨h1, h2, h3⟩, hz⟩
  refine ⟨h1, fun k hk => (key k).2 ?_, h3⟩
  have := h2 k hk
  by_cases c : k = i
  ·subst c
   rw [if_pos rfl]
   refine ⟨hz, ?_⟩
   have := this.2.2.2.2
   rw [hz] at this
   exact this
  ·rwa [if_neg c]
theorem fix_turn (hne : t.trs ≠ []) {i : Nat} (hi : i < t.n) (v : Int) (hv : v = 2 ∨ v = 0) :
  t.turn i = v ↔ ∀ x y, t.bl i ≤ x ∧ x ≤ t.bh i → t.dl i ≤ y ∧ y ≤ t.dh i → (t.fix i x y).trs ≠ [] → (t.fix i x y).turn i = v := by
 have ok : ∀ z ∈ t.trs, (t.bl i ≤ (z i).1 ∧ (z i).1 ≤ t.bh i) ∧ t.dl i ≤ (z i).2 ∧ (z i).2 ≤ t.dh i := fun z hz => by
  have := (mem_trs.1 hz).2.1 i hi
  unfold okP at this
  omega
 have ne : ∀ z ∈ t.trs, (t.fix i (z i).1 (z i).2).trs ≠ [] := fun z hz e => by
  have := (mem_fix hi (ok z hz).1 (ok z hz).2).2 ⟨hz, rfl⟩
  rw [e] at this
  cases this
 rcases hv with rfl | rfl
 ·unfold turn
  rw [grade_two hne]
  constructor
  ·intro H x y hx hy hn
   rw [grade_two hn]
   exact fun z hz => H z ((mem_fix hi hx hy).1 hz).1
  ·intro H z hz
   have := H _ _ (ok z hz).1 (ok z hz).2 (ne z hz)
   rw [grade_two (ne z hz)] at this
   exact this z ((mem_fix hi (ok z hz).1 (ok z hz).2).2 ⟨hz, rfl⟩)
 ·unfold turn
  rw [grade_zero hne]
  constructor
  ·intro H x y hx hy hn
   rw [grade_zero hn]
   exact fun z hz => H z ((mem_fix hi hx hy).1 hz).1
  ·intro H z hz
   have := H _ _ (ok z hz).1 (ok z hz).2 (ne z hz)
   rw [grade_zero (ne z hz)] at this
   exact this z ((mem_fix hi (ok z hz).1 (ok z hz).2).2 ⟨hz, rfl⟩)
theorem fix_in (hne : t.trs ≠ []) {i : Nat} (hi : i < t.n) {x y : Int} (hx : t.bl i ≤ x ∧ x ≤ t.bh i) (hy : t.dl i ≤ y ∧ y ≤ t.dh i) (h : (t.fix i x y).trs ≠ []) :
  ((t.bought i).1 ≤ x ∧ x ≤ (t.bought i).2) ∧ (t.door i).1 ≤ y ∧ y ≤ (t.door i).2 := by
 obtain ⟨z, hz⟩ := List.exists_mem_of_ne_nil _ h
 obtain ⟨hz, e⟩ := (mem_fix hi hx hy).1 hz
 have a := hull_in (bought_is hne i) hz
 have b := hull_in (door_is hne i) hz
 rw [e] at a b
 exact ⟨a, b⟩
theorem fix_ends (hne : t.trs ≠ []) {i : Nat} (hi : i < t.n) (o : Nat) (v : Int) (ho : (o = 0 ∧ v = (t.bought i).1) ∨ (o = 1 ∧ v = (t.bought i).2) ∨ (o = 2 ∧ v = (t.door i).1) ∨ (o = 3 ∧ v = (t.door i).2)) :
  ∃ x y, (t.bl i ≤ x ∧ x ≤ t.bh i) ∧ (t.dl i ≤ y ∧ y ≤ t.dh i) ∧ (t.fix i x y).trs ≠ [] ∧ (if o < 2 then x else y) = v := by
 have main : ∀ z ∈ t.trs, (if o < 2 then (z i).1 else (z i).2) = v → ∃ x y, (t.bl i ≤ x ∧ x ≤ t.bh i) ∧ (t.dl i ≤ y ∧ y ≤ t.dh i) ∧ (t.fix i x y).trs ≠ [] ∧ (if o < 2 then x else y) = v := fun z hz e => by
  have := (mem_trs.1 hz).2.1 i hi
  unfold okP at this
  have hx : t.bl i ≤ (z i).1 ∧ (z i).1 ≤ t.bh i := by omega
  have hy : t.dl i ≤ (z i).2 ∧ (z i).2 ≤ t.dh i := by omega
  refine ⟨_, _, hx, hy, fun q => ?_, e⟩
  have := (mem_fix hi hx hy).2 ⟨hz, rfl⟩
  rw [q] at this
  cases this
 rcases ho with ⟨rfl, rfl⟩ | ⟨rfl, rfl⟩ | ⟨rfl, rfl⟩ | ⟨rfl, rfl⟩
 ·obtain ⟨z, hz, e⟩ := hull_lo (bought_is hne i)
  exact main z hz (by simpa using e)
 ·obtain ⟨z, hz, e⟩ := hull_hi (bought_is hne i)
  exact main z hz (by simpa using e)
 ·obtain ⟨z, hz, e⟩ := hull_lo (door_is hne i)
  exact main z hz (by simpa using e)
 ·obtain ⟨z, hz, e⟩ := hull_hi (door_is hne i)
  exact main z hz (by simpa using e)

/-! ### A ticket more -/
end TK
end Tic
/-
 Plain law of tickets, part 6.
-/
namespace Tic
set_option linter.unusedVariables false
namespace TK
variable {t : TK}

/-! ### Some of the tickets -/
def RightS (t : TK) (p : Nat → Bool) (x : Tru) : Prop := (∀ i, i < t.n → p i = true → t.okP i (x i)) ∧ ∀ i k, i < t.n → k < t.n → p i = true → p k = true → i ≠ k → t.hut i = t.hut k → near (x i).2 (x k).2 = false
theorem mem_pickL {S : Nat} : ∀ {n i : Nat}, i ∈ pickL S n ↔ i < n ∧ S.testBit i = true
 | 0, i => by simp [pickL]
 | n + 1, i => by
  rw [pickL, List.mem_append, mem_pickL (n := n)]
  cases h : S.testBit n with
  | true =>
   simp only [List.mem_singleton]
   constructor
   ·rintro (⟨a, b⟩ | rfl)
    ·exact ⟨by omega, b⟩
    ·exact ⟨Nat.lt_succ_self _, h⟩
   ·rintro ⟨a, b⟩
    rcases Nat.lt_succ_iff_lt_or_eq.1 a with c | rfl
    ·exact .inl ⟨c, b⟩
    ·exact .inr rfl
  | false =>
   constructor
   ·rintro (⟨a, b⟩ | c)
    ·exact ⟨by omega, b⟩
    ·cases c
   ·rintro ⟨a, b⟩
    rcases Nat.lt_succ_iff_lt_or_eq.1 a with c | rfl
    ·exact .inl ⟨c, b⟩
    ·rw [h] at b
     cases b
theorem pickL_nd (S : Nat) : ∀ n, (pickL S n).Nodup
 | 0 => List.nodup_nil
 | n + 1 => by
  rw [pickL, List.nodup_append]
  refine ⟨pickL_nd S n, ?_, ?_⟩
  ·cases S.testBit n <;> simp
  ·intro a ha b hb e
   subst e
   have := (mem_pickL.1 ha).1
   cases h : S.testBit n with
   | true =>
    rw [h] at hb
    have := List.mem_singleton.1 hb
    omega
   | false =>
    rw [h] at hb
    cases hb
theorem getD_mem {l : List Nat} {i : Nat} (hi : i < l.length) : l.getD i 0 ∈ l := by
 rw [List.getD_eq_getElem?_getD, List.getElem?_eq_getElem hi]
 exact List.getElem_mem hi
theorem getD_inj {l : List Nat} (hn : l.Nodup) {i j : Nat} (hi : i < l.length) (hj : j < l.length) (e : l.getD i 0 = l.getD j 0) : i = j := by
 rw [List.getD_eq_getElem?_getD, List.getD_eq_getElem?_getD, List.getElem?_eq_getElem hi, List.getElem?_eq_getElem hj] at e
 exact (List.getElem_inj hn).1 e
theorem can_iff {S : Nat} : t.can S = true ↔ ∃ x, t.RightS (fun i => S.testBit i) x := by
 have hne : t.can S = true ↔ (t.only S).trs ≠ [] := by
  unfold can
  cases (t.only S).trs <;> simp
 have hnd := pickL_nd S t.n
 have hm := fun i => mem_pickL (S := S) (n := t.n) (i := i)
 rw [hne]
 obtain ⟨l, hl⟩ : ∃ l, pickL S t.n = l := ⟨_, rfl⟩
 have e1 : (t.only S).n = l.length := by simp only [only, hl]
 have e2 : ∀ i p, (t.only S).okP i p ↔ t.okP (l.getD i 0) p := fun i p => by simp only [only, okP, hl]
 have e3 : ∀ i, (t.only S).hut i = t.hut (l.getD i 0) := fun i => by simp only [only, hl]
 rw [hl] at hnd
 simp only [hl] at hm
 constructor
 ·intro h
  obtain ⟨y, hy⟩ := List.exists_mem_of_ne_nil _ h
  obtain ⟨_, h1, h2⟩ := mem_trs.1 hy
  rw [e1] at h1 h2
  refine ⟨fun k => y (l.idxOf k), fun i hi hb => ?_, fun i k hi hk hbi hbk hne e => ?_⟩
  ·have hml : i ∈ l := (hm i).2 ⟨hi, hb⟩
   have hx := List.idxOf_lt_length_iff.2 hml
   have := (e2 _ _).1 (h1 _ hx)
   rwa [List.getD_eq_getElem?_getD, List.getElem?_eq_getElem hx, Option.getD_some, List.getElem_idxOf] at this
  ·have hmi : i ∈ l := (hm i).2 ⟨hi, hbi⟩
   have hmk : k ∈ l := (hm k).2 ⟨hk, hbk⟩
   have hxi := List.idxOf_lt_length_iff.2 hmi
   have hxk := List.idxOf_lt_length_iff.2 hmk
   have gi : l.getD (l.idxOf i) 0 = i := by rw [List.getD_eq_getElem?_getD, List.getElem?_eq_getElem hxi, Option.getD_some, List.getElem_idxOf]
   have gk : l.getD (l.idxOf k) 0 = k := by rw [List.getD_eq_getElem?_getD, List.getElem?_eq_getElem hxk, Option.getD_some, List.getElem_idxOf]
   refine h2 _ _ hxi hxk (fun q => hne ?_) (by rw [e3, e3, gi, gk]; exact e)
   rw [← gi, ← gk, q]
 ·rintro ⟨x, h1, h2⟩ hnil
  have : (fun i => if i < l.length then x (l.getD i 0) else (0, 0)) ∈ (t.only S).trs := by
   refine mem_trs.2 ⟨fun i hi => if_neg (by omega), fun i hi => ?_, fun i k hi hk hne e => ?_⟩
   ·rw [e1] at hi
    rw [e2]
    simp only [if_pos hi]
    have := (hm _).1 (getD_mem hi)
    exact h1 _ this.1 this.2
   ·rw [e1] at hi hk
    rw [e3, e3] at e
    simp only [if_pos hi, if_pos hk]
    have a := (hm _).1 (getD_mem hi)
    have b := (hm _).1 (getD_mem hk)
    exact h2 _ _ a.1 b.1 a.2 b.2 (fun q => hne (getD_inj hnd hi hk q)) e
  rw [hnil] at this
  cases this
theorem every_bit {i : Nat} (hi : i < t.n) : (2 ^ t.n - 1).testBit i = true := by
 rw [Nat.testBit_two_pow_sub_one]
 exact decide_eq_true hi
theorem can_every : t.can (2 ^ t.n - 1) = true ↔ t.trs ≠ [] := by
 rw [can_iff]
 constructor
 ·rintro ⟨x, h1, h2⟩ hnil
  have : (fun i => if i < t.n then x i else (0, 0)) ∈ t.trs := by
   refine mem_trs.2 ⟨fun i hi => if_neg (by omega), fun i hi => ?_, fun i k hi hk hne e => ?_⟩
   ·simp only [if_pos hi]
    exact h1 i hi (every_bit hi)
   ·simp only [if_pos hi, if_pos hk]
    exact h2 i k hi hk (every_bit hi) (every_bit hk) hne e
  rw [hnil] at this
  cases this
 ·intro h
  obtain ⟨y, hy⟩ := List.exists_mem_of_ne_nil _ h
  obtain ⟨_, h1, h2⟩ := mem_trs.1 hy
  exact ⟨y, fun i hi _ => h1 i hi, fun i k hi hk _ _ => h2 i k hi hk⟩
def IsClash (t : TK) (S : Nat) : Prop := S < 2 ^ t.n ∧ t.can S = false ∧ ∀ T, T < 2 ^ t.n → t.can T = false → pop S < pop T ∨ pop S = pop T ∧ S ≤ T
theorem IsClash.uniq {S S' : Nat} (h : t.IsClash S) (h' : t.IsClash S') : S = S' := by
 have a := h.2.2 S' h'.1 h'.2.1
 have b := h'.2.2 S h.1 h.2.1
 omega
theorem pop_le5 (S : Nat) : pop S ≤ 5 := cntN_le _ 5
theorem cntN_eq {p q : Nat → Bool} : ∀ {n : Nat}, (∀ i, i < n → p i = true → q i = true) → cntN p n = cntN q n → ∀ i, i < n → p i = q i
 | 0, _, _ => fun i hi => absurd hi (Nat.not_lt_zero i)
 | n + 1, h, e => fun i hi => by
  have hm := cntN_mono (n := n) fun i hi => h i (by omega)
  have hn := h n (Nat.lt_succ_self n)
  rw [cntN, cntN] at e
  have e2 : cntN p n = cntN q n ∧ p n = q n := by
   cases hp : p n with
   | true => rw [hp, hn hp] at e; exact ⟨by simp only at e; omega, (hn hp).symm⟩
   | false =>
    cases hq : q n with
    | true => rw [hp, hq] at e; simp only at e; omega
    | false => rw [hp, hq] at e; exact ⟨by simp only at e; omega, rfl⟩
  rcases Nat.lt_succ_iff_lt_or_eq.1 hi with c | rfl
  ·exact cntN_eq (fun i hi => h i (by omega)) e2.1 i c
  ·exact e2.2
theorem pop_most {S n : Nat} (hn : n ≤ 5) (hS : S < 2 ^ n) : pop S ≤ pop (2 ^ n - 1) ∧ (pop S = pop (2 ^ n - 1) → S = 2 ^ n - 1) := by
 have key : ∀ i, i < 5 → S.testBit i = true → (2 ^ n - 1).testBit i = true := fun i hi hb => by
  rw [Nat.testBit_two_pow_sub_one]
  refine decide_eq_true ?_
  rcases Nat.lt_or_ge i n with c | c
  ·exact c
  ·rw [Nat.testBit_lt_two_pow (Nat.lt_of_lt_of_le hS (Nat.pow_le_pow_right (by decide) c))] at hb
   cases hb
 refine ⟨cntN_mono key, fun e => ?_⟩
 have := cntN_eq key e
 exact set_eq hS (by have := Nat.pow_pos (n := n) (show 0 < 2 by decide); omega) fun i hi => this i (by omega)
theorem clashB_is (hn : t.n ≤ 5) (h0 : t.trs = []) : ∀ m, m ≤ 2 ^ t.n → (t.clashB m < 2 ^ t.n ∧ t.can (t.clashB m) = false ∧ (t.clashB m < m ∨ t.clashB m = 2 ^ t.n - 1)) ∧ ∀ T, T < m → t.can T = false → pop (t.clashB m) < pop T ∨ pop (t.clashB m) = pop T ∧ t.clashB m ≤ T
 | 0, _ => by
  have hp := Nat.pow_pos (n := t.n) (show 0 < 2 by decide)
  refine ⟨⟨?_, ?_, .inr rfl⟩, fun T hT => absurd hT (Nat.not_lt_zero T)⟩
  ·show 2 ^ t.n - 1 < 2 ^ t.n
   omega
  ·show t.can (2 ^ t.n - 1) = false
   cases h : t.can (2 ^ t.n - 1) with
   | false => rfl
   | true => exact absurd h0 (can_every.1 h)
 | m + 1, hm => by
  obtain ⟨⟨a1, a2, a3⟩, b⟩ := clashB_is hn h0 m (by omega)
  rw [clashB]
  cases hb : t.better m (t.clashB m) with
  | true =>
   unfold better at hb
   simp only [Bool.and_eq_true, Bool.not_eq_true', decide_eq_true_eq] at hb
   rw [if_pos rfl]
   refine ⟨⟨by omega, hb.1, .inl (Nat.lt_succ_self m)⟩, fun T hT hc => ?_⟩
   rcases Nat.lt_succ_iff_lt_or_eq.1 hT with c | rfl
   ·have := b T c hc
    omega
   ·exact .inr ⟨rfl, Nat.le_refl _⟩
  | false =>
   rw [if_neg (by decide)]
   refine ⟨⟨a1, a2, by omega⟩, fun T hT hc => ?_⟩
   rcases Nat.lt_succ_iff_lt_or_eq.1 hT with c | rfl
   ·exact b T c hc
   ·have hle : pop (t.clashB T) ≤ pop T := by
     unfold better at hb
     rw [hc] at hb
     simpa using hb
    rcases a3 with c | c
    ·omega
    ·have := pop_most hn (S := T) (by omega)
     rw [c] at hle ⊢
     by_cases e : pop T = pop (2 ^ t.n - 1)
     ·have := this.2 e
      omega
     ·omega
theorem clash_is (hn : t.n ≤ 5) (h0 : t.trs = []) : t.IsClash t.clash := by
 obtain ⟨⟨a1, a2, _⟩, b⟩ := clashB_is hn h0 (2 ^ t.n) (Nat.le_refl _)
 exact ⟨a1, a2, b⟩
end TK
end Tic
