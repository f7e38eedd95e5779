/-
  Parts: B3, T2, A10, T3, B4, B5.
-/
import Derived.Test.YtioajogaghgipaaP17
set_option linter.unusedVariables false
/-
 Contract: ticket.open.
-/
namespace Go.Proofs.Ytioajogaghgipaa
open Go Go.Sy Tic
set_option linter.unusedSimpArgs false
set_option maxRecDepth 100000
set_option maxHeartbeats 4000000
attribute [local irreducible] CallP CodeP Ent YieldP

def okB (t : TK) (i : Nat) : Bool := inI (t.hut i) 0 (t.huts - 1) && (spanB (t.bl i) (t.bh i) && spanB (t.dl i) (t.dh i))
theorem okB_iff {t : TK} {i : Nat} : okB t i = true ↔ t.okT i := by
 unfold okB TK.okT
 rw [Bool.and_eq_true, Bool.and_eq_true, inI_iff, spanB_iff, spanB_iff]
theorem gi {g : Bool} : under (some g) (g = true) := fun h => h
def panE (e : Int) : SV := .iface 126 (.agg [.int .i64 e])
def K48 (t : TK) (b : Bool) : CE → SHeap → Prop := fun ce h' =>
 (t.Valid ∧ b = true ∧ t.n = 0 ∧ ce = .ret (.ptr 1 0) ∧ h' = [some (.roa 5 t.n (TF t)), some (.cells [.int .i64 t.huts, .osl t.b 0 5 t.n t.cap, .snil])]) ∨
 (t.Valid ∧ b = true ∧ 0 < t.n ∧ ∃ c, (t.n ≤ c ∧ c ≤ 9223372036854775807) ∧ ce = .ret (.ptr 1 0) ∧ h' = [some (.roa 5 t.n (TF t)), some (.cells [.int .i64 t.huts, .osl t.b 0 5 t.n t.cap, .slice 2 1 0 t.n c]), some (.arr 1 t.n c (rowO (srtF t.hut t.n)))]) ∨
 (¬ t.Valid ∧ ce = .panic (panE 1) ∧ h' = [some (.roa 5 t.n (TF t))]) ∨ (t.Valid ∧ b = false ∧ ce = .panic (panE 2) ∧ h' = [some (.roa 5 t.n (TF t))])
theorem one1 {get : Nat → List SV} (h : allOne (get 0) = true) : allOneN get 0 1 := fun k hk => by
 have h0 : k = 0 := Nat.lt_one_iff.1 hk
 subst h0
 exact h
theorem rowO_next (k j : Nat) (hj : j = k + 1) : ∀ q, q < k + 1 + 1 → selL (decide (q < k + 1)) (rowO id q) (getOf 1 (splice (repL 1 [SV.int .i64 0]) (0 * 1) [SV.int .i64 (j : Nat)]) (0 + (q - (k + 1)))) = rowO id q := by
 intro q hq
 subst hj
 by_cases c : q < k + 1
 ·rw [decide_eq_true c, selL_true]
 ·have e : q = k + 1 := by omega
  subst e
  rw [decide_eq_false c, selL_false, Nat.sub_self]
  rfl
theorem t48 (t : TK) (b : Bool) (hn : t.n ≤ 1000000) (hh : InR .i64 t.huts) : CallP Try.prog 48 [TA t, .bool b] [some (.roa 5 t.n (TF t))] (K48 t b) := by
 obtain ⟨b0, e0⟩ : ∃ x, inI t.huts 1 4 = x := ⟨_, rfl⟩
 have c0 := t97 t.huts 1 4
 rw [e0] at c0
 refine callK (E := E) E_ok Try.func48 rfl ?_
 (repeat' first|exact ap|refine aN ?_ ?_)
 refine c0.use [] ?_ trivial rfl
 (repeat' first|exact ap|refine aN ?_ ?_)
 all_goals first | exact g1 | exact g1f | exact g2 | exact g2f | exact gn | exact gi | ((with_reducible show under _ _); first | exact fun hh => hh | exact u1 (lt64 (by omega)) | exact u0 (lt64 (by omega)) | exact u0 (by omega) | exact u1 (by omega)) | skip
 refine must (fun hb => ?_) (fun hb => ?_)
 ·have h45 : (1 ≤ t.huts ∧ t.huts ≤ 4) ∧ t.n ≤ 5 := by
   cases b0 with
   | false => cases hb
   | true =>
    have := inI_iff.1 e0
    have := of_decide_eq_true hb
    omega
  clear hb c0 e0
  (repeat' first|exact ap|refine aN ?_ ?_)
  refine loopP E_ok [1, 2, 5, 6, 23, 24] (fun g : Nat × Nat => [(25, .int .i64 g.1)]) (fun g _ => match g.1 with
    | 0 => [some (.roa 5 t.n (TF t)), some (.cells (tb t)), some (.cells [.int .i64 t.huts, .osl t.b 0 5 t.n t.cap, .snil])]
    | k + 1 => [some (.roa 5 t.n (TF t)), some (.cells (tb t)), some (.cells [.int .i64 t.huts, .osl t.b 0 5 t.n t.cap, .slice 3 1 0 (k + 1) g.2]), some (.arr 1 (k + 1) g.2 (rowO id))])
   (fun g => g.1 ≤ t.n ∧ (0 < g.1 → g.1 ≤ g.2 ∧ g.2 ≤ 9223372036854775807) ∧ ∀ j, j < g.1 → okB t j = true) (fun g => t.n - g.1) (0, 0) ⟨Nat.zero_le _, fun h => absurd h (Nat.lt_irrefl 0), fun j hj => absurd hj (Nat.not_lt_zero j)⟩ ?_ ?_
  ·exact ent_tau [0, 1, 2] ⟨by (repeat' first|exact fp|refine aN ?_ ?_), by (repeat' first|exact tm|refine aN ?_ ?_), rfl⟩
  rintro ⟨i, c⟩ ⟨hi, hc, hall⟩
  simp only at hi hc hall
  cases i with
  | zero =>
   refine And.intro ?_ (And.intro (fun hlt => ?_) (fun hlt => ?_))
   ·(repeat' first|exact ap|refine aN ?_ ?_)
   ·have hlt' : 0 < t.n := by
     have := of_decide_eq_true hlt
     try simp only at this
     omega
    have eJ : 0 + Int.toNat (0 : Int) = 0 := by omega
    have c1 := t97 (t.hut (0 + Int.toNat (0 : Int))) 0 (t.huts - 1)
    have c2 := t98 (t.bl (0 + Int.toNat (0 : Int))) (t.bh (0 + Int.toNat (0 : Int)))
    have c3 := t98 (t.dl (0 + Int.toNat (0 : Int))) (t.dh (0 + Int.toNat (0 : Int)))
    obtain ⟨b1, e1⟩ : ∃ x, inI (t.hut (0 + Int.toNat (0 : Int))) 0 (t.huts - 1) = x := ⟨_, rfl⟩
    obtain ⟨b2, e2⟩ : ∃ x, spanB (t.bl (0 + Int.toNat (0 : Int))) (t.bh (0 + Int.toNat (0 : Int))) = x := ⟨_, rfl⟩
    obtain ⟨b3, e3⟩ : ∃ x, spanB (t.dl (0 + Int.toNat (0 : Int))) (t.dh (0 + Int.toNat (0 : Int))) = x := ⟨_, rfl⟩
    have hok : okB t 0 = (b1 && (b2 && b3)) := by
     unfold okB
     rw [← e1, ← e2, ← e3, eJ]
    rw [e1] at c1
    rw [e2] at c2
    rw [e3] at c3
    have hbad : (b1 && (b2 && b3)) = false → ¬ t.Valid := fun q hv => by
     have := okB_iff.2 (hv.2.2 _ hlt')
     rw [hok, q] at this
     cases this
    (repeat' first|exact ap|refine aN ?_ ?_)
    all_goals first | exact g1 | exact g1f | exact g2 | exact g2f | exact gn | exact gi | ((with_reducible show under _ _); first | exact fun hh => hh | exact u1 (lt64 (by omega)) | exact u0 (lt64 (by omega)) | exact u0 (by omega) | exact u1 (by omega)) | skip
    all_goals first | exact gd | skip
    refine c1.use [] ?_ trivial rfl
    cases b1 with
    | false =>
     all_goals (repeat' first|exact ap|refine aN ?_ ?_)
     all_goals first | exact gd | skip
     all_goals intro q1
     all_goals first | (exfalso; revert q1; simp [gB, wB]; done) | skip
     all_goals (repeat' first|exact ap|refine aN ?_ ?_)
     all_goals first | exact gd | skip
     all_goals intro q2
     all_goals first | (exfalso; revert q2; simp [gB, wB]; done) | skip
     (repeat' first|exact ap|refine aN ?_ ?_)
     all_goals first | exact g1 | exact g1f | exact g2 | exact g2f | exact gn | exact gi | ((with_reducible show under _ _); first | exact fun hh => hh | exact u1 (lt64 (by omega)) | exact u0 (lt64 (by omega)) | exact u0 (by omega) | exact u1 (by omega)) | skip
     refine must (fun hb => ?_) (fun hb => ?_)
     ·cases hb
     ·(repeat' first|exact ap|refine aN ?_ ?_)
      refine ⟨_, _, .inr (.inr (.inl ⟨hbad rfl, rfl, rfl⟩)), ?_⟩
      exact ent_tau [0] ⟨by (repeat' first|exact fp|refine aN ?_ ?_), by (repeat' first|exact tm|refine aN ?_ ?_), rfl⟩
    | true =>
     all_goals (repeat' first|exact ap|refine aN ?_ ?_)
     all_goals first | exact gd | skip
     all_goals intro q1
     all_goals first | (exfalso; revert q1; simp [gB, wB]; done) | skip
     refine c2.use [] ?_ trivial rfl
     cases b2 with
     | false =>
      all_goals (repeat' first|exact ap|refine aN ?_ ?_)
      all_goals first | exact gd | skip
      all_goals intro q2
      all_goals first | (exfalso; revert q2; simp [gB, wB]; done) | skip
      (repeat' first|exact ap|refine aN ?_ ?_)
      all_goals first | exact g1 | exact g1f | exact g2 | exact g2f | exact gn | exact gi | ((with_reducible show under _ _); first | exact fun hh => hh | exact u1 (lt64 (by omega)) | exact u0 (lt64 (by omega)) | exact u0 (by omega) | exact u1 (by omega)) | skip
      refine must (fun hb => ?_) (fun hb => ?_)
      ·cases hb
      ·(repeat' first|exact ap|refine aN ?_ ?_)
       refine ⟨_, _, .inr (.inr (.inl ⟨hbad rfl, rfl, rfl⟩)), ?_⟩
       exact ent_tau [0] ⟨by (repeat' first|exact fp|refine aN ?_ ?_), by (repeat' first|exact tm|refine aN ?_ ?_), rfl⟩
     | true =>
      all_goals (repeat' first|exact ap|refine aN ?_ ?_)
      all_goals first | exact gd | skip
      all_goals intro q2
      all_goals first | (exfalso; revert q2; simp [gB, wB]; done) | skip
      refine c3.use [] ?_ trivial rfl
      cases b3 with
      | false =>
       (repeat' first|exact ap|refine aN ?_ ?_)
       all_goals first | exact g1 | exact g1f | exact g2 | exact g2f | exact gn | exact gi | ((with_reducible show under _ _); first | exact fun hh => hh | exact u1 (lt64 (by omega)) | exact u0 (lt64 (by omega)) | exact u0 (by omega) | exact u1 (by omega)) | skip
       all_goals first | exact gd | skip
       refine must (fun hb => ?_) (fun hb => ?_)
       ·cases hb
       ·(repeat' first|exact ap|refine aN ?_ ?_)
        refine ⟨_, _, .inr (.inr (.inl ⟨hbad rfl, rfl, rfl⟩)), ?_⟩
        exact ent_tau [0] ⟨by (repeat' first|exact fp|refine aN ?_ ?_), by (repeat' first|exact tm|refine aN ?_ ?_), rfl⟩
      | true =>
       (repeat' first|exact ap|refine aN ?_ ?_)
       all_goals first | exact g1 | exact g1f | exact g2 | exact g2f | exact gn | exact gi | ((with_reducible show under _ _); first | exact fun hh => hh | exact u1 (lt64 (by omega)) | exact u0 (lt64 (by omega)) | exact u0 (by omega) | exact u1 (by omega)) | skip
       all_goals first | exact gd | skip
       refine must (fun hb => ?_) (fun hb => ?_)
       ·(repeat' first|exact ap|refine aN ?_ ?_)
        all_goals first | decide | exact one1 rfl | (show 1 * 8 ≤ 140737488355328; decide) | skip
        intro c' hc1 hc2
        (repeat' first|exact ap|refine aN ?_ ?_)
        all_goals first | decide | omega | skip
        refine ⟨(0 + 1, c'), ⟨hlt', fun _ => ⟨hc1, hc2⟩, fun j hj => ?_⟩, by simp only; omega, ?_⟩
        ·obtain rfl : j = 0 := by
          simp only at hj
          omega
         exact hok
        refine ent_tau [0, 1, 2, 5] ⟨?_, by (repeat' first|exact tm|refine aN ?_ ?_), rfl⟩
        (repeat' first|exact fp|refine aN ?_ ?_)
        all_goals exact (fun q hq => by have h0 : q = 0 := Nat.lt_one_iff.1 hq; subst h0; rfl)
       ·cases hb
   ·have e : t.n = 0 := by
     have := of_decide_eq_false hlt
     try simp only at this
     omega
    have hv : t.Valid := ⟨h45.1, by omega, fun j hj => absurd hj (by omega)⟩
    (repeat' first|exact ap|refine aN ?_ ?_)
    refine must (fun hb => ?_) (fun hb => ?_)
    ·subst hb
     (repeat' first|exact ap|refine aN ?_ ?_)
     refine t99n.use [1] ?_ (by (repeat' first|exact fp|refine aN ?_ ?_)) rfl
     (repeat' first|exact ap|refine aN ?_ ?_)
     refine ⟨_, _, .inl ⟨hv, rfl, e, rfl, rfl⟩, ?_⟩
     exact ent_tau [0, 2] ⟨by (repeat' first|exact fp|refine aN ?_ ?_), by (repeat' first|exact tm|refine aN ?_ ?_), rfl⟩
    ·(repeat' first|exact ap|refine aN ?_ ?_)
     refine ⟨_, _, .inr (.inr (.inr ⟨hv, hb, rfl, rfl⟩)), ?_⟩
     exact ent_tau [0] ⟨by (repeat' first|exact fp|refine aN ?_ ?_), by (repeat' first|exact tm|refine aN ?_ ?_), rfl⟩
  | succ k =>
   refine And.intro ?_ (And.intro (fun hlt => ?_) (fun hlt => ?_))
   ·(repeat' first|exact ap|refine aN ?_ ?_)
   ·have hlt' : (k + 1) < t.n := by
     have := of_decide_eq_true hlt
     try simp only at this
     omega
    have eJ : 0 + Int.toNat ((k + 1 : Nat) : Int) = (k + 1) := by omega
    have c1 := t97 (t.hut (0 + Int.toNat ((k + 1 : Nat) : Int))) 0 (t.huts - 1)
    have c2 := t98 (t.bl (0 + Int.toNat ((k + 1 : Nat) : Int))) (t.bh (0 + Int.toNat ((k + 1 : Nat) : Int)))
    have c3 := t98 (t.dl (0 + Int.toNat ((k + 1 : Nat) : Int))) (t.dh (0 + Int.toNat ((k + 1 : Nat) : Int)))
    obtain ⟨b1, e1⟩ : ∃ x, inI (t.hut (0 + Int.toNat ((k + 1 : Nat) : Int))) 0 (t.huts - 1) = x := ⟨_, rfl⟩
    obtain ⟨b2, e2⟩ : ∃ x, spanB (t.bl (0 + Int.toNat ((k + 1 : Nat) : Int))) (t.bh (0 + Int.toNat ((k + 1 : Nat) : Int))) = x := ⟨_, rfl⟩
    obtain ⟨b3, e3⟩ : ∃ x, spanB (t.dl (0 + Int.toNat ((k + 1 : Nat) : Int))) (t.dh (0 + Int.toNat ((k + 1 : Nat) : Int))) = x := ⟨_, rfl⟩
    have hok : okB t (k + 1) = (b1 && (b2 && b3)) := by
     unfold okB
     rw [← e1, ← e2, ← e3, eJ]
    rw [e1] at c1
    rw [e2] at c2
    rw [e3] at c3
    have hbad : (b1 && (b2 && b3)) = false → ¬ t.Valid := fun q hv => by
     have := okB_iff.2 (hv.2.2 _ hlt')
     rw [hok, q] at this
     cases this
    (repeat' first|exact ap|refine aN ?_ ?_)
    all_goals first | exact g1 | exact g1f | exact g2 | exact g2f | exact gn | exact gi | ((with_reducible show under _ _); first | exact fun hh => hh | exact u1 (lt64 (by omega)) | exact u0 (lt64 (by omega)) | exact u0 (by omega) | exact u1 (by omega)) | skip
    all_goals first | exact gd | skip
    refine c1.use [] ?_ trivial rfl
    cases b1 with
    | false =>
     all_goals (repeat' first|exact ap|refine aN ?_ ?_)
     all_goals first | exact gd | skip
     all_goals intro q1
     all_goals first | (exfalso; revert q1; simp [gB, wB]; done) | skip
     all_goals (repeat' first|exact ap|refine aN ?_ ?_)
     all_goals first | exact gd | skip
     all_goals intro q2
     all_goals first | (exfalso; revert q2; simp [gB, wB]; done) | skip
     (repeat' first|exact ap|refine aN ?_ ?_)
     all_goals first | exact g1 | exact g1f | exact g2 | exact g2f | exact gn | exact gi | ((with_reducible show under _ _); first | exact fun hh => hh | exact u1 (lt64 (by omega)) | exact u0 (lt64 (by omega)) | exact u0 (by omega) | exact u1 (by omega)) | skip
     refine must (fun hb => ?_) (fun hb => ?_)
     ·cases hb
     ·(repeat' first|exact ap|refine aN ?_ ?_)
      refine ⟨_, _, .inr (.inr (.inl ⟨hbad rfl, rfl, rfl⟩)), ?_⟩
      exact ent_tau [0] ⟨by (repeat' first|exact fp|refine aN ?_ ?_), by (repeat' first|exact tm|refine aN ?_ ?_), rfl⟩
    | true =>
     all_goals (repeat' first|exact ap|refine aN ?_ ?_)
     all_goals first | exact gd | skip
     all_goals intro q1
     all_goals first | (exfalso; revert q1; simp [gB, wB]; done) | skip
     refine c2.use [] ?_ trivial rfl
     cases b2 with
     | false =>
      all_goals (repeat' first|exact ap|refine aN ?_ ?_)
      all_goals first | exact gd | skip
      all_goals intro q2
      all_goals first | (exfalso; revert q2; simp [gB, wB]; done) | skip
      (repeat' first|exact ap|refine aN ?_ ?_)
      all_goals first | exact g1 | exact g1f | exact g2 | exact g2f | exact gn | exact gi | ((with_reducible show under _ _); first | exact fun hh => hh | exact u1 (lt64 (by omega)) | exact u0 (lt64 (by omega)) | exact u0 (by omega) | exact u1 (by omega)) | skip
      refine must (fun hb => ?_) (fun hb => ?_)
      ·cases hb
      ·(repeat' first|exact ap|refine aN ?_ ?_)
       refine ⟨_, _, .inr (.inr (.inl ⟨hbad rfl, rfl, rfl⟩)), ?_⟩
       exact ent_tau [0] ⟨by (repeat' first|exact fp|refine aN ?_ ?_), by (repeat' first|exact tm|refine aN ?_ ?_), rfl⟩
     | true =>
      all_goals (repeat' first|exact ap|refine aN ?_ ?_)
      all_goals first | exact gd | skip
      all_goals intro q2
      all_goals first | (exfalso; revert q2; simp [gB, wB]; done) | skip
      refine c3.use [] ?_ trivial rfl
      cases b3 with
      | false =>
       (repeat' first|exact ap|refine aN ?_ ?_)
       all_goals first | exact g1 | exact g1f | exact g2 | exact g2f | exact gn | exact gi | ((with_reducible show under _ _); first | exact fun hh => hh | exact u1 (lt64 (by omega)) | exact u0 (lt64 (by omega)) | exact u0 (by omega) | exact u1 (by omega)) | skip
       all_goals first | exact gd | skip
       refine must (fun hb => ?_) (fun hb => ?_)
       ·cases hb
       ·(repeat' first|exact ap|refine aN ?_ ?_)
        refine ⟨_, _, .inr (.inr (.inl ⟨hbad rfl, rfl, rfl⟩)), ?_⟩
        exact ent_tau [0] ⟨by (repeat' first|exact fp|refine aN ?_ ?_), by (repeat' first|exact tm|refine aN ?_ ?_), rfl⟩
      | true =>
       (repeat' first|exact ap|refine aN ?_ ?_)
       all_goals first | exact g1 | exact g1f | exact g2 | exact g2f | exact gn | exact gi | ((with_reducible show under _ _); first | exact fun hh => hh | exact u1 (lt64 (by omega)) | exact u0 (lt64 (by omega)) | exact u0 (by omega) | exact u1 (by omega)) | skip
       all_goals first | exact gd | skip
       refine must (fun hb => ?_) (fun hb => ?_)
       ·(repeat' first|exact ap|refine aN ?_ ?_)
        all_goals first | exact Nat.le_refl _ | exact (hc (Nat.succ_pos k)).2 | exact one1 rfl | (show (k + 1 + 1) * 8 ≤ 140737488355328; omega) | (show (k + 1) * 8 ≤ 140737488355328; omega) | (simp only; omega) | skip
        intro c' hc1 hc2
        (repeat' first|exact ap|refine aN ?_ ?_)
        all_goals first | omega | (simp only; omega) | skip
        refine ⟨(k + 1 + 1, c'), ⟨hlt', fun _ => ⟨hc1, hc2⟩, fun j hj => ?_⟩, by simp only; omega, ?_⟩
        ·simp only at hj
         rcases Nat.lt_succ_iff_lt_or_eq.1 hj with d | rfl
         ·exact hall j d
         ·exact hok
        refine ent_tau [0, 1, 2, 6] ⟨?_, by (repeat' first|exact tm|refine aN ?_ ?_), rfl⟩
        (repeat' first|exact fp|refine aN ?_ ?_)
        all_goals exact rowO_next k _ rfl
       ·cases hb
   ·have e : t.n = k + 1 := by
     have := of_decide_eq_false hlt
     try simp only at this
     omega
    have hv : t.Valid := ⟨h45.1, h45.2, fun j hj => okB_iff.1 (hall j (by omega))⟩
    have c99 := t99 t hv c
    rw [e] at c99
    (repeat' first|exact ap|refine aN ?_ ?_)
    refine must (fun hb => ?_) (fun hb => ?_)
    ·subst hb
     (repeat' first|exact ap|refine aN ?_ ?_)
     refine c99.use [3, 0, 1] ?_ (by (repeat' first|exact fp|refine aN ?_ ?_); all_goals exact e.symm) rfl
     (repeat' first|exact ap|refine aN ?_ ?_)
     refine ⟨_, _, .inr (.inl ⟨hv, rfl, by omega, c, by rw [e]; exact hc (Nat.succ_pos k), rfl, rfl⟩), ?_⟩
     rw [e]
     exact ent_tau [0, 2, 3] ⟨by (repeat' first|exact fp|refine aN ?_ ?_), by (repeat' first|exact tm|refine aN ?_ ?_), rfl⟩
    ·(repeat' first|exact ap|refine aN ?_ ?_)
     refine ⟨_, _, .inr (.inr (.inr ⟨hv, hb, rfl, rfl⟩)), ?_⟩
     exact ent_tau [0] ⟨by (repeat' first|exact fp|refine aN ?_ ?_), by (repeat' first|exact tm|refine aN ?_ ?_), rfl⟩
 ·have hnv : ¬ t.Valid := fun hv => by
   have h1 := hv.1
   have h2 := hv.2.1
   have h3 := inI_iff.2 h1
   rw [h3] at e0
   subst e0
   have : decide (((t.n : Nat) : Int) ≤ 5) = false := hb
   have := of_decide_eq_false this
   omega
  (repeat' first|exact ap|refine aN ?_ ?_)
  refine ⟨_, _, .inr (.inr (.inl ⟨hnv, rfl, rfl⟩)), ?_⟩
  exact ent_tau [0] ⟨by (repeat' first|exact fp|refine aN ?_ ?_), by (repeat' first|exact tm|refine aN ?_ ?_), rfl⟩
end Go.Proofs.Ytioajogaghgipaa
/-
 Statements: a number in a span; tickets in which the minutes of one are known.
-/
namespace Go.Proofs.Ytioajogaghgipaa
open Go Go.Sy Tic
set_option linter.unusedSimpArgs false
set_option maxRecDepth 100000
set_option maxHeartbeats 4000000
attribute [local irreducible] CallP CodeP Ent YieldP
set_option maxHeartbeats 16000000

theorem t36 (n lo hi : Int) : CallP Try.prog 36 [.int .i64 n, .agg [.int .i64 lo, .int .i64 hi]] [] (Ret (.bool (inI n lo hi)) []) := by
 refine callR (E := E) E_ok Try.func36 rfl ?_
 (repeat' first|exact ap|refine aN ?_ ?_)
 all_goals first | exact g1 | exact g1f | exact g2 | exact g2f | exact gn | exact gi | ((with_reducible show under _ _); first | exact fun hh => hh | exact u1 (lt64 (by omega)) | exact u0 (lt64 (by omega)) | exact u0 (by omega) | exact u1 (by omega)) | skip
 refine ent_tau [] ⟨by (repeat' first|exact fp|refine aN ?_ ?_), ⟨rfl, ?_, trivial⟩, rfl⟩
 refine congrArg SV.bool ?_
 unfold inI
 cases decide (lo ≤ n) <;> rfl
theorem t33' (a b : Int) : CallP Try.prog 33 [.int .i64 a, .int .i64 b] [] (Ret (.agg [.int .i64 a, .int .i64 b]) []) := by
 refine callR (E := E) E_ok Try.func33 rfl ?_
 (repeat' first|exact ap|refine aN ?_ ?_)
 exact ent_tau [] ⟨by (repeat' first|exact fp|refine aN ?_ ?_), by (repeat' first|exact tm|refine aN ?_ ?_), rfl⟩
theorem row_app0 {f : Nat → List SV} {g : Nat → List SV} {n : Nat} : ∀ k, k < 0 + n → selL (decide (k < 0)) (g k) (f (0 + (k - 0))) = f k := fun k _ => by
 rw [decide_eq_false (Nat.not_lt_zero k), selL_false, Nat.sub_zero, Nat.zero_add]
theorem row_fix (t : TK) (i : Nat) (x y : Int) : ∀ k, k < 0 + t.n → selL (decide (k = 0 + ((i : Nat) : Int).toNat))
  (splice (selL (decide (0 + ((i : Nat) : Int).toNat = 0 + ((i : Nat) : Int).toNat)) (splice (TF t (0 + ((i : Nat) : Int).toNat)) 0 [.int .i64 x, .int .i64 x]) (TF t (0 + ((i : Nat) : Int).toNat))) 3 [.int .i64 y, .int .i64 y])
  (selL (decide (k = 0 + ((i : Nat) : Int).toNat)) (splice (TF t (0 + ((i : Nat) : Int).toNat)) 0 [.int .i64 x, .int .i64 x]) (TF t k)) = TF (t.fix i x y) k := fun k _ => by
 have ei := z1 i
 rw [ei]
 by_cases c : k = i
 ·subst c
  rw [decide_eq_true rfl, selL_true, selL_true]
  show [SV.int .i64 x, SV.int .i64 x, SV.int .i64 (t.hut k), SV.int .i64 y, SV.int .i64 y] = _
  unfold TF TK.fix
  simp
 ·rw [decide_eq_false c, selL_false, selL_false]
  unfold TF TK.fix
  simp [c]
def K41 (t : TK) (i : Nat) (x y : Int) : CE → SHeap → Prop := fun ce h' => ∃ N c, N = t.n ∧ N ≤ c ∧ c ≤ 9223372036854775807 ∧ ce = .ret (.agg [.int .i64 t.huts, .slice 1 5 0 N c]) ∧ h' = TH t ++ [some (.arr 5 N c (TF (t.fix i x y)))]
theorem t41 (t : TK) (i : Nat) (hi : i < t.n) (hn : t.n ≤ 40) (x y : Int) : CallP Try.prog 41 [TA t, .int .i64 i, .int .i64 x, .int .i64 y] (TH t) (K41 t i x y) := by
 refine callK (E := E) E_ok Try.func41 rfl ?_
 (repeat' first|exact ap|refine aN ?_ ?_)
 all_goals first | exact om | skip
 all_goals first | exact (fun k _ => rfl) | (show (0 + t.n) * 40 ≤ 140737488355328; omega) | skip
 intro c hc1 hc2
 have hc1 : 0 + t.n ≤ c := hc1
 (repeat' first|exact ap|refine aN ?_ ?_)
 all_goals first | exact om | skip
 refine cutP [] [(1, .int .i64 i), (2, .int .i64 x), (3, .int .i64 y), (8, .ptr 1 0), (9, .ptr 2 0)] (fun _ => TH t ++ [some (.cells [.int .i64 0, .snil]), some (.cells [.int .i64 t.huts, .slice 3 5 0 (0 + t.n) c]), some (.arr 5 (0 + t.n) c (TF t))]) ?_ ?_
 ·refine ent_tau [0, 2, 3, 5] ⟨?_, ?_, rfl⟩
  all_goals first | (repeat' first|exact fp|refine aN ?_ ?_) | skip
  all_goals first | exact row_app0 | (repeat' first|exact tm|refine aN ?_ ?_) | skip
 refine drawP E_ok [2] pl41_3 (by kernel_rfl) ?_
 (repeat' first|exact ap|refine aN ?_ ?_)
 all_goals first | exact om | skip
 refine (t33' x x).use [] ?_ (by (repeat' first|exact fp|refine aN ?_ ?_)) rfl
 (repeat' first|exact ap|refine aN ?_ ?_)
 all_goals first | exact om | skip
 refine (t33' y y).use [] ?_ (by (repeat' first|exact fp|refine aN ?_ ?_)) rfl
 (repeat' first|exact ap|refine aN ?_ ?_)
 all_goals first | exact om | skip
 all_goals first | (show ((i : Nat) : Int) < ((0 + t.n : Nat) : Int); omega) | (show 0 + ((i : Nat) : Int).toNat < 0 + t.n; omega) | skip
 refine ⟨_, _, ⟨0 + t.n, c, Nat.zero_add _, by omega, hc2, rfl, rfl⟩, ?_⟩
 refine ent_tau [0, 3] ⟨?_, ?_, rfl⟩
 all_goals first | (repeat' first|exact fp|refine aN ?_ ?_) | skip
 all_goals first | exact row_fix t i x y | (repeat' first|exact tm|refine aN ?_ ?_) | skip
end Go.Proofs.Ytioajogaghgipaa
/-
 Plain law of tickets, part 10.
-/
namespace Tic
set_option linter.unusedVariables false
def run {γ : Type} (step : γ → Tru → γ × Bool) : List Tru → γ → γ × Bool
 | [], g => (g, true)
 | x :: l, g => match step g x with
  | (g', true) => run step l g'
  | (g', false) => (g', false)
theorem run_append {γ : Type} {step : γ → Tru → γ × Bool} : ∀ (l1 l2 : List Tru) (g : γ), run step (l1 ++ l2) g = match run step l1 g with
  | (g', true) => run step l2 g'
  | (g', false) => (g', false)
 | [], l2, g => rfl
 | x :: l1, l2, g => by
  rw [List.cons_append, run, run]
  cases hs : step g x with
  | mk g' b =>
   cases b with
   | false => rfl
   | true => exact run_append l1 l2 g'
theorem run_go {γ : Type} {step : γ → Tru → γ × Bool} {l1 l2 : List Tru} {g g' : γ} (h : run step l1 g = (g', true)) : run step (l1 ++ l2) g = run step l2 g' := by
 rw [run_append, h]
theorem run_stop {γ : Type} {step : γ → Tru → γ × Bool} {l1 l2 : List Tru} {g g' : γ} (h : run step l1 g = (g', false)) : run step (l1 ++ l2) g = (g', false) := by
 rw [run_append, h]
namespace TK
theorem upI_nil {lo hi : Int} (h : hi < lo) : upI lo hi = [] := by
 unfold upI
 rw [show (hi - lo + 1).toNat = 0 by omega]
 rfl
theorem upI_snoc {lo x : Int} (h : lo ≤ x) : upI lo x = upI lo (x - 1) ++ [x] := by
 unfold upI
 obtain ⟨n, hn⟩ : ∃ n : Nat, (x - lo + 1).toNat = n + 1 := ⟨(x - lo).toNat, by omega⟩
 rw [hn, show (x - 1 - lo + 1).toNat = n by omega, List.range_succ, List.map_append, List.map_singleton]
 congr 2
 omega
theorem upI_part {lo hi : Int} : ∀ {m : Nat} {x : Int}, x + m = hi → lo ≤ x + 1 → ∃ rest, upI lo hi = upI lo x ++ rest
 | 0, x, h, _ => ⟨[], by rw [List.append_nil, show hi = x by omega]⟩
 | m + 1, x, h, hl => by
  obtain ⟨rest, e⟩ := upI_part (lo := lo) (hi := hi) (m := m) (x := x + 1) (by omega) (by omega)
  refine ⟨[x + 1] ++ rest, ?_⟩
  rw [e, upI_snoc (by omega), show x + 1 - 1 = x by omega, List.append_assoc]
variable (t : TK) (k : Nat)
def pre1 (a : Int) : List (Int × Int) := (upI (t.bl k) (a - 1)).flatMap fun a' => (upI (max a' (t.dl k)) (t.dh k)).map fun b' => (a', b')
def pre2 (a b : Int) : List (Int × Int) := t.pre1 k a ++ (upI (max a (t.dl k)) (b - 1)).map fun b' => (a, b')
theorem pre1_zero : t.pre1 k (t.bl k) = [] := by
 unfold pre1
 rw [upI_nil (by omega)]
 rfl
theorem pre1_all (a : Int) (h : a = t.bh k + 1) : t.pre1 k a = t.prsP k := by
 subst h
 unfold pre1 prsP
 rw [show t.bh k + 1 - 1 = t.bh k by omega]
theorem pre1_step {a : Int} (h : t.bl k ≤ a) : t.pre1 k (a + 1) = t.pre1 k a ++ (upI (max a (t.dl k)) (t.dh k)).map fun b' => (a, b') := by
 unfold pre1
 rw [show a + 1 - 1 = a by omega, upI_snoc h, List.flatMap_append]
 simp
theorem pre2_zero (a b : Int) (h : b ≤ max a (t.dl k)) : t.pre2 k a b = t.pre1 k a := by
 unfold pre2
 rw [upI_nil (by omega)]
 simp
theorem pre2_step {a b : Int} (h : max a (t.dl k) ≤ b) : t.pre2 k a (b + 1) = t.pre2 k a b ++ [(a, b)] := by
 unfold pre2
 rw [show b + 1 - 1 = b by omega, upI_snoc h, List.map_append, List.append_assoc]
 rfl
theorem pre2_all {a b : Int} (ha : t.bl k ≤ a) (h1 : max a (t.dl k) ≤ b) (h : t.dh k < b) (h2 : b = t.dh k + 1 ∨ b = max a (t.dl k)) : t.pre2 k a b = t.pre1 k (a + 1) := by
 rw [pre1_step t k ha]
 unfold pre2
 congr 2
 rcases h2 with e | e
 ·rw [e, show t.dh k + 1 - 1 = t.dh k by omega]
 ·rw [upI_nil (by omega), upI_nil (by omega)]
theorem pre1_part {a : Int} (h1 : t.bl k ≤ a) (h2 : a ≤ t.bh k + 1) : ∃ rest, t.prsP k = t.pre1 k a ++ rest := by
 obtain ⟨rest, e⟩ := upI_part (lo := t.bl k) (hi := t.bh k) (m := (t.bh k - (a - 1)).toNat) (x := a - 1) (by omega) (by omega)
 unfold prsP pre1
 rw [e, List.flatMap_append]
 exact ⟨_, rfl⟩
theorem pre2_part {a b : Int} (h1 : t.bl k ≤ a) (h2 : a ≤ t.bh k) (h3 : max a (t.dl k) ≤ b) (h4 : b ≤ t.dh k + 1) : ∃ rest, t.prsP k = t.pre2 k a b ++ rest := by
 obtain ⟨r1, e1⟩ := pre1_part t k (a := a + 1) (by omega) (by omega)
 obtain ⟨r2, e2⟩ := upI_part (lo := max a (t.dl k)) (hi := t.dh k) (m := (t.dh k - (b - 1)).toNat) (x := b - 1) (by omega) (by omega)
 refine ⟨((r2.map fun b' => (a, b')) ++ r1), ?_⟩
 rw [e1, pre1_step t k h1, e2, List.map_append]
 unfold pre2
 simp only [List.append_assoc]
end TK
end Tic
/-
 TicketEnds: what is seen of all minutes of a ticket.
-/
namespace Go.Proofs.Ytioajogaghgipaa
open Go Go.Sy Tic
set_option linter.unusedSimpArgs false
set_option maxRecDepth 100000
set_option maxHeartbeats 4000000
attribute [local irreducible] CallP CodeP Ent YieldP
set_option maxHeartbeats 16000000

def Liv (t : TK) (i : Nat) (a b : Int) : Prop := (t.bl i ≤ a ∧ a ≤ t.bh i) ∧ (t.dl i ≤ b ∧ b ≤ t.dh i) ∧ (t.fix i a b).trs ≠ []
def Sn (x y a b : Int) : Prop := a < x ∨ (a = x ∧ b < y)
def AllS (t : TK) (i : Nat) (x y : Int) (Q : Int → Int → Prop) (v : Bool) : Prop := v = true ↔ ∀ a b, Liv t i a b → Sn x y a b → Q a b
def AnyS (t : TK) (i : Nat) (x y : Int) (Q : Int → Int → Prop) (v : Bool) : Prop := v = true ↔ ∃ a b, Liv t i a b ∧ Sn x y a b ∧ Q a b
theorem sn_add {x y a b : Int} : Sn x (y + 1) a b ↔ Sn x y a b ∨ (a = x ∧ b = y) := by
 unfold Sn
 omega
theorem AllS.zero {t : TK} {i : Nat} {Q : Int → Int → Prop} : AllS t i (t.bl i) (t.dl i) Q true :=
 ⟨fun _ a b hl hs => by
  obtain ⟨⟨h1, _⟩, ⟨h2, _⟩, _⟩ := hl
  unfold Sn at hs
  omega, fun _ => rfl⟩
theorem AnyS.zero {t : TK} {i : Nat} {Q : Int → Int → Prop} : AnyS t i (t.bl i) (t.dl i) Q false :=
 ⟨fun h => Bool.noConfusion h, fun ⟨a, b, hl, hs, _⟩ => by
  obtain ⟨⟨h1, _⟩, ⟨h2, _⟩, _⟩ := hl
  unfold Sn at hs
  omega⟩
theorem AllS.skip {t : TK} {i : Nat} {Q : Int → Int → Prop} {x y : Int} {v : Bool} (h : AllS t i x y Q v) (hn : (t.fix i x y).trs = []) : AllS t i x (y + 1) Q v := by
 refine Iff.trans h ⟨fun H a b hl hs => ?_, fun H a b hl hs => H a b hl (sn_add.2 (.inl hs))⟩
 rcases sn_add.1 hs with c | ⟨rfl, rfl⟩
 ·exact H a b hl c
 ·exact absurd hn hl.2.2
theorem AnyS.skip {t : TK} {i : Nat} {Q : Int → Int → Prop} {x y : Int} {v : Bool} (h : AnyS t i x y Q v) (hn : (t.fix i x y).trs = []) : AnyS t i x (y + 1) Q v := by
 refine Iff.trans h ⟨fun ⟨a, b, hl, hs, q⟩ => ⟨a, b, hl, sn_add.2 (.inl hs), q⟩, fun ⟨a, b, hl, hs, q⟩ => ?_⟩
 rcases sn_add.1 hs with c | ⟨rfl, rfl⟩
 ·exact ⟨a, b, hl, c, q⟩
 ·exact absurd hn hl.2.2
theorem AllS.add {t : TK} {i : Nat} {Q : Int → Int → Prop} {x y : Int} {v q w : Bool} (h : AllS t i x y Q v) (hl : Liv t i x y) (hq : q = true ↔ Q x y) (hw : w = (v && q)) : AllS t i x (y + 1) Q w := by
 subst hw
 unfold AllS at h ⊢
 rw [Bool.and_eq_true, h, hq]
 constructor
 ·rintro ⟨H, q⟩ a b hl hs
  rcases sn_add.1 hs with c | ⟨rfl, rfl⟩
  ·exact H a b hl c
  ·exact q
 ·exact fun H => ⟨fun a b hl hs => H a b hl (sn_add.2 (.inl hs)), H x y hl (sn_add.2 (.inr ⟨rfl, rfl⟩))⟩
theorem AnyS.add {t : TK} {i : Nat} {Q : Int → Int → Prop} {x y : Int} {v q w : Bool} (h : AnyS t i x y Q v) (hl : Liv t i x y) (hq : q = true ↔ Q x y) (hw : w = (v || q)) : AnyS t i x (y + 1) Q w := by
 subst hw
 unfold AnyS at h ⊢
 rw [Bool.or_eq_true, h, hq]
 constructor
 ·rintro (⟨a, b, hl, hs, q⟩ | q)
  ·exact ⟨a, b, hl, sn_add.2 (.inl hs), q⟩
  ·exact ⟨x, y, hl, sn_add.2 (.inr ⟨rfl, rfl⟩), q⟩
 ·rintro ⟨a, b, hl, hs, q⟩
  rcases sn_add.1 hs with c | ⟨rfl, rfl⟩
  ·exact .inl ⟨a, b, hl, c, q⟩
  ·exact .inr q
theorem sn_next {t : TK} {i : Nat} {x y a b : Int} (hy : t.dh i < y) (hl : Liv t i a b) : Sn (x + 1) (t.dl i) a b ↔ Sn x y a b := by
 obtain ⟨_, ⟨h1, h2⟩, _⟩ := hl
 unfold Sn
 omega
theorem AllS.next {t : TK} {i : Nat} {Q : Int → Int → Prop} {x y : Int} {v : Bool} (h : AllS t i x y Q v) (hy : t.dh i < y) : AllS t i (x + 1) (t.dl i) Q v :=
 Iff.trans h ⟨fun H a b hl hs => H a b hl ((sn_next hy hl).1 hs), fun H a b hl hs => H a b hl ((sn_next hy hl).2 hs)⟩
theorem AnyS.next {t : TK} {i : Nat} {Q : Int → Int → Prop} {x y : Int} {v : Bool} (h : AnyS t i x y Q v) (hy : t.dh i < y) : AnyS t i (x + 1) (t.dl i) Q v :=
 Iff.trans h ⟨fun ⟨a, b, hl, hs, q⟩ => ⟨a, b, hl, (sn_next hy hl).2 hs, q⟩, fun ⟨a, b, hl, hs, q⟩ => ⟨a, b, hl, (sn_next hy hl).1 hs, q⟩⟩
structure EndI (t : TK) (i : Nat) (x y : Int) (al nv f0 f1 f2 f3 : Bool) : Prop where
 al : AllS t i x y (fun a b => (t.fix i a b).turn i = 2) al
 nv : AllS t i x y (fun a b => (t.fix i a b).turn i = 0) nv
 f0 : AnyS t i x y (fun a _ => a = (t.bought i).1) f0
 f1 : AnyS t i x y (fun a _ => a = (t.bought i).2) f1
 f2 : AnyS t i x y (fun _ b => b = (t.door i).1) f2
 f3 : AnyS t i x y (fun _ b => b = (t.door i).2) f3
theorem EndI.zero {t : TK} {i : Nat} : EndI t i (t.bl i) (t.dl i) true true false false false false := ⟨.zero, .zero, .zero, .zero, .zero, .zero⟩
theorem EndI.skip {t : TK} {i : Nat} {x y : Int} {al nv f0 f1 f2 f3 : Bool} (h : EndI t i x y al nv f0 f1 f2 f3) (hn : (t.fix i x y).trs = []) : EndI t i x (y + 1) al nv f0 f1 f2 f3 :=
 ⟨h.al.skip hn, h.nv.skip hn, h.f0.skip hn, h.f1.skip hn, h.f2.skip hn, h.f3.skip hn⟩
theorem EndI.next {t : TK} {i : Nat} {x y : Int} {al nv f0 f1 f2 f3 : Bool} (h : EndI t i x y al nv f0 f1 f2 f3) (hy : t.dh i < y) : EndI t i (x + 1) (t.dl i) al nv f0 f1 f2 f3 :=
 ⟨h.al.next hy, h.nv.next hy, h.f0.next hy, h.f1.next hy, h.f2.next hy, h.f3.next hy⟩
theorem EndI.add {t : TK} {i : Nat} {x y : Int} {al nv f0 f1 f2 f3 : Bool} (h : EndI t i x y al nv f0 f1 f2 f3) (hl : Liv t i x y) :
  EndI t i x (y + 1) (bif al then decide ((t.fix i x y).turn i = 2) else false) (bif nv then decide ((t.fix i x y).turn i = 0) else false) (bif f0 then true else decide (x = (t.bought i).1)) (bif f1 then true else decide (x = (t.bought i).2)) (bif f2 then true else decide (y = (t.door i).1)) (bif f3 then true else decide (y = (t.door i).2)) :=
 ⟨h.al.add hl decide_eq_true_iff (by cases al <;> rfl), h.nv.add hl decide_eq_true_iff (by cases nv <;> rfl), h.f0.add hl decide_eq_true_iff (by cases f0 <;> rfl), h.f1.add hl decide_eq_true_iff (by cases f1 <;> rfl), h.f2.add hl decide_eq_true_iff (by cases f2 <;> rfl), h.f3.add hl decide_eq_true_iff (by cases f3 <;> rfl)⟩
theorem EndI.done {t : TK} (hne : t.trs ≠ []) {i : Nat} (hi : i < t.n) {x : Int} {al nv f0 f1 f2 f3 : Bool} (h : EndI t i x (t.dl i) al nv f0 f1 f2 f3) (hx : t.bh i < x) :
  f0 = true ∧ f1 = true ∧ f2 = true ∧ f3 = true ∧ decide (t.turn i = 2) = al ∧ decide (t.turn i = 0) = nv := by
 have sn : ∀ a b, Liv t i a b → Sn x (t.dl i) a b := fun a b hl => by
  obtain ⟨⟨_, h1⟩, _⟩ := hl
  exact .inl (by omega)
 have any : ∀ {Q : Int → Int → Prop} {v : Bool} (o : Nat) (w : Int), AnyS t i x (t.dl i) Q v → (∀ a b, (if o < 2 then a else b) = w → Q a b) → ((o = 0 ∧ w = (t.bought i).1) ∨ (o = 1 ∧ w = (t.bought i).2) ∨ (o = 2 ∧ w = (t.door i).1) ∨ (o = 3 ∧ w = (t.door i).2)) → v = true := fun {Q} {v} o w hv hQ ho => by
  obtain ⟨a, b, h1, h2, h3, h4⟩ := TK.fix_ends hne hi o w ho
  exact hv.2 ⟨a, b, ⟨h1, h2, h3⟩, sn a b ⟨h1, h2, h3⟩, hQ a b h4⟩
 have all : ∀ (v : Int) (w : Bool), (v = 2 ∨ v = 0) → AllS t i x (t.dl i) (fun a b => (t.fix i a b).turn i = v) w → decide (t.turn i = v) = w := fun v w hv hw => by
  rw [Bool.eq_iff_iff, decide_eq_true_iff, TK.fix_turn hne hi v hv]
  exact Iff.trans ⟨fun H a b hl _ => H a b hl.1 hl.2.1 hl.2.2, fun H a b h1 h2 h3 => H a b ⟨h1, h2, h3⟩ (sn a b ⟨h1, h2, h3⟩)⟩ hw.symm
 exact ⟨any 0 _ h.f0 (fun a b e => by simpa using e) (.inl ⟨rfl, rfl⟩), any 1 _ h.f1 (fun a b e => by simpa using e) (.inr (.inl ⟨rfl, rfl⟩)), any 2 _ h.f2 (fun a b e => by simpa using e) (.inr (.inr (.inl ⟨rfl, rfl⟩))), any 3 _ h.f3 (fun a b e => by simpa using e) (.inr (.inr (.inr ⟨rfl, rfl⟩))), all 2 al (.inl rfl) h.al, all 0 nv (.inr rfl) h.nv⟩
end Go.Proofs.Ytioajogaghgipaa
/-
 Truths of tickets, one by one: what lies where; pairs.
-/
namespace Go.Proofs.Ytioajogaghgipaa
open Go Go.Sy Tic
set_option linter.unusedSimpArgs false
set_option maxRecDepth 100000
set_option maxHeartbeats 4000000
attribute [local irreducible] CallP CodeP Ent YieldP

def findRF : Code → Option (Array Nat × Code × Code)
 | .rangeFunc _ ps a b => some (ps, a, b)
 | .seq a b => match findRF a with
  | some r => some r
  | none => findRF b
 | .block _ c => findRF c
 | .loop c => findRF c
 | .scope c => findRF c
 | _ => none
noncomputable def asOf (f : Func) : Code := match f.body with
 | some c => match findRF c with
  | some r => r.2.1
  | none => .skip
 | none => .skip
noncomputable def bodyOf (f : Func) : Code := match f.body with
 | some c => match findRF c with
  | some r => r.2.2
  | none => .skip
 | none => .skip
def NS : List Nat := [0, 1, 2, 3, 4, 5, 6, 7, 8, 9, 10, 11, 12]
def OrdV (t : TK) (bo : Bool) (co : Nat) : Prop := (t.n = 0 ∧ bo = false ∧ co = 0) ∨ (0 < t.n ∧ bo = true ∧ t.n ≤ co)
def ord (t : TK) : Nat → Nat := srtF t.hut t.n
def HI (t : TK) (bo : Bool) (co : Nat) (ob : OB) : SHeap :=
 [some (.roa 5 t.n (TF t)), some (.roc [.int .i64 t.huts, .osl t.b 0 5 t.n t.cap, .osl bo 2 1 t.n co]), some (.roa 1 t.n (rowO (ord t))), some (.roc [.ptr 1 0]), some (.pack NS ob), some .dead, some .dead, some .dead, some .dead, some .dead, some .dead, some .dead, some .dead]
def onV : SV := .fn (.func 104) [] [.ptr 3 0, .ptr 13 0, .ptr 14 0]
def HN (t : TK) (bo : Bool) (co : Nat) (ob : OB) : SHeap :=
 [some (.roa 5 t.n (TF t)), some (.roc [.int .i64 t.huts, .osl t.b 0 5 t.n t.cap, .osl bo 2 1 t.n co]), some (.roa 1 t.n (rowO (ord t))), some (.roc [.ptr 1 0]), some (.pack NS ob), some .dead, some .dead, some .dead, some .dead, some .dead, some .dead, some .dead, some .dead, some (.roc [.yld 4]), some (.roc [onV])]
noncomputable def L104 (st : LoopState) (p : Option Code) : SObj := .loopr ([none, none, some (.ptr 3 0), none, some (.ptr 14 0), some (.ptr 15 0), some (.ptr 16 0), some (.ptr 17 0), some (.ptr 18 0), some (.ptr 19 0)] ++ List.replicate 76 none) #[35] (asOf Try.f104) (bodyOf Try.f104) st p
noncomputable def H113 (t : TK) (bo : Bool) (co : Nat) (ob : OB) (x : Tru) (d k : Nat) (rb : Bool) (st : LoopState) (p : Option Code) : SHeap :=
 [some (.roa 5 t.n (TF t)), some (.roc [.int .i64 t.huts, .osl t.b 0 5 t.n t.cap, .osl bo 2 1 t.n co]), some (.roa 1 t.n (rowO (ord t))), some (.roc [.ptr 1 0]), some (.pack NS ob), some .dead, some .dead, some .dead, some .dead, some .dead, some .dead, some .dead, some .dead, some (.roc [.yld 4]), some (.roc [onV]),
  some (.roc (trV x)), some (.roc [.int .i64 d]), some (.cells [.bool rb]), some (.roc [.int .i64 k]), some (.roc [.fn (.func 105) [.agg (trV x)] []]), some (.roc (TF t k)), some (L104 st p)]
theorem t113 (t : TK) (hv : t.Valid) (bo : Bool) (co : Nat) {γ : Type} (step : γ → Tru → γ × Bool) (C : γ → Bool → OB) (x : Tru) (d k : Nat) (hk : k < t.n) (F : Int × Int → List Tru) (rb : Bool)
  (hy : ∀ g p, p ∈ t.prsP k → YieldP Try.prog 21 [.agg [.int .i64 p.1, .int .i64 p.2]] (H113 t bo co (C g true) x d k rb .ready none) (Ret (.bool (run step (F p) g).2) (H113 t bo co (C (run step (F p) g).1 (run step (F p) g).2) x d k (bif (run step (F p) g).2 then rb else false) (bif (run step (F p) g).2 then .ready else .done) (bif (run step (F p) g).2 then none else some .ret)))) (g0 : γ) :
  CallP Try.prog 113 [.yld 21, .ptr 20 0] (H113 t bo co (C g0 true) x d k rb .ready none)
   (Ret (.tup []) (H113 t bo co (C (run step ((t.prsP k).flatMap F) g0).1 (run step ((t.prsP k).flatMap F) g0).2) x d k (bif (run step ((t.prsP k).flatMap F) g0).2 then rb else false) (bif (run step ((t.prsP k).flatMap F) g0).2 then .ready else .done) (bif (run step ((t.prsP k).flatMap F) g0).2 then none else some .ret))) := by
 have ho := hv.2.2 k hk
 unfold TK.okT spanOk at ho
 obtain ⟨R, hR⟩ : ∃ R, run step ((t.prsP k).flatMap F) g0 = R := ⟨_, rfl⟩
 rw [hR]
 obtain ⟨gE, bE⟩ := R
 simp only
 refine callR (E := E) E_ok Try.func113 rfl ?_
 (repeat' first|exact ap|refine aN ?_ ?_)
 refine loopP E_ok [0, 1] (fun g : Int × γ => [(3, .int .i64 g.1)]) (fun g _ => H113 t bo co (C g.2 true) x d k rb .ready none) (fun g => (t.bl k ≤ g.1 ∧ g.1 ≤ t.bh k + 1) ∧ run step ((t.pre1 k g.1).flatMap F) g0 = (g.2, true)) (fun g => (t.bh k + 1 - g.1).toNat) (t.bl k, g0) ⟨⟨Int.le_refl _, by omega⟩, by rw [TK.pre1_zero]; rfl⟩ ?_ ?_
 ·exact ent_tau [0, 1, 2, 3, 4, 5, 6, 7, 8, 9, 10, 11, 12, 13, 14, 15, 16, 17, 18, 19, 20, 21] ⟨by (repeat' first|exact fp|refine aN ?_ ?_), by (repeat' first|exact tm|refine aN ?_ ?_), rfl⟩
 rintro ⟨a, g⟩ ⟨⟨ha1, ha2⟩, hrun⟩
 simp only at ha1 ha2 hrun
 refine And.intro ?_ (And.intro (fun hc => ?_) (fun hc => ?_))
 ·(repeat' first|exact ap|refine aN ?_ ?_)
 ·have hab : a ≤ t.bh k := of_decide_eq_true hc
  (repeat' first|exact ap|refine aN ?_ ?_)
  refine loopP E_ok [0, 1, 3] (fun q : Int × γ => [(4, .int .i64 q.1)]) (fun q _ => H113 t bo co (C q.2 true) x d k rb .ready none) (fun q => (max a (t.dl k) ≤ q.1 ∧ (q.1 ≤ t.dh k + 1 ∨ q.1 = max a (t.dl k))) ∧ run step ((t.pre2 k a q.1).flatMap F) g0 = (q.2, true)) (fun q => (t.dh k + 1 - q.1).toNat) (max a (t.dl k), g) ⟨⟨Int.le_refl _, .inr rfl⟩, by rw [TK.pre2_zero t k a _ (Int.le_refl _)]; exact hrun⟩ ?_ ?_
  ·refine ent_tau [0, 1, 2, 3, 4, 5, 6, 7, 8, 9, 10, 11, 12, 13, 14, 15, 16, 17, 18, 19, 20, 21] ⟨?_, ?_, rfl⟩
   ·(repeat' first|exact fp|refine aN ?_ ?_)
   ·(repeat' first|exact tm|refine aN ?_ ?_)
    exact congrArg (SV.int .i64) (show (if t.dl k > a then t.dl k else a) = max a (t.dl k) by rw [Int.max_def]; split <;> split <;> omega)
  rintro ⟨b, q⟩ ⟨⟨hb1, hb2⟩, hrun2⟩
  simp only at hb1 hb2 hrun2
  refine And.intro ?_ (And.intro (fun hc2 => ?_) (fun hc2 => ?_))
  ·(repeat' first|exact ap|refine aN ?_ ?_)
  ·have hbb : b ≤ t.dh k := of_decide_eq_true hc2
   have hmem : (a, b) ∈ t.prsP k := TK.mem_prsP.2 ⟨ha1, hab, by simp only; omega, hbb, by simp only; omega⟩
   have hyp := hy q (a, b) hmem
   have hst := TK.pre2_step t k hb1
   obtain ⟨rest, hrest⟩ := TK.pre2_part t k (a := a) (b := b + 1) ha1 hab (by omega) (by omega)
   have hr3 : run step ((t.pre2 k a (b + 1)).flatMap F) g0 = run step (F (a, b)) q := by
    rw [hst, List.flatMap_append, run_go hrun2]
    simp
   obtain ⟨R2, hR2⟩ : ∃ R2, run step (F (a, b)) q = R2 := ⟨_, rfl⟩
   rw [hR2] at hyp hr3
   obtain ⟨g2, b2⟩ := R2
   simp only at hyp
   have idl : [0, 1, 2, 3, 4, 5, 6, 7, 8, 9, 10, 11, 12, 13, 14, 15, 16, 17, 18, 19, 20, 21].length = 22 := rfl
   cases b2 with
   | true =>
    (repeat' first|exact ap|refine aN ?_ ?_)
    refine hyp.use [0, 1, 2, 3, 4, 5, 6, 7, 8, 9, 10, 11, 12, 13, 14, 15, 16, 17, 18, 19, 20, 21] ?_ (by (repeat' first|exact fp|refine aN ?_ ?_)) rfl
    all_goals (repeat' first|exact ap|refine aN ?_ ?_)
    all_goals first | exact gd | skip
    all_goals intro h1
    all_goals first | exact absurd h1 (by decide) | (cases h1; done) | skip
    (repeat' first|exact ap|refine aN ?_ ?_)
    all_goals first | exact ⟨by omega, by omega⟩ | exact (inR_iff _).2 ⟨by omega, by omega⟩ | (simp only; omega) | skip
    refine ⟨(b + 1, g2), ⟨⟨by simp only; omega, .inl (by simp only; omega)⟩, hr3⟩, by simp only; omega, ?_⟩
    exact ent_tau [0, 1, 2, 3, 4, 5, 6, 7, 8, 9, 10, 11, 12, 13, 14, 15, 16, 17, 18, 19, 20, 21] ⟨by (repeat' first|exact fp|refine aN ?_ ?_), by (repeat' first|exact tm|refine aN ?_ ?_), rfl⟩
   | false =>
    have hfin : run step ((t.prsP k).flatMap F) g0 = (g2, false) := by
     rw [hrest, List.flatMap_append, run_stop hr3]
    rw [hR] at hfin
    cases hfin
    (repeat' first|exact ap|refine aN ?_ ?_)
    refine hyp.use [0, 1, 2, 3, 4, 5, 6, 7, 8, 9, 10, 11, 12, 13, 14, 15, 16, 17, 18, 19, 20, 21] ?_ (by (repeat' first|exact fp|refine aN ?_ ?_)) rfl
    all_goals (repeat' first|exact ap|refine aN ?_ ?_)
    all_goals first | exact gd | skip
    all_goals intro h1
    all_goals first | exact absurd h1 (by decide) | (cases h1; done) | skip
    (repeat' first|exact ap|refine aN ?_ ?_)
    exact ent_tau [0, 1, 2, 3, 4, 5, 6, 7, 8, 9, 10, 11, 12, 13, 14, 15, 16, 17, 18, 19, 20, 21] ⟨by (repeat' first|exact fp|refine aN ?_ ?_), by (repeat' first|exact tm|refine aN ?_ ?_), rfl⟩
  ·have hbn : t.dh k < b := by
    have := of_decide_eq_false hc2
    simp only at this
    omega
   have hall := TK.pre2_all t k (a := a) (b := b) ha1 hb1 hbn (by omega)
   rw [hall] at hrun2
   (repeat' first|exact ap|refine aN ?_ ?_)
   all_goals first | exact ⟨by omega, by omega⟩ | exact (inR_iff _).2 ⟨by omega, by omega⟩ | (simp only; omega) | skip
   refine ⟨(a + 1, q), ⟨⟨by simp only; omega, by simp only; omega⟩, hrun2⟩, by simp only; omega, ?_⟩
   exact ent_tau [0, 1, 2, 3, 4, 5, 6, 7, 8, 9, 10, 11, 12, 13, 14, 15, 16, 17, 18, 19, 20, 21] ⟨by (repeat' first|exact fp|refine aN ?_ ?_), by (repeat' first|exact tm|refine aN ?_ ?_), rfl⟩
 ·have han : a = t.bh k + 1 := by
   have := of_decide_eq_false hc
   simp only at this
   omega
  have hfin : run step ((t.prsP k).flatMap F) g0 = (g, true) := by
   rw [← TK.pre1_all t k a han]
   exact hrun
  rw [hR] at hfin
  cases hfin
  (repeat' first|exact ap|refine aN ?_ ?_)
  exact ent_tau [0, 1, 2, 3, 4, 5, 6, 7, 8, 9, 10, 11, 12, 13, 14, 15, 16, 17, 18, 19, 20, 21] ⟨by (repeat' first|exact fp|refine aN ?_ ?_), by (repeat' first|exact tm|refine aN ?_ ?_), rfl⟩
end Go.Proofs.Ytioajogaghgipaa
/-
 Truths of tickets, one by one: a round of a ticket's pairs.
-/
namespace Go.Proofs.Ytioajogaghgipaa
open Go Go.Sy Tic
set_option linter.unusedSimpArgs false
set_option maxRecDepth 100000
set_option maxHeartbeats 4000000
attribute [local irreducible] CallP CodeP Ent YieldP
set_option maxHeartbeats 16000000

def fitB (t : TK) (d : Nat) (x : Tru) (p : Int × Int) (j : Nat) : Bool := (List.range j).all fun i => !(decide (t.hut (ord t i) = t.hut (ord t d)) && TK.near (x (ord t i)).2 p.2)
theorem fitB_step (t : TK) (d : Nat) (x : Tru) (p : Int × Int) (j : Nat) : fitB t d x p (j + 1) = (fitB t d x p j && !(decide (t.hut (ord t j) = t.hut (ord t d)) && TK.near (x (ord t j)).2 p.2)) := by
 unfold fitB
 rw [List.range_succ, List.all_append]
 simp
theorem fitB_no {t : TK} {d : Nat} {x : Tru} {p : Int × Int} {i j : Nat} (h : fitB t d x p i = false) (hij : i ≤ j) : fitB t d x p j = false := by
 cases c : fitB t d x p j with
 | false => rfl
 | true =>
  unfold fitB at c h
  rw [List.all_eq_true] at c
  have : (List.range i).all (fun i => !(decide (t.hut (ord t i) = t.hut (ord t d)) && TK.near (x (ord t i)).2 p.2)) = true := List.all_eq_true.2 fun a ha => c a (List.mem_range.2 (by have := List.mem_range.1 ha; omega))
  rw [h] at this
  cases this
theorem ord_lt (t : TK) {j : Nat} (h : j < t.n) : ord t j < t.n := by
 obtain ⟨_, _, s3⟩ := srtF_ok t.hut t.n
 exact (s3 _).1 ⟨j, h, rfl⟩
theorem y104 (t : TK) (hv : t.Valid) (bo : Bool) (co : Nat) (hbo : OrdV t bo co) {γ : Type} (step : γ → Tru → γ × Bool) (C : γ → Bool → OB) (x : Tru) (d : Nat) (hd : d < t.n) (hx : ∀ i, i < 5 → 0 ≤ (x i).2 ∧ (x i).2 ≤ 240) (rb : Bool) (g : γ) (p : Int × Int) (hp : p ∈ t.prsP (ord t d)) (L : List Tru)
  (hon : fitB t d x p d = true → CallP Try.prog 104 [.agg (trV (TK.updT x (ord t d) p)), .int .i64 (d + 1 : Nat), .ptr 3 0, .ptr 13 0, .ptr 14 0] (HN t bo co (C g true)) (Ret (.bool (run step L g).2) (HN t bo co (C (run step L g).1 (run step L g).2)))) (hno : fitB t d x p d = false → L = []) :
  YieldP Try.prog 21 [.agg [.int .i64 p.1, .int .i64 p.2]] (H113 t bo co (C g true) x d (ord t d) rb .ready none)
   (Ret (.bool (run step L g).2) (H113 t bo co (C (run step L g).1 (run step L g).2) x d (ord t d) (bif (run step L g).2 then rb else false) (bif (run step L g).2 then .ready else .done) (bif (run step L g).2 then none else some .ret))) := by
 have hn5 := hv.2.1
 have hcd : d ≤ co := by
  rcases hbo with ⟨h, _⟩ | ⟨_, _, h⟩
  ·omega
  ·omega
 have hkn := ord_lt t hd
 have hok := TK.mem_prsP.1 hp
 have hsp := (hv.2.2 _ hkn).2.2
 unfold TK.okP at hok
 unfold spanOk at hsp
 have hfit : fitB t d x p d = false → run step L g = (g, true) := fun h => by
  rw [hno h]
  rfl
 obtain ⟨R, hR⟩ : ∃ R, run step L g = R := ⟨_, rfl⟩
 rw [hR] at hon hfit ⊢
 obtain ⟨gE, bE⟩ := R
 simp only at hon ⊢
 have ek := z1 (ord t d)
 have c105 := t105 x (ord t d) (by omega) p
 obtain ⟨k, hk⟩ : ∃ k, ord t d = k := ⟨_, rfl⟩
 rw [hk] at hkn ek c105 hon
 rw [hk]
 have hfs := fitB_step t d x p
 rw [hk] at hfs
 refine YieldP.ent (roundP E_ok rfl rfl fun l => ?_)
 (repeat' first|exact ap|refine aN ?_ ?_)
 refine drawP E_ok [] pl104_7 (by kernel_rfl) ?_
 (repeat' first|exact ap|refine aN ?_ ?_)
 all_goals first | exact om | skip
 refine loopP E_ok [2, 4, 5, 6, 7, 8, 9, 10, 41, 42] (fun j : Nat => [(43, .int .i64 j)]) (fun _ H => H) (fun j => j ≤ d ∧ fitB t d x p j = true) (fun j => d - j) 0 ⟨Nat.zero_le _, rfl⟩ ?_ ?_
 ·exact ent_tau [0, 1, 2, 3, 4, 5, 6, 7, 8, 9, 10, 11, 12, 13, 14, 15, 16, 17, 18, 19, 20, 21, 22] ⟨by (repeat' first|exact fp|refine aN ?_ ?_), by (repeat' first|exact tm|refine aN ?_ ?_), rfl⟩
 rintro j ⟨hj, hfj⟩
 refine And.intro ?_ (And.intro (fun hc => ?_) (fun hc => ?_))
 ·(repeat' first|exact ap|refine aN ?_ ?_)
 ·have hjd : j < d := by
   have := of_decide_eq_true hc
   omega
  have ej := z1 j
  have oj := ord_lt t (show j < t.n by omega)
  have eo : 0 + ((ord t (0 + ((j : Nat) : Int).toNat) : Nat) : Int).toNat = ord t j := by
   rw [ej]
   omega
  have hb := tr_b x (a := ord t (0 + ((j : Nat) : Int).toNat)) (by rw [ej]; omega) (0 + 1 + 0) rfl
  have xb := hx (ord t j) (by omega)
  have hI : InR .i64 ((trI x).getD (((ord t (0 + ((j : Nat) : Int).toNat) : Nat) : Int).toNat * 2 + (0 + 1 + 0)) 0 - p.2) := by
   rw [hb, ej]
   exact (inR_iff _).2 ⟨by omega, by omega⟩
  have hL : ((ord t (0 + ((j : Nat) : Int).toNat) : Nat) : Int).toNat * 2 + (0 + 1 + 1) ≤ 10 := by
   rw [ej]
   omega
  have h5 : ((ord t (0 + ((j : Nat) : Int).toNat) : Nat) : Int) < 5 := by
   rw [ej]
   omega
  have hln : ((ord t (0 + ((j : Nat) : Int).toNat) : Nat) : Int) < (t.n : Nat) := by
   rw [ej]
   omega
  have hln2 : 0 + ((ord t (0 + ((j : Nat) : Int).toNat) : Nat) : Int).toNat < t.n := by
   rw [ej]
   omega
  have hst := hfs j
  rw [hfj] at hst
  (repeat' first|exact ap|refine aN ?_ ?_)
  all_goals first | exact om | skip
  refine drawP E_ok [22] pl104_10 (by kernel_rfl) ?_
  (repeat' first|exact ap|refine aN ?_ ?_)
  all_goals first | exact gi | exact gn | exact g1 | exact u1 hI | exact u1 hL | exact u1 (Int.natCast_nonneg _) | exact u1 h5 | exact u0 (Int.natCast_nonneg _) | exact u0 hln | exact hln2 | exact hln | exact Int.natCast_nonneg _ | exact om | (rw [ek]; omega) | skip
  ·intro hg
   have hg2 : decide (t.hut (0 + ((ord t (0 + ((j : Nat) : Int).toNat) : Nat) : Int).toNat) = t.hut (0 + ((k : Nat) : Int).toNat)) = true := hg
   have he : t.hut (ord t j) = t.hut k := by simpa [gB, wB, eo, ek] using hg
   have c97 := t97 ((trI x).getD (((ord t (0 + ((j : Nat) : Int).toNat) : Nat) : Int).toNat * 2 + (0 + 1 + 0)) 0 - p.2) (-29) 29
   have hnb : inI ((trI x).getD (((ord t (0 + ((j : Nat) : Int).toNat) : Nat) : Int).toNat * 2 + (0 + 1 + 0)) 0 - p.2) (-29) 29 = TK.near (x (ord t j)).2 p.2 := by
    rw [hb, ej]
    rfl
   obtain ⟨nb, hnb2⟩ : ∃ nb, TK.near (x (ord t j)).2 p.2 = nb := ⟨_, rfl⟩
   rw [hnb, hnb2] at c97
   rw [hnb2, decide_eq_true he] at hst
   refine c97.use [] ?_ trivial rfl
   cases nb with
   | true =>
    have hf := hfit (fitB_no (i := j + 1) hst hjd)
    cases hf
    (repeat' first|exact ap|refine aN ?_ ?_)
    all_goals first | exact g1 | exact g1f | exact g2 | exact g2f | exact gn | exact gi | ((with_reducible show under _ _); first | exact fun hh => hh | exact u1 (lt64 (by omega)) | exact u0 (lt64 (by omega)) | exact u0 (by omega) | exact u1 (by omega)) | skip
    all_goals first | exact fun _ => hg | exact fun _ _ => hg | skip
    all_goals (repeat' first|exact ap|refine aN ?_ ?_)
    all_goals first | exact gd | skip
    all_goals intro hx
    all_goals first | (exfalso; revert hx; simp [gB, wB, he]; done) | skip
    (repeat' first|exact ap|refine aN ?_ ?_)
    all_goals first | exact om | skip
    refine ⟨_, _, ⟨rfl, rfl⟩, ?_⟩
    exact ent_tau [0, 1, 2, 3, 4, 5, 6, 7, 8, 9, 10, 11, 12, 13, 14, 15, 16, 17, 18, 19, 20, 21] ⟨by (repeat' first|exact fp|refine aN ?_ ?_), by (repeat' first|exact tm|refine aN ?_ ?_), rfl⟩
   | false =>
    (repeat' first|exact ap|refine aN ?_ ?_)
    all_goals first | exact g1 | exact g1f | exact g2 | exact g2f | exact gn | exact gi | ((with_reducible show under _ _); first | exact fun hh => hh | exact u1 (lt64 (by omega)) | exact u0 (lt64 (by omega)) | exact u0 (by omega) | exact u1 (by omega)) | skip
    all_goals first | exact fun _ => hg | exact fun _ _ => hg | skip
    all_goals (repeat' first|exact ap|refine aN ?_ ?_)
    all_goals first | exact gd | skip
    all_goals intro hx
    all_goals first | (exfalso; revert hx; simp [gB, wB, hg2]; done) | skip
    (repeat' first|exact ap|refine aN ?_ ?_)
    all_goals first | exact om | skip
    refine ⟨j + 1, ⟨hjd, hst⟩, by omega, ?_⟩
    exact ent_tau [0, 1, 2, 3, 4, 5, 6, 7, 8, 9, 10, 11, 12, 13, 14, 15, 16, 17, 18, 19, 20, 21, 22] ⟨by (repeat' first|exact fp|refine aN ?_ ?_), by (repeat' first|exact tm|refine aN ?_ ?_), rfl⟩
  ·intro hg
   have he : ¬ t.hut (ord t j) = t.hut k := by simpa [gB, wB, eo, ek] using hg
   have hg2 : decide (t.hut (0 + ((ord t (0 + ((j : Nat) : Int).toNat) : Nat) : Int).toNat) = t.hut (0 + ((k : Nat) : Int).toNat)) = false := hg
   rw [decide_eq_false he] at hst
   (repeat' first|exact ap|refine aN ?_ ?_)
   all_goals first | exact g1 | exact g1f | exact g2 | exact g2f | exact gn | exact gi | ((with_reducible show under _ _); first | exact fun hh => hh | exact u1 (lt64 (by omega)) | exact u0 (lt64 (by omega)) | exact u0 (by omega) | exact u1 (by omega)) | skip
   all_goals first | exact fun hh => Bool.noConfusion (hh.symm.trans hg2) | skip
   all_goals (repeat' first|exact ap|refine aN ?_ ?_)
   all_goals first | exact gd | skip
   all_goals intro hx
   all_goals first | (exfalso; revert hx; simp [gB, wB, hg2]; done) | skip
   (repeat' first|exact ap|refine aN ?_ ?_)
   all_goals first | exact om | skip
   refine ⟨j + 1, ⟨hjd, hst⟩, by omega, ?_⟩
   exact ent_tau [0, 1, 2, 3, 4, 5, 6, 7, 8, 9, 10, 11, 12, 13, 14, 15, 16, 17, 18, 19, 20, 21, 22] ⟨by (repeat' first|exact fp|refine aN ?_ ?_), by (repeat' first|exact tm|refine aN ?_ ?_), rfl⟩
 ·have e : j = d := by
   have := of_decide_eq_false hc
   omega
  subst e
  have con := hon hfj
  (repeat' first|exact ap|refine aN ?_ ?_)
  refine drawP E_ok [22] pl104_12 (by kernel_rfl) ?_
  (repeat' first|exact ap|refine aN ?_ ?_)
  all_goals first | exact om | skip
  refine c105.use [] ?_ trivial rfl
  (repeat' first|exact ap|refine aN ?_ ?_)
  all_goals first | exact om | skip
  refine con.use [0, 1, 2, 3, 4, 5, 6, 7, 8, 9, 10, 11, 12, 13, 14] ?_ (by (repeat' first|exact fp|refine aN ?_ ?_)) rfl
  cases bE with
  | true =>
   all_goals (repeat' first|exact ap|refine aN ?_ ?_)
   all_goals first | exact gd | skip
   all_goals intro h1
   all_goals first | exact absurd h1 (by decide) | (cases h1; done) | skip
   (repeat' first|exact ap|refine aN ?_ ?_)
   all_goals first | exact om | skip
   refine ⟨_, _, ⟨rfl, rfl⟩, ?_⟩
   exact ent_tau [0, 1, 2, 3, 4, 5, 6, 7, 8, 9, 10, 11, 12, 13, 14, 15, 16, 17, 18, 19, 20, 21] ⟨by (repeat' first|exact fp|refine aN ?_ ?_), by (repeat' first|exact tm|refine aN ?_ ?_), rfl⟩
  | false =>
   all_goals (repeat' first|exact ap|refine aN ?_ ?_)
   all_goals first | exact gd | skip
   all_goals intro h1
   all_goals first | exact absurd h1 (by decide) | (cases h1; done) | skip
   (repeat' first|exact ap|refine aN ?_ ?_)
   all_goals first | exact om | skip
   refine ⟨_, _, ⟨rfl, rfl⟩, ?_⟩
   exact ent_tau [0, 1, 2, 3, 4, 5, 6, 7, 8, 9, 10, 11, 12, 13, 14, 15, 16, 17, 18, 19, 20, 21] ⟨by (repeat' first|exact fp|refine aN ?_ ?_), by (repeat' first|exact tm|refine aN ?_ ?_), rfl⟩
end Go.Proofs.Ytioajogaghgipaa
