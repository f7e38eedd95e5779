/-
  Parts: R14, V7, S1.
-/
import Derived.Test.YtioajogaghgipaaK31
import Derived.Test.YtioajogaghgipaaK22
import Derived.Test.YtioajogaghgipaaK30
set_option linter.unusedVariables false
/-
 Contract of the document: Minutes.
-/
namespace Go.Proofs.Ytioajogaghgipaa
open Go Go.Sy Tic
set_option linter.unusedSimpArgs false
set_option maxRecDepth 100000
set_option maxHeartbeats 4000000
attribute [local irreducible] CallP CodeP Ent YieldP
set_option maxHeartbeats 16000000
-- fast: YtioajogaghgipaaDd

theorem pgT_a {W : List (List (Int × Int))} {k m : Nat} : pgT W (2 * k) m = (xW W k m).1 := by
 unfold pgT xW
 rw [if_pos (by omega), show 2 * k / 2 = k by omega]
theorem pgT_b {W : List (List (Int × Int))} {k m : Nat} : pgT W (2 * k + 1) m = (xW W k m).2 := by
 unfold pgT xW
 rw [if_neg (by omega), show (2 * k + 1) / 2 = k by omega]
theorem t15 (t : TK) (hn : t.n ≤ 1000000) (i : Int) : CallP Try.prog 15 [TA t, .int .i64 i] (TH t) (Ret (.tup [.agg [.int .i64 (minT t i).1.1.1, .int .i64 (minT t i).1.1.2], .agg [.int .i64 (minT t i).1.2.1, .int .i64 (minT t i).1.2.2], .int .i64 (minT t i).2]) (TH t)) := by
 obtain ⟨B, hB⟩ : ∃ B, inI i 0 ((t.n : Nat) - 1) = B := ⟨_, rfl⟩
 have c54 := t54 t i hn
 rw [hB] at c54
 by_cases hv : t.Valid
 ·cases B with
  | false =>
   have e : minT t i = (((0, 0), (0, 0)), 2) := by unfold minT; rw [if_neg (by simpa using hv), if_pos hB]
   rw [e]
   refine callR (E := E) E_ok Try.func15 rfl ?_
   (repeat' first|exact aq|refine aN ?_ ?_|exact trivial)
   refine drawP E_ok [1] pl15_1 (by kernel_rfl) ?_
   (repeat' first|exact aq|refine aN ?_ ?_|exact trivial)
   refine c54.use [0] ?_ (by (repeat' first|exact fp|refine aN ?_ ?_)) rfl
   (repeat' first|exact aq|refine aN ?_ ?_|exact trivial)
   refine (t53r hv).use [0] ?_ (by (repeat' first|exact fp|refine aN ?_ ?_)) rfl
   all_goals (repeat' first|exact aq|refine aN ?_ ?_|exact trivial)
   all_goals first | exact dd | skip
   all_goals intro h1
   all_goals first | exact absurd h1 (by decide) | (cases h1; done) | skip
   (repeat' first|exact aq|refine aN ?_ ?_|exact trivial)
   exact ent_tau [0] ⟨by (repeat' first|exact fp|refine aN ?_ ?_), by (repeat' first|exact tm|refine aN ?_ ?_), rfl⟩
  | true =>
   obtain ⟨a, rfl, ha⟩ := inI_nat hB
   have hn5 := hv.2.1
   by_cases hne : t.trl = []
   ·have e : minT t a = (((0, 0), (0, 0)), 10) := by unfold minT; rw [if_neg (by simpa using hv), if_neg (by rw [hB]; decide), if_pos (trl_nil.2 hne)]
    rw [e]
    refine callR (E := E) E_ok Try.func15 rfl ?_
    (repeat' first|exact aq|refine aN ?_ ?_|exact trivial)
    refine drawP E_ok [1] pl15_1 (by kernel_rfl) ?_
    (repeat' first|exact aq|refine aN ?_ ?_|exact trivial)
    refine c54.use [0] ?_ (by (repeat' first|exact fp|refine aN ?_ ?_)) rfl
    (repeat' first|exact aq|refine aN ?_ ?_|exact trivial)
    refine (t53c hv hne).use [0] ?_ (by (repeat' first|exact fp|refine aN ?_ ?_)) rfl
    all_goals (repeat' first|exact aq|refine aN ?_ ?_|exact trivial)
    all_goals first | exact dd | skip
    all_goals intro h1
    all_goals first | exact absurd h1 (by decide) | (cases h1; done) | skip
    (repeat' first|exact aq|refine aN ?_ ?_|exact trivial)
    exact ent_tau [0] ⟨by (repeat' first|exact fp|refine aN ?_ ?_), by (repeat' first|exact tm|refine aN ?_ ?_), rfl⟩
   ·rw [min_is hv (fun h => hne (trl_nil.1 h)) a ha]
    have hlen := trl_len hv
    have hpos := List.length_pos_iff.2 hne
    have ea := z1 a
    have esa : t.bought a = hullF (fun j => (xW t.trl j a).1) t.trl.length := hull_xW (W := t.trl) hne (f := fun x => (x a).1)
    have esb : t.door a = hullF (fun j => (xW t.trl j a).2) t.trl.length := hull_xW (W := t.trl) hne (f := fun x => (x a).2)
    refine callR (E := E) E_ok Try.func15 rfl ?_
    (repeat' first|exact aq|refine aN ?_ ?_|exact trivial)
    refine drawP E_ok [1] pl15_1 (by kernel_rfl) ?_
    (repeat' first|exact aq|refine aN ?_ ?_|exact trivial)
    refine c54.use [0] ?_ (by (repeat' first|exact fp|refine aN ?_ ?_)) rfl
    (repeat' first|exact aq|refine aN ?_ ?_|exact trivial)
    refine CallP.frameH (t53o hv hlen hne) [0] (by (repeat' first|exact fp|refine aN ?_ ?_)) rfl ?_
    rintro ce h' ⟨cO, cp, cq, hz, hcO, rfl, rfl⟩
    refine ⟨rfl, ?_⟩
    all_goals (repeat' first|exact aq|refine aN ?_ ?_|exact trivial)
    all_goals first | exact dd | skip
    all_goals intro h1
    all_goals first | exact absurd h1 (by decide) | (cases h1; done) | skip
    (repeat' first|exact aq|refine aN ?_ ?_|exact trivial)
    refine loopP E_ok [1, 4, 5, 7] (fun g : Nat × Nat × Nat => [(9, match g.1 with | 0 => .snil | k + 1 => .slice 6 1 0 (k + 1) g.2.1), (10, match g.1 with | 0 => .snil | k + 1 => .slice 7 1 0 (k + 1) g.2.2), (11, .int .i64 g.1)]) (fun g _ => match g.1 with | 0 => [some (.roa 5 t.n (TF t)), some (.cells (tb t)), some (.cells [.int .i64 0, .int .i64 0]), some (.cells [.int .i64 0, .int .i64 0]), some (.roa 2 t.trl.length (rwsT 5 t.n cp cq)), some (.pool false (2 * t.trl.length) (fun _ => t.n) (pgT t.trl))] | k + 1 => [some (.roa 5 t.n (TF t)), some (.cells (tb t)), some (.cells [.int .i64 0, .int .i64 0]), some (.cells [.int .i64 0, .int .i64 0]), some (.roa 2 t.trl.length (rwsT 5 t.n cp cq)), some (.pool false (2 * t.trl.length) (fun _ => t.n) (pgT t.trl)), some (.arr 1 (k + 1) g.2.1 (LF fun j => (xW t.trl j a).1)), some (.arr 1 (k + 1) g.2.2 (LF fun j => (xW t.trl j a).2))]) (fun g => g.1 ≤ t.trl.length ∧ (0 < g.1 → (g.1 ≤ g.2.1 ∧ g.2.1 ≤ 9223372036854775807) ∧ g.1 ≤ g.2.2 ∧ g.2.2 ≤ 9223372036854775807)) (fun g => t.trl.length - g.1) (0, 0, 0) ⟨Nat.zero_le _, fun h => absurd h (Nat.lt_irrefl 0)⟩ ?_ ?_
    ·exact ent_tau [0, 1, 2, 3, 4, 5] ⟨by (repeat' first|exact fp|refine aN ?_ ?_), by (repeat' first|exact tm|refine aN ?_ ?_), rfl⟩
    rintro ⟨k, c, d⟩ ⟨hk, hcap⟩
    dsimp only at hk hcap
    cases k with
    | zero =>
     refine And.intro ?_ (And.intro (fun hc => ?_) (fun hc => ?_))
     ·(repeat' first|exact aq|refine aN ?_ ?_|exact trivial)
     ·have hk' : 0 < t.trl.length := by
       have := of_decide_eq_true hc
       omega
      have ek := z1 0
      have qa : (fun j => (xW t.trl j a).1) 0 = pgT t.trl (2 * (0 + ((0 : Nat) : Int).toNat)) (0 + ((a : Nat) : Int).toNat) := by rw [ek, ea]; exact pgT_a.symm
      have qb : (fun j => (xW t.trl j a).2) 0 = pgT t.trl (2 * (0 + ((0 : Nat) : Int).toNat) + 1) (0 + ((a : Nat) : Int).toNat) := by rw [ek, ea]; exact pgT_b.symm
      (repeat' first|exact aq|refine aN ?_ ?_|exact trivial)
      all_goals first | exact dd | skip
      refine drawP E_ok [] pl15_8 (by kernel_rfl) ?_
      (repeat' first|exact aq|refine aN ?_ ?_|exact trivial)
      all_goals first | exact dd | skip
      all_goals first | ((with_reducible show under _ _); show 0 + ((a : Nat) : Int).toNat < t.n; omega) | exact Nat.le_refl _ | decide | exact one1 rfl | exact hc1 | exact hc2 | exact hd1 | exact hd2 | (show _ * 8 ≤ 140737488355328; omega) | skip
      all_goals intro c1 q1 q2
      all_goals (repeat' first|exact aq|refine aN ?_ ?_|exact trivial)
      all_goals first | ((with_reducible show under _ _); show 0 + ((a : Nat) : Int).toNat < t.n; omega) | exact Nat.le_refl _ | decide | exact one1 rfl | exact hc1 | exact hc2 | exact hd1 | exact hd2 | (show _ * 8 ≤ 140737488355328; omega) | skip
      all_goals intro c2 q3 q4
      all_goals (repeat' first|exact aq|refine aN ?_ ?_|exact trivial)
      all_goals all_goals first | exact dd | skip
      all_goals refine ⟨(0 + 1, c1, c2), ⟨hk', fun _ => ⟨⟨q1, q2⟩, q3, q4⟩⟩, by simp only; omega, ?_⟩
      ·refine ent_tau [0, 1, 2, 3, 4, 5, 7, 9] ⟨?_, by (repeat' first|exact tm|refine aN ?_ ?_), rfl⟩
       (repeat' first|exact fp|refine aN ?_ ?_)
       all_goals first | exact row_s0 qa | exact row_s1 qa | exact row_s0 qb | exact row_s1 qb
      ·refine ent_tau [0, 1, 2, 3, 4, 5, 8, 9] ⟨?_, by (repeat' first|exact tm|refine aN ?_ ?_), rfl⟩
       (repeat' first|exact fp|refine aN ?_ ?_)
       all_goals first | exact row_s0 qa | exact row_s1 qa | exact row_s0 qb | exact row_s1 qb
      ·refine ent_tau [0, 1, 2, 3, 4, 5, 8, 9] ⟨?_, by (repeat' first|exact tm|refine aN ?_ ?_), rfl⟩
       (repeat' first|exact fp|refine aN ?_ ?_)
       all_goals first | exact row_s0 qa | exact row_s1 qa | exact row_s0 qb | exact row_s1 qb
     ·exact absurd (of_decide_eq_false hc) (by dsimp only; omega)
    | succ k =>
     obtain ⟨⟨hc1, hc2⟩, hd1, hd2⟩ := hcap (Nat.succ_pos k)
     refine And.intro ?_ (And.intro (fun hc => ?_) (fun hc => ?_))
     ·(repeat' first|exact aq|refine aN ?_ ?_|exact trivial)
     ·have hk' : (k + 1) < t.trl.length := by
       have := of_decide_eq_true hc
       dsimp only at this; omega
      have ek := z1 (k + 1)
      have qa : (fun j => (xW t.trl j a).1) (k + 1) = pgT t.trl (2 * (0 + (((k + 1) : Nat) : Int).toNat)) (0 + ((a : Nat) : Int).toNat) := by rw [ek, ea]; exact pgT_a.symm
      have qb : (fun j => (xW t.trl j a).2) (k + 1) = pgT t.trl (2 * (0 + (((k + 1) : Nat) : Int).toNat) + 1) (0 + ((a : Nat) : Int).toNat) := by rw [ek, ea]; exact pgT_b.symm
      (repeat' first|exact aq|refine aN ?_ ?_|exact trivial)
      all_goals first | exact dd | skip
      refine drawP E_ok [] pl15_8 (by kernel_rfl) ?_
      (repeat' first|exact aq|refine aN ?_ ?_|exact trivial)
      all_goals first | exact dd | skip
      all_goals first | ((with_reducible show under _ _); show 0 + ((a : Nat) : Int).toNat < t.n; omega) | exact Nat.le_refl _ | decide | exact one1 rfl | exact hc1 | exact hc2 | exact hd1 | exact hd2 | (show _ * 8 ≤ 140737488355328; omega) | skip
      all_goals intro c1 q1 q2
      all_goals (repeat' first|exact aq|refine aN ?_ ?_|exact trivial)
      all_goals first | ((with_reducible show under _ _); show 0 + ((a : Nat) : Int).toNat < t.n; omega) | exact Nat.le_refl _ | decide | exact one1 rfl | exact hc1 | exact hc2 | exact hd1 | exact hd2 | (show _ * 8 ≤ 140737488355328; omega) | skip
      all_goals intro c2 q3 q4
      all_goals (repeat' first|exact aq|refine aN ?_ ?_|exact trivial)
      all_goals all_goals first | exact dd | skip
      all_goals refine ⟨((k + 1) + 1, c1, c2), ⟨hk', fun _ => ⟨⟨q1, q2⟩, q3, q4⟩⟩, by simp only; omega, ?_⟩
      ·refine ent_tau [0, 1, 2, 3, 4, 5, 9, 11] ⟨?_, by (repeat' first|exact tm|refine aN ?_ ?_), rfl⟩
       (repeat' first|exact fp|refine aN ?_ ?_)
       all_goals first | exact row_s0 qa | exact row_s1 qa | exact row_s0 qb | exact row_s1 qb
      ·refine ent_tau [0, 1, 2, 3, 4, 5, 10, 11] ⟨?_, by (repeat' first|exact tm|refine aN ?_ ?_), rfl⟩
       (repeat' first|exact fp|refine aN ?_ ?_)
       all_goals first | exact row_s0 qa | exact row_s1 qa | exact row_s0 qb | exact row_s1 qb
      ·refine ent_tau [0, 1, 2, 3, 4, 5, 10, 11] ⟨?_, by (repeat' first|exact tm|refine aN ?_ ?_), rfl⟩
       (repeat' first|exact fp|refine aN ?_ ?_)
       all_goals first | exact row_s0 qa | exact row_s1 qa | exact row_s0 qb | exact row_s1 qb
     ·have hz : t.trl.length = k + 1 := by
       have := of_decide_eq_false hc
       dsimp only at this
       omega
      have c55a := t55 (k + 1) c (by omega) (by omega) (fun j => (xW t.trl j a).1)
      have c55b := t55 (k + 1) d (by omega) (by omega) (fun j => (xW t.trl j a).2)
      rw [hz] at esa esb
      rw [← esa] at c55a
      rw [← esb] at c55b
      (repeat' first|exact aq|refine aN ?_ ?_|exact trivial)
      refine c55a.use [6] ?_ (by (repeat' first|exact fp|refine aN ?_ ?_)) rfl
      (repeat' first|exact aq|refine aN ?_ ?_|exact trivial)
      refine c55b.use [7] ?_ (by (repeat' first|exact fp|refine aN ?_ ?_)) rfl
      (repeat' first|exact aq|refine aN ?_ ?_|exact trivial)
      exact ent_tau [0] ⟨by (repeat' first|exact fp|refine aN ?_ ?_), by (repeat' first|exact tm|refine aN ?_ ?_), rfl⟩
 ·have e : minT t i = (((0, 0), (0, 0)), 1) := by unfold minT; rw [if_pos hv]
  rw [e]
  refine callR (E := E) E_ok Try.func15 rfl ?_
  (repeat' first|exact aq|refine aN ?_ ?_|exact trivial)
  refine drawP E_ok [1] pl15_1 (by kernel_rfl) ?_
  (repeat' first|exact aq|refine aN ?_ ?_|exact trivial)
  refine c54.use [0] ?_ (by (repeat' first|exact fp|refine aN ?_ ?_)) rfl
  (repeat' first|exact aq|refine aN ?_ ?_|exact trivial)
  refine (t53n hn hv B).use [0] ?_ (by (repeat' first|exact fp|refine aN ?_ ?_)) rfl
  all_goals (repeat' first|exact aq|refine aN ?_ ?_|exact trivial)
  all_goals first | exact dd | skip
  all_goals intro h1
  all_goals first | exact absurd h1 (by decide) | (cases h1; done) | skip
  (repeat' first|exact aq|refine aN ?_ ?_|exact trivial)
  exact ent_tau [0] ⟨by (repeat' first|exact fp|refine aN ?_ ?_), by (repeat' first|exact tm|refine aN ?_ ?_), rfl⟩
end Go.Proofs.Ytioajogaghgipaa
/-
 Statements: can tickets be in too many ways.
-/
namespace Go.Proofs.Ytioajogaghgipaa
open Go Go.Sy Tic
set_option linter.unusedSimpArgs false
set_option maxRecDepth 100000
set_option maxHeartbeats 4000000
attribute [local irreducible] CallP CodeP Ent YieldP
set_option maxHeartbeats 16000000
-- fast: YtioajogaghgipaaDd

def waysN (t : TK) : Nat → Int
 | 0 => 1
 | k + 1 => waysN t k * ((t.bh k - t.bl k + 1) * (t.dh k - t.dl k + 1))
theorem mul_rng {a b A B : Int} (ha : 1 ≤ a ∧ a ≤ A) (hb : 1 ≤ b ∧ b ≤ B) : 1 ≤ a * b ∧ a * b ≤ A * B := by
 constructor
 ·have := Int.mul_le_mul ha.1 hb.1 (by decide) (by omega)
  simpa using this
 ·exact Int.mul_le_mul ha.2 hb.2 (by omega) (by omega)
theorem ways_one {t : TK} (hv : t.Valid) {k : Nat} (hk : k < t.n) : 1 ≤ (t.bh k - t.bl k + 1) * (t.dh k - t.dl k + 1) ∧ (t.bh k - t.bl k + 1) * (t.dh k - t.dl k + 1) ≤ 9 := by
 have h := hv.2.2 k hk
 unfold TK.okT spanOk at h
 exact mul_rng (A := 3) (B := 3) (by omega) (by omega)
theorem ways_rng {t : TK} (hv : t.Valid) : ∀ k, k ≤ t.n → 1 ≤ waysN t k ∧ waysN t k ≤ 9 ^ k
 | 0, _ => by simp [waysN]
 | k + 1, hk => by
  have ih := ways_rng hv k (by omega)
  have h := ways_one hv (k := k) (by omega)
  have := mul_rng ih h
  rw [waysN, Int.pow_succ]
  exact this
theorem ways_le {t : TK} (hv : t.Valid) {k : Nat} (hk : k ≤ t.n) : 1 ≤ waysN t k ∧ waysN t k ≤ 59049 := by
 have h1 := ways_rng hv k hk
 have h2 := hv.2.1
 have h3 : (9 : Int) ^ k ≤ 9 ^ 5 := by
  have : 9 ^ k ≤ 9 ^ 5 := Nat.pow_le_pow_right (n := 9) (by decide) (by omega)
  exact_mod_cast this
 have h4 : (9 : Int) ^ 5 = 59049 := by decide
 omega
noncomputable def hvB (t : TK) (w : Int) : Bool := bif decide (40 < t.n) then true else bif !vb t then false else decide (waysN t t.n > w)
theorem t12 (t : TK) (hl : t.n ≤ 9223372036854775807) (w : Int) : CallP Try.prog 12 [TA t, .int .i64 w] (TH t) (Ret (.bool (hvB t w)) (TH t)) := by
 have c39 := t39 t
 by_cases h40 : 40 < t.n
 ·have e : hvB t w = true := by unfold hvB; rw [decide_eq_true h40]; rfl
  rw [decide_eq_true h40] at c39
  rw [e]
  refine callR (E := E) E_ok Try.func12 rfl ?_
  (repeat' first|exact aq|refine aN ?_ ?_|exact trivial)
  refine c39.use [0] ?_ (by (repeat' first|exact fp|refine aN ?_ ?_)) rfl
  all_goals (repeat' first|exact aq|refine aN ?_ ?_|exact trivial)
  all_goals first | exact dd | skip
  all_goals intro h1
  all_goals first | exact absurd h1 (by decide) | (cases h1; done) | skip
  (repeat' first|exact aq|refine aN ?_ ?_|exact trivial)
  all_goals first | exact dd | skip
  all_goals (repeat' first|exact aq|refine aN ?_ ?_|exact trivial)
  all_goals first | exact dd | skip
  all_goals intro h2
  all_goals first | exact absurd h2 (by decide) | (cases h2; done) | skip
  (repeat' first|exact aq|refine aN ?_ ?_|exact trivial)
  refine c39.use [0] ?_ (by (repeat' first|exact fp|refine aN ?_ ?_)) rfl
  (repeat' first|exact aq|refine aN ?_ ?_|exact trivial)
  exact ent_tau [0] ⟨by (repeat' first|exact fp|refine aN ?_ ?_), by (repeat' first|exact tm|refine aN ?_ ?_), rfl⟩
 ·rw [decide_eq_false h40] at c39
  have c40 := t40 t (by omega)
  by_cases hv : t.Valid
  ·have e : hvB t w = decide (waysN t t.n > w) := by unfold hvB; rw [decide_eq_false h40, vb_yes hv]; rfl
   rw [vb_yes hv] at c40
   rw [e]
   refine callR (E := E) E_ok Try.func12 rfl ?_
   (repeat' first|exact aq|refine aN ?_ ?_|exact trivial)
   refine c39.use [0] ?_ (by (repeat' first|exact fp|refine aN ?_ ?_)) rfl
   all_goals (repeat' first|exact aq|refine aN ?_ ?_|exact trivial)
   all_goals first | exact dd | skip
   all_goals intro h1
   all_goals first | exact absurd h1 (by decide) | (cases h1; done) | skip
   refine c40.use [0] ?_ (by (repeat' first|exact fp|refine aN ?_ ?_)) rfl
   all_goals (repeat' first|exact aq|refine aN ?_ ?_|exact trivial)
   all_goals first | exact dd | skip
   all_goals intro h2
   all_goals first | exact absurd h2 (by decide) | (cases h2; done) | skip
   (repeat' first|exact aq|refine aN ?_ ?_|exact trivial)
   all_goals first | exact dd | skip
   refine loopP E_ok [1, 2, 18, 19] (fun i : Nat => [(5, .int .i64 (waysN t i)), (20, .int .i64 i)]) (fun _ _ => TH t ++ [some (.cells (tb t))]) (fun i => i ≤ t.n) (fun i => t.n - i) 0 (Nat.zero_le _) ?_ ?_
   ·exact ent_tau [0, 1] ⟨by (repeat' first|exact fp|refine aN ?_ ?_), by (repeat' first|exact tm|refine aN ?_ ?_), rfl⟩
   rintro i hi
   have hw0 := ways_le hv hi
   refine And.intro ?_ (And.intro (fun hlt => ?_) (fun hlt => ?_))
   ·(repeat' first|exact aq|refine aN ?_ ?_|exact trivial)
   ·have hlt' : i < t.n := by
     have := of_decide_eq_true hlt
     omega
    have ei := z1 i
    have hw1 : ∀ j, j = i → 1 ≤ waysN t i * ((t.bh j - t.bl j + 1) * (t.dh j - t.dl j + 1)) ∧ waysN t i * ((t.bh j - t.bl j + 1) * (t.dh j - t.dl j + 1)) ≤ 59049 := fun j hj => by
     subst hj
     exact ways_le hv (show j + 1 ≤ t.n by omega)
    have w1 : ∀ j, j = i → 1 ≤ (t.bh j - t.bl j + 1) * (t.dh j - t.dl j + 1) ∧ (t.bh j - t.bl j + 1) * (t.dh j - t.dl j + 1) ≤ 9 := fun j hj => by
     subst hj
     exact ways_one hv hlt'
    have o : ∀ j, j = i → t.okT j := fun j hj => by
     subst hj
     exact hv.2.2 j hlt'
    replace hw1 := hw1 _ ei
    replace w1 := w1 _ ei
    replace o := o _ ei
    unfold TK.okT spanOk at o
    (repeat' first|exact aq|refine aN ?_ ?_|exact trivial)
    all_goals first | exact dd | skip
    refine ⟨i + 1, hlt', by omega, ?_⟩
    refine ent_tau [0, 1] ⟨by (repeat' first|exact fp|refine aN ?_ ?_), ?_, rfl⟩
    (repeat' first|exact tm|refine aN ?_ ?_)
    refine congrArg (SV.int .i64) ?_
    rw [ei]
    rfl
   ·have e : i = t.n := by
     have := of_decide_eq_false hlt
     omega
    subst e
    (repeat' first|exact aq|refine aN ?_ ?_|exact trivial)
    exact ent_tau [0] ⟨by (repeat' first|exact fp|refine aN ?_ ?_), by (repeat' first|exact tm|refine aN ?_ ?_), rfl⟩
  ·have e : hvB t w = false := by unfold hvB; rw [decide_eq_false h40, vb_no hv]; rfl
   rw [vb_no hv] at c40
   rw [e]
   refine callR (E := E) E_ok Try.func12 rfl ?_
   (repeat' first|exact aq|refine aN ?_ ?_|exact trivial)
   refine c39.use [0] ?_ (by (repeat' first|exact fp|refine aN ?_ ?_)) rfl
   all_goals (repeat' first|exact aq|refine aN ?_ ?_|exact trivial)
   all_goals first | exact dd | skip
   all_goals intro h1
   all_goals first | exact absurd h1 (by decide) | (cases h1; done) | skip
   refine c40.use [0] ?_ (by (repeat' first|exact fp|refine aN ?_ ?_)) rfl
   all_goals (repeat' first|exact aq|refine aN ?_ ?_|exact trivial)
   all_goals first | exact dd | skip
   all_goals intro h2
   all_goals first | exact absurd h2 (by decide) | (cases h2; done) | skip
   (repeat' first|exact aq|refine aN ?_ ?_|exact trivial)
   all_goals first | exact dd | skip
   refine c39.use [0] ?_ (by (repeat' first|exact fp|refine aN ?_ ?_)) rfl
   (repeat' first|exact aq|refine aN ?_ ?_|exact trivial)
   exact ent_tau [0] ⟨by (repeat' first|exact fp|refine aN ?_ ?_), by (repeat' first|exact tm|refine aN ?_ ?_), rfl⟩
end Go.Proofs.Ytioajogaghgipaa
/-
 TicketTells.
-/
namespace Go.Proofs.Ytioajogaghgipaa
open Go Go.Sy Tic
set_option linter.unusedSimpArgs false
set_option maxRecDepth 100000
set_option maxHeartbeats 4000000
attribute [local irreducible] CallP CodeP Ent YieldP
set_option maxHeartbeats 16000000
-- fast: YtioajogaghgipaaDd

theorem hvB_n {t : TK} {w : Int} (h : hvB t w = false) : t.n ≤ 40 := by
 unfold hvB at h
 by_cases c : 40 < t.n
 ·rw [decide_eq_true c] at h
  cases h
 ·omega
theorem t3 (t : TK) (hI : InR .i64 t.huts) (hl : t.n ≤ 9223372036854775807) (k h m : Int) : CallP Try.prog 3 [TA t, .int .i64 k, .int .i64 h, .int .i64 m] (TH t) (Ret (.bool true) (TH t)) := by
 have c12 := t12 t hl 2500
 obtain ⟨v, hv⟩ : ∃ v, hvB t 2500 = v := ⟨_, rfl⟩
 rw [hv] at c12
 cases v with
 | true =>
  refine callR (E := E) E_ok Try.func3 rfl ?_
  (repeat' first|exact aq|refine aN ?_ ?_|exact trivial)
  refine c12.use [0] ?_ (by (repeat' first|exact fp|refine aN ?_ ?_)) rfl
  all_goals (repeat' first|exact aq|refine aN ?_ ?_|exact trivial)
  all_goals first | exact dd | skip
  all_goals intro h1
  all_goals first | exact absurd h1 (by decide) | (cases h1; done) | skip
  (repeat' first|exact aq|refine aN ?_ ?_|exact trivial)
  refine t13.use [] ?_ trivial rfl
  (repeat' first|exact aq|refine aN ?_ ?_|exact trivial)
  exact ent_tau [0] ⟨by (repeat' first|exact fp|refine aN ?_ ?_), by (repeat' first|exact tm|refine aN ?_ ?_), rfl⟩
 | false =>
  have hn := hvB_n hv
  have c14 := t14 t (by omega) hI k
  have c15 := t15 t (by omega) k
  have c16 := t16 t (by omega) hI k
  have c17 := t17 t (by omega) k
  have c18 := t18 t (by omega) hI k
  have c19 := t19 t (by omega) k
  have c20 := t20 t (by omega) hI m
  have c21 := t21 t (by omega) m
  have c22 := t22 t (by omega) hI h m
  have c23 := t23 t (by omega) h m
  generalize minT t k = MI at c14 c15
  generalize turnT t k = TU at c16 c17
  generalize pasT t k = PA at c18 c19
  generalize whoT t m = WH at c20 c21
  generalize freT t h m = FR at c22 c23
  obtain ⟨⟨⟨m1, m2⟩, m3, m4⟩, m5⟩ := MI
  obtain ⟨u1, u2⟩ := TU
  obtain ⟨p1, p2, p3⟩ := PA
  obtain ⟨w1, w2, w3⟩ := WH
  obtain ⟨f1, f2⟩ := FR
  dsimp only at c14 c15 c16 c17 c18 c19 c20 c21 c22 c23
  refine callR (E := E) E_ok Try.func3 rfl ?_
  (repeat' first|exact aq|refine aN ?_ ?_|exact trivial)
  refine c12.use [0] ?_ (by (repeat' first|exact fp|refine aN ?_ ?_)) rfl
  all_goals (repeat' first|exact aq|refine aN ?_ ?_|exact trivial)
  all_goals first | exact dd | skip
  all_goals intro h1
  all_goals first | exact absurd h1 (by decide) | (cases h1; done) | skip
  (repeat' first|exact aq|refine aN ?_ ?_|exact trivial)
  refine c14.use [0] ?_ (by (repeat' first|exact fp|refine aN ?_ ?_)) rfl
  (repeat' first|exact aq|refine aN ?_ ?_|exact trivial)
  refine c15.use [0] ?_ (by (repeat' first|exact fp|refine aN ?_ ?_)) rfl
  (repeat' first|exact aq|refine aN ?_ ?_|exact trivial)
  refine c16.use [0] ?_ (by (repeat' first|exact fp|refine aN ?_ ?_)) rfl
  (repeat' first|exact aq|refine aN ?_ ?_|exact trivial)
  refine c17.use [0] ?_ (by (repeat' first|exact fp|refine aN ?_ ?_)) rfl
  (repeat' first|exact aq|refine aN ?_ ?_|exact trivial)
  refine c18.use [0] ?_ (by (repeat' first|exact fp|refine aN ?_ ?_)) rfl
  (repeat' first|exact aq|refine aN ?_ ?_|exact trivial)
  refine c19.use [0] ?_ (by (repeat' first|exact fp|refine aN ?_ ?_)) rfl
  (repeat' first|exact aq|refine aN ?_ ?_|exact trivial)
  all_goals first | ((with_reducible show under _ _); simp [under, gB, wB]; done) | skip
  all_goals intro hx
  all_goals first | (exfalso; revert hx; simp; done) | skip
  (repeat' first|exact aq|refine aN ?_ ?_|exact trivial)
  refine c20.use [0] ?_ (by (repeat' first|exact fp|refine aN ?_ ?_)) rfl
  (repeat' first|exact aq|refine aN ?_ ?_|exact trivial)
  refine c21.use [0] ?_ (by (repeat' first|exact fp|refine aN ?_ ?_)) rfl
  (repeat' first|exact aq|refine aN ?_ ?_|exact trivial)
  refine c22.use [0] ?_ (by (repeat' first|exact fp|refine aN ?_ ?_)) rfl
  (repeat' first|exact aq|refine aN ?_ ?_|exact trivial)
  refine c23.use [0] ?_ (by (repeat' first|exact fp|refine aN ?_ ?_)) rfl
  (repeat' first|exact aq|refine aN ?_ ?_|exact trivial)
  all_goals first | ((with_reducible show under _ _); simp [under, gB, wB]; done) | skip
  all_goals intro hy
  all_goals first | (exfalso; revert hy; simp [gB, wB]; done) | skip
  refine t13.use [] ?_ trivial rfl
  (repeat' first|exact aq|refine aN ?_ ?_|exact trivial)
  all_goals first | ((with_reducible show under _ _); simp [under, gB, wB]; done) | skip
  refine ent_tau [0] ⟨by (repeat' first|exact fp|refine aN ?_ ?_), ⟨rfl, ?_, trivial⟩, rfl⟩
  refine congrArg SV.bool ?_
  simp
end Go.Proofs.Ytioajogaghgipaa
