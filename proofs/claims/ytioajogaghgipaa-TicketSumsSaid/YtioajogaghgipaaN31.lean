/-
  Parts: R13, C4.
-/
import Derived.Test.YtioajogaghgipaaN26
import Derived.Test.YtioajogaghgipaaN30
import Derived.Test.YtioajogaghgipaaN21
set_option linter.unusedVariables false
/-
 Contracts of the document: Waits, Wrong, Busy.
-/
namespace Go.Proofs.Ytioajogaghgipaa
open Go Go.Sy Tic
set_option linter.unusedSimpArgs false
set_option maxRecDepth 100000
set_option maxHeartbeats 4000000
attribute [local irreducible] CallP CodeP Ent YieldP
set_option maxHeartbeats 16000000
-- fast: YtioajogaghgipaaDd

theorem row_s0 {σ : Nat → Nat} {f : Nat → Int} {v : Int} (h : f 0 = v) : ∀ k, k < 1 → getOf 1 (splice (repL 1 [ti3.zero]) (0 * 1) [SV.int .i64 v]) (0 + k) = renL σ (LF f k) := fun k hk => by
 obtain rfl : k = 0 := by omega
 subst h
 rfl
theorem row_s1 {σ : Nat → Nat} {f : Nat → Int} {n : Nat} {v : Int} (h : f n = v) : ∀ k, k < n + 1 → selL (decide (k < n)) (LF f k) (getOf 1 (splice (repL 1 [ti3.zero]) (0 * 1) [SV.int .i64 v]) (0 + (k - n))) = renL σ (LF f k) := fun k hk => by
 subst h
 by_cases c : k < n
 ·rw [decide_eq_true c, selL_true]
  rfl
 ·obtain rfl : k = n := by omega
  rw [decide_eq_false c, selL_false, Nat.sub_self]
  rfl
theorem t25 (t : TK) (hn : t.n ≤ 1000000) : CallP Try.prog 25 [TA t] (TH t) (Ret (.tup [.agg [.int .i64 (spT t t.waits).1, .int .i64 (spT t t.waits).2.1], .int .i64 (spT t t.waits).2.2]) (TH t)) := by
 by_cases hv : t.Valid
 ·have hn5 := hv.2.1
  have hh4 := hv.1
  by_cases hne : t.trl = []
  ·have e : spT t t.waits = (0, 0, 10) := by unfold spT; rw [if_neg (by simpa using hv), if_pos (trl_nil.2 hne)]
   rw [e]
   refine callR (E := E) E_ok Try.func25 rfl ?_
   (repeat' first|exact aq|refine aN ?_ ?_|exact trivial)
   refine (t53c hv hne).use [0] ?_ (by (repeat' first|exact fp|refine aN ?_ ?_)) rfl
   all_goals (repeat' first|exact aq|refine aN ?_ ?_|exact trivial)
   all_goals first | exact dd | skip
   all_goals intro h1
   all_goals first | exact absurd h1 (by decide) | (cases h1; done) | skip
   (repeat' first|exact aq|refine aN ?_ ?_|exact trivial)
   exact ent_tau [0] ⟨by (repeat' first|exact fp|refine aN ?_ ?_), by (repeat' first|exact tm|refine aN ?_ ?_), rfl⟩
  ·rw [sp_is hv (fun h => hne (trl_nil.1 h))]
   have hlen := trl_len hv
   have hpos := List.length_pos_iff.2 hne
   have es : t.waits = hullF (fun j => TK.longest (xW t.trl j) t.n) t.trl.length := hull_xW (W := t.trl) hne (f := fun x => TK.longest x t.n)
   refine callR (E := E) E_ok Try.func25 rfl ?_
   (repeat' first|exact aq|refine aN ?_ ?_|exact trivial)
   refine CallP.frameH (t53o hv hlen hne) [0] (by (repeat' first|exact fp|refine aN ?_ ?_)) rfl ?_
   rintro ce h' ⟨cO, cp, cq, hz, hcO, rfl, rfl⟩
   refine ⟨rfl, ?_⟩
   all_goals (repeat' first|exact aq|refine aN ?_ ?_|exact trivial)
   all_goals first | exact dd | skip
   all_goals intro h1
   all_goals first | exact absurd h1 (by decide) | (cases h1; done) | skip
   (repeat' first|exact aq|refine aN ?_ ?_|exact trivial)
   refine loopP E_ok [1, 2, 4] (fun g : Nat × Nat => [(6, match g.1 with | 0 => .snil | k + 1 => .slice 5 1 0 (k + 1) g.2), (7, .int .i64 g.1)]) (fun g _ => match g.1 with | 0 => [some (.roa 5 t.n (TF t)), some (.cells (tb t)), some (.cells [.int .i64 0, .int .i64 0]), some (.roa 2 t.trl.length (rwsT 4 t.n cp cq)), some (.pool false (2 * t.trl.length) (fun _ => t.n) (pgT t.trl))] | k + 1 => [some (.roa 5 t.n (TF t)), some (.cells (tb t)), some (.cells [.int .i64 0, .int .i64 0]), some (.roa 2 t.trl.length (rwsT 4 t.n cp cq)), some (.pool false (2 * t.trl.length) (fun _ => t.n) (pgT t.trl)), some (.arr 1 (k + 1) g.2 (LF fun j => TK.longest (xW t.trl j) t.n))]) (fun g => g.1 ≤ t.trl.length ∧ (0 < g.1 → g.1 ≤ g.2 ∧ g.2 ≤ 9223372036854775807)) (fun g => t.trl.length - g.1) (0, 0) ⟨Nat.zero_le _, fun h => absurd h (Nat.lt_irrefl 0)⟩ ?_ ?_
   ·exact ent_tau [0, 1, 2, 3, 4] ⟨by (repeat' first|exact fp|refine aN ?_ ?_), by (repeat' first|exact tm|refine aN ?_ ?_), rfl⟩
   rintro ⟨k, c⟩ ⟨hk, hcap⟩
   dsimp only at hk hcap
   cases k with
   | zero =>
    refine And.intro ?_ (And.intro (fun hc => ?_) (fun hc => ?_))
    ·(repeat' first|exact aq|refine aN ?_ ?_|exact trivial)
    ·have hk' : 0 < t.trl.length := by
      have := of_decide_eq_true hc
      omega
     have ek := z1 0
     have cs := t80r t t.trl (0 + ((0 : Nat) : Int).toNat) (by omega) (cp (0 + ((0 : Nat) : Int).toNat)) (cq (0 + ((0 : Nat) : Int).toNat)) (fun h => hz h _) hn (by rw [ek]; exact xW_day hv hk')
     have ex : TK.longest (ofL (t.trl.getD (0 + ((0 : Nat) : Int).toNat) [])) t.n = TK.longest (xW t.trl 0) t.n := by rw [ek]; rfl
     obtain ⟨q, hq⟩ : ∃ q : Int, TK.longest (xW t.trl 0) t.n = q := ⟨_, rfl⟩
     rw [ex, hq] at cs
     (repeat' first|exact aq|refine aN ?_ ?_|exact trivial)
     all_goals first | exact dd | skip
     refine cs.use [0, 4] ?_ (by (repeat' first|exact fp|refine aN ?_ ?_)) rfl
     (repeat' first|exact aq|refine aN ?_ ?_|exact trivial)
     all_goals first | exact Nat.le_refl _ | decide | exact one1 rfl | exact hc1 | exact hc2 | (show _ * 8 ≤ 140737488355328; omega) | skip
     intro c' q1 q2
     (repeat' first|exact aq|refine aN ?_ ?_|exact trivial)
     all_goals first | exact dd | skip
     refine ⟨(0 + 1, c'), ⟨hk', fun _ => ⟨q1, q2⟩⟩, by simp only; omega, ?_⟩
     refine ent_tau [0, 1, 2, 3, 4, 6] ⟨?_, by (repeat' first|exact tm|refine aN ?_ ?_), rfl⟩
     (repeat' first|exact fp|refine aN ?_ ?_)
     all_goals first | exact row_s0 hq | exact row_s1 hq
    ·exact absurd (of_decide_eq_false hc) (by dsimp only; omega)
   | succ k =>
    obtain ⟨hc1, hc2⟩ := hcap (Nat.succ_pos k)
    refine And.intro ?_ (And.intro (fun hc => ?_) (fun hc => ?_))
    ·(repeat' first|exact aq|refine aN ?_ ?_|exact trivial)
    ·have hk' : (k + 1) < t.trl.length := by
      have := of_decide_eq_true hc
      dsimp only at this; omega
     have ek := z1 (k + 1)
     have cs := t80r t t.trl (0 + (((k + 1) : Nat) : Int).toNat) (by omega) (cp (0 + (((k + 1) : Nat) : Int).toNat)) (cq (0 + (((k + 1) : Nat) : Int).toNat)) (fun h => hz h _) hn (by rw [ek]; exact xW_day hv hk')
     have ex : TK.longest (ofL (t.trl.getD (0 + (((k + 1) : Nat) : Int).toNat) [])) t.n = TK.longest (xW t.trl (k + 1)) t.n := by rw [ek]; rfl
     obtain ⟨q, hq⟩ : ∃ q : Int, TK.longest (xW t.trl (k + 1)) t.n = q := ⟨_, rfl⟩
     rw [ex, hq] at cs
     (repeat' first|exact aq|refine aN ?_ ?_|exact trivial)
     all_goals first | exact dd | skip
     refine cs.use [0, 4] ?_ (by (repeat' first|exact fp|refine aN ?_ ?_)) rfl
     (repeat' first|exact aq|refine aN ?_ ?_|exact trivial)
     all_goals first | exact Nat.le_refl _ | decide | exact one1 rfl | exact hc1 | exact hc2 | (show _ * 8 ≤ 140737488355328; omega) | skip
     intro c' q1 q2
     (repeat' first|exact aq|refine aN ?_ ?_|exact trivial)
     all_goals first | exact dd | skip
     refine ⟨((k + 1) + 1, c'), ⟨hk', fun _ => ⟨q1, q2⟩⟩, by simp only; omega, ?_⟩
     refine ent_tau [0, 1, 2, 3, 4, 7] ⟨?_, by (repeat' first|exact tm|refine aN ?_ ?_), rfl⟩
     (repeat' first|exact fp|refine aN ?_ ?_)
     all_goals first | exact row_s0 hq | exact row_s1 hq
    ·have hz : t.trl.length = k + 1 := by
      have := of_decide_eq_false hc
      dsimp only at this
      omega
     have c55 := t55 (k + 1) c (by omega) (by omega) (fun j => TK.longest (xW t.trl j) t.n)
     rw [hz] at es
     rw [← es] at c55
     (repeat' first|exact aq|refine aN ?_ ?_|exact trivial)
     refine c55.use [5] ?_ (by (repeat' first|exact fp|refine aN ?_ ?_)) rfl
     (repeat' first|exact aq|refine aN ?_ ?_|exact trivial)
     exact ent_tau [0] ⟨by (repeat' first|exact fp|refine aN ?_ ?_), by (repeat' first|exact tm|refine aN ?_ ?_), rfl⟩
 ·have e : spT t t.waits = (0, 0, 1) := by unfold spT; rw [if_pos hv]
  rw [e]
  refine callR (E := E) E_ok Try.func25 rfl ?_
  (repeat' first|exact aq|refine aN ?_ ?_|exact trivial)
  refine (t53n hn hv true).use [0] ?_ (by (repeat' first|exact fp|refine aN ?_ ?_)) rfl
  all_goals (repeat' first|exact aq|refine aN ?_ ?_|exact trivial)
  all_goals first | exact dd | skip
  all_goals intro h1
  all_goals first | exact absurd h1 (by decide) | (cases h1; done) | skip
  (repeat' first|exact aq|refine aN ?_ ?_|exact trivial)
  exact ent_tau [0] ⟨by (repeat' first|exact fp|refine aN ?_ ?_), by (repeat' first|exact tm|refine aN ?_ ?_), rfl⟩
theorem t29 (t : TK) (hn : t.n ≤ 1000000) : CallP Try.prog 29 [TA t] (TH t) (Ret (.tup [.agg [.int .i64 (spT t t.wrong).1, .int .i64 (spT t t.wrong).2.1], .int .i64 (spT t t.wrong).2.2]) (TH t)) := by
 by_cases hv : t.Valid
 ·have hn5 := hv.2.1
  have hh4 := hv.1
  by_cases hne : t.trl = []
  ·have e : spT t t.wrong = (0, 0, 10) := by unfold spT; rw [if_neg (by simpa using hv), if_pos (trl_nil.2 hne)]
   rw [e]
   refine callR (E := E) E_ok Try.func29 rfl ?_
   (repeat' first|exact aq|refine aN ?_ ?_|exact trivial)
   refine (t53c hv hne).use [0] ?_ (by (repeat' first|exact fp|refine aN ?_ ?_)) rfl
   all_goals (repeat' first|exact aq|refine aN ?_ ?_|exact trivial)
   all_goals first | exact dd | skip
   all_goals intro h1
   all_goals first | exact absurd h1 (by decide) | (cases h1; done) | skip
   (repeat' first|exact aq|refine aN ?_ ?_|exact trivial)
   exact ent_tau [0] ⟨by (repeat' first|exact fp|refine aN ?_ ?_), by (repeat' first|exact tm|refine aN ?_ ?_), rfl⟩
  ·rw [sp_is hv (fun h => hne (trl_nil.1 h))]
   have hlen := trl_len hv
   have hpos := List.length_pos_iff.2 hne
   have es : t.wrong = hullF (fun j => ((cntN (fun i => overs t.n (xW t.trl j) i) t.n : Nat) : Int)) t.trl.length := hull_xW (W := t.trl) hne (f := fun x => ((cntN (fun i => overs t.n x i) t.n : Nat) : Int))
   refine callR (E := E) E_ok Try.func29 rfl ?_
   (repeat' first|exact aq|refine aN ?_ ?_|exact trivial)
   refine CallP.frameH (t53o hv hlen hne) [0] (by (repeat' first|exact fp|refine aN ?_ ?_)) rfl ?_
   rintro ce h' ⟨cO, cp, cq, hz, hcO, rfl, rfl⟩
   refine ⟨rfl, ?_⟩
   all_goals (repeat' first|exact aq|refine aN ?_ ?_|exact trivial)
   all_goals first | exact dd | skip
   all_goals intro h1
   all_goals first | exact absurd h1 (by decide) | (cases h1; done) | skip
   (repeat' first|exact aq|refine aN ?_ ?_|exact trivial)
   refine loopP E_ok [1, 2, 4] (fun g : Nat × Nat => [(6, match g.1 with | 0 => .snil | k + 1 => .slice 5 1 0 (k + 1) g.2), (7, .int .i64 g.1)]) (fun g _ => match g.1 with | 0 => [some (.roa 5 t.n (TF t)), some (.cells (tb t)), some (.cells [.int .i64 0, .int .i64 0]), some (.roa 2 t.trl.length (rwsT 4 t.n cp cq)), some (.pool false (2 * t.trl.length) (fun _ => t.n) (pgT t.trl))] | k + 1 => [some (.roa 5 t.n (TF t)), some (.cells (tb t)), some (.cells [.int .i64 0, .int .i64 0]), some (.roa 2 t.trl.length (rwsT 4 t.n cp cq)), some (.pool false (2 * t.trl.length) (fun _ => t.n) (pgT t.trl)), some (.arr 1 (k + 1) g.2 (LF fun j => ((cntN (fun i => overs t.n (xW t.trl j) i) t.n : Nat) : Int)))]) (fun g => g.1 ≤ t.trl.length ∧ (0 < g.1 → g.1 ≤ g.2 ∧ g.2 ≤ 9223372036854775807)) (fun g => t.trl.length - g.1) (0, 0) ⟨Nat.zero_le _, fun h => absurd h (Nat.lt_irrefl 0)⟩ ?_ ?_
   ·exact ent_tau [0, 1, 2, 3, 4] ⟨by (repeat' first|exact fp|refine aN ?_ ?_), by (repeat' first|exact tm|refine aN ?_ ?_), rfl⟩
   rintro ⟨k, c⟩ ⟨hk, hcap⟩
   dsimp only at hk hcap
   cases k with
   | zero =>
    refine And.intro ?_ (And.intro (fun hc => ?_) (fun hc => ?_))
    ·(repeat' first|exact aq|refine aN ?_ ?_|exact trivial)
    ·have hk' : 0 < t.trl.length := by
      have := of_decide_eq_true hc
      omega
     have ek := z1 0
     have cs := t88r t t.trl (0 + ((0 : Nat) : Int).toNat) (by omega) (cp (0 + ((0 : Nat) : Int).toNat)) (cq (0 + ((0 : Nat) : Int).toNat)) (fun h => hz h _) hn
     have ex : ((cntN (fun i => overs t.n (ofL (t.trl.getD (0 + ((0 : Nat) : Int).toNat) [])) i) t.n : Nat) : Int) = ((cntN (fun i => overs t.n (xW t.trl 0) i) t.n : Nat) : Int) := by rw [ek]; rfl
     obtain ⟨q, hq⟩ : ∃ q : Int, ((cntN (fun i => overs t.n (xW t.trl 0) i) t.n : Nat) : Int) = q := ⟨_, rfl⟩
     rw [ex, hq] at cs
     (repeat' first|exact aq|refine aN ?_ ?_|exact trivial)
     all_goals first | exact dd | skip
     refine cs.use [0, 4] ?_ (by (repeat' first|exact fp|refine aN ?_ ?_)) rfl
     (repeat' first|exact aq|refine aN ?_ ?_|exact trivial)
     all_goals first | exact Nat.le_refl _ | decide | exact one1 rfl | exact hc1 | exact hc2 | (show _ * 8 ≤ 140737488355328; omega) | skip
     intro c' q1 q2
     (repeat' first|exact aq|refine aN ?_ ?_|exact trivial)
     all_goals first | exact dd | skip
     refine ⟨(0 + 1, c'), ⟨hk', fun _ => ⟨q1, q2⟩⟩, by simp only; omega, ?_⟩
     refine ent_tau [0, 1, 2, 3, 4, 6] ⟨?_, by (repeat' first|exact tm|refine aN ?_ ?_), rfl⟩
     (repeat' first|exact fp|refine aN ?_ ?_)
     all_goals first | exact row_s0 hq | exact row_s1 hq
    ·exact absurd (of_decide_eq_false hc) (by dsimp only; omega)
   | succ k =>
    obtain ⟨hc1, hc2⟩ := hcap (Nat.succ_pos k)
    refine And.intro ?_ (And.intro (fun hc => ?_) (fun hc => ?_))
    ·(repeat' first|exact aq|refine aN ?_ ?_|exact trivial)
    ·have hk' : (k + 1) < t.trl.length := by
      have := of_decide_eq_true hc
      dsimp only at this; omega
     have ek := z1 (k + 1)
     have cs := t88r t t.trl (0 + (((k + 1) : Nat) : Int).toNat) (by omega) (cp (0 + (((k + 1) : Nat) : Int).toNat)) (cq (0 + (((k + 1) : Nat) : Int).toNat)) (fun h => hz h _) hn
     have ex : ((cntN (fun i => overs t.n (ofL (t.trl.getD (0 + (((k + 1) : Nat) : Int).toNat) [])) i) t.n : Nat) : Int) = ((cntN (fun i => overs t.n (xW t.trl (k + 1)) i) t.n : Nat) : Int) := by rw [ek]; rfl
     obtain ⟨q, hq⟩ : ∃ q : Int, ((cntN (fun i => overs t.n (xW t.trl (k + 1)) i) t.n : Nat) : Int) = q := ⟨_, rfl⟩
     rw [ex, hq] at cs
     (repeat' first|exact aq|refine aN ?_ ?_|exact trivial)
     all_goals first | exact dd | skip
     refine cs.use [0, 4] ?_ (by (repeat' first|exact fp|refine aN ?_ ?_)) rfl
     (repeat' first|exact aq|refine aN ?_ ?_|exact trivial)
     all_goals first | exact Nat.le_refl _ | decide | exact one1 rfl | exact hc1 | exact hc2 | (show _ * 8 ≤ 140737488355328; omega) | skip
     intro c' q1 q2
     (repeat' first|exact aq|refine aN ?_ ?_|exact trivial)
     all_goals first | exact dd | skip
     refine ⟨((k + 1) + 1, c'), ⟨hk', fun _ => ⟨q1, q2⟩⟩, by simp only; omega, ?_⟩
     refine ent_tau [0, 1, 2, 3, 4, 7] ⟨?_, by (repeat' first|exact tm|refine aN ?_ ?_), rfl⟩
     (repeat' first|exact fp|refine aN ?_ ?_)
     all_goals first | exact row_s0 hq | exact row_s1 hq
    ·have hz : t.trl.length = k + 1 := by
      have := of_decide_eq_false hc
      dsimp only at this
      omega
     have c55 := t55 (k + 1) c (by omega) (by omega) (fun j => ((cntN (fun i => overs t.n (xW t.trl j) i) t.n : Nat) : Int))
     rw [hz] at es
     rw [← es] at c55
     (repeat' first|exact aq|refine aN ?_ ?_|exact trivial)
     refine c55.use [5] ?_ (by (repeat' first|exact fp|refine aN ?_ ?_)) rfl
     (repeat' first|exact aq|refine aN ?_ ?_|exact trivial)
     exact ent_tau [0] ⟨by (repeat' first|exact fp|refine aN ?_ ?_), by (repeat' first|exact tm|refine aN ?_ ?_), rfl⟩
 ·have e : spT t t.wrong = (0, 0, 1) := by unfold spT; rw [if_pos hv]
  rw [e]
  refine callR (E := E) E_ok Try.func29 rfl ?_
  (repeat' first|exact aq|refine aN ?_ ?_|exact trivial)
  refine (t53n hn hv true).use [0] ?_ (by (repeat' first|exact fp|refine aN ?_ ?_)) rfl
  all_goals (repeat' first|exact aq|refine aN ?_ ?_|exact trivial)
  all_goals first | exact dd | skip
  all_goals intro h1
  all_goals first | exact absurd h1 (by decide) | (cases h1; done) | skip
  (repeat' first|exact aq|refine aN ?_ ?_|exact trivial)
  exact ent_tau [0] ⟨by (repeat' first|exact fp|refine aN ?_ ?_), by (repeat' first|exact tm|refine aN ?_ ?_), rfl⟩
theorem t27 (t : TK) (hn : t.n ≤ 1000000) : CallP Try.prog 27 [TA t] (TH t) (Ret (.tup [.agg [.int .i64 (spT t t.busy).1, .int .i64 (spT t t.busy).2.1], .int .i64 (spT t t.busy).2.2]) (TH t)) := by
 by_cases hv : t.Valid
 ·have hn5 := hv.2.1
  have hh4 := hv.1
  by_cases hne : t.trl = []
  ·have e : spT t t.busy = (0, 0, 10) := by unfold spT; rw [if_neg (by simpa using hv), if_pos (trl_nil.2 hne)]
   rw [e]
   refine callR (E := E) E_ok Try.func27 rfl ?_
   (repeat' first|exact aq|refine aN ?_ ?_|exact trivial)
   refine (t53c hv hne).use [0] ?_ (by (repeat' first|exact fp|refine aN ?_ ?_)) rfl
   all_goals (repeat' first|exact aq|refine aN ?_ ?_|exact trivial)
   all_goals first | exact dd | skip
   all_goals intro h1
   all_goals first | exact absurd h1 (by decide) | (cases h1; done) | skip
   (repeat' first|exact aq|refine aN ?_ ?_|exact trivial)
   exact ent_tau [0] ⟨by (repeat' first|exact fp|refine aN ?_ ?_), by (repeat' first|exact tm|refine aN ?_ ?_), rfl⟩
  ·rw [sp_is hv (fun h => hne (trl_nil.1 h))]
   have hlen := trl_len hv
   have hpos := List.length_pos_iff.2 hne
   have es : t.busy = hullF (fun j => t.mostF (xW t.trl j) t.n) t.trl.length := hull_xW (W := t.trl) hne (f := fun x => t.mostF x t.n)
   refine callR (E := E) E_ok Try.func27 rfl ?_
   (repeat' first|exact aq|refine aN ?_ ?_|exact trivial)
   refine CallP.frameH (t53o hv hlen hne) [0] (by (repeat' first|exact fp|refine aN ?_ ?_)) rfl ?_
   rintro ce h' ⟨cO, cp, cq, hz, hcO, rfl, rfl⟩
   refine ⟨rfl, ?_⟩
   all_goals (repeat' first|exact aq|refine aN ?_ ?_|exact trivial)
   all_goals first | exact dd | skip
   all_goals intro h1
   all_goals first | exact absurd h1 (by decide) | (cases h1; done) | skip
   (repeat' first|exact aq|refine aN ?_ ?_|exact trivial)
   refine loopP E_ok [1, 2, 4] (fun g : Nat × Nat => [(6, match g.1 with | 0 => .snil | k + 1 => .slice 5 1 0 (k + 1) g.2), (7, .int .i64 g.1)]) (fun g _ => match g.1 with | 0 => [some (.roa 5 t.n (TF t)), some (.cells (tb t)), some (.cells [.int .i64 0, .int .i64 0]), some (.roa 2 t.trl.length (rwsT 4 t.n cp cq)), some (.pool false (2 * t.trl.length) (fun _ => t.n) (pgT t.trl))] | k + 1 => [some (.roa 5 t.n (TF t)), some (.cells (tb t)), some (.cells [.int .i64 0, .int .i64 0]), some (.roa 2 t.trl.length (rwsT 4 t.n cp cq)), some (.pool false (2 * t.trl.length) (fun _ => t.n) (pgT t.trl)), some (.arr 1 (k + 1) g.2 (LF fun j => t.mostF (xW t.trl j) t.n))]) (fun g => g.1 ≤ t.trl.length ∧ (0 < g.1 → g.1 ≤ g.2 ∧ g.2 ≤ 9223372036854775807)) (fun g => t.trl.length - g.1) (0, 0) ⟨Nat.zero_le _, fun h => absurd h (Nat.lt_irrefl 0)⟩ ?_ ?_
   ·exact ent_tau [0, 1, 2, 3, 4] ⟨by (repeat' first|exact fp|refine aN ?_ ?_), by (repeat' first|exact tm|refine aN ?_ ?_), rfl⟩
   rintro ⟨k, c⟩ ⟨hk, hcap⟩
   dsimp only at hk hcap
   cases k with
   | zero =>
    refine And.intro ?_ (And.intro (fun hc => ?_) (fun hc => ?_))
    ·(repeat' first|exact aq|refine aN ?_ ?_|exact trivial)
    ·have hk' : 0 < t.trl.length := by
      have := of_decide_eq_true hc
      omega
     have ek := z1 0
     have cs := t85r t t.trl (0 + ((0 : Nat) : Int).toNat) (by omega) (cp (0 + ((0 : Nat) : Int).toNat)) (cq (0 + ((0 : Nat) : Int).toNat)) (fun h => hz h _) hn (by omega) (by rw [ek]; exact xW_day hv hk')
     have ex : t.mostF (ofL (t.trl.getD (0 + ((0 : Nat) : Int).toNat) [])) t.n = t.mostF (xW t.trl 0) t.n := by rw [ek]; rfl
     obtain ⟨q, hq⟩ : ∃ q : Int, t.mostF (xW t.trl 0) t.n = q := ⟨_, rfl⟩
     rw [ex, hq] at cs
     (repeat' first|exact aq|refine aN ?_ ?_|exact trivial)
     all_goals first | exact dd | skip
     refine drawP E_ok [1] pl27_8 (by kernel_rfl) ?_
     (repeat' first|exact aq|refine aN ?_ ?_|exact trivial)
     all_goals first | exact dd | skip
     refine cs.use [0, 4] ?_ (by (repeat' first|exact fp|refine aN ?_ ?_)) rfl
     (repeat' first|exact aq|refine aN ?_ ?_|exact trivial)
     all_goals first | exact Nat.le_refl _ | decide | exact one1 rfl | exact hc1 | exact hc2 | (show _ * 8 ≤ 140737488355328; omega) | skip
     intro c' q1 q2
     (repeat' first|exact aq|refine aN ?_ ?_|exact trivial)
     all_goals first | exact dd | skip
     refine ⟨(0 + 1, c'), ⟨hk', fun _ => ⟨q1, q2⟩⟩, by simp only; omega, ?_⟩
     refine ent_tau [0, 1, 2, 3, 4, 6] ⟨?_, by (repeat' first|exact tm|refine aN ?_ ?_), rfl⟩
     (repeat' first|exact fp|refine aN ?_ ?_)
     all_goals first | exact row_s0 hq | exact row_s1 hq
    ·exact absurd (of_decide_eq_false hc) (by dsimp only; omega)
   | succ k =>
    obtain ⟨hc1, hc2⟩ := hcap (Nat.succ_pos k)
    refine And.intro ?_ (And.intro (fun hc => ?_) (fun hc => ?_))
    ·(repeat' first|exact aq|refine aN ?_ ?_|exact trivial)
    ·have hk' : (k + 1) < t.trl.length := by
      have := of_decide_eq_true hc
      dsimp only at this; omega
     have ek := z1 (k + 1)
     have cs := t85r t t.trl (0 + (((k + 1) : Nat) : Int).toNat) (by omega) (cp (0 + (((k + 1) : Nat) : Int).toNat)) (cq (0 + (((k + 1) : Nat) : Int).toNat)) (fun h => hz h _) hn (by omega) (by rw [ek]; exact xW_day hv hk')
     have ex : t.mostF (ofL (t.trl.getD (0 + (((k + 1) : Nat) : Int).toNat) [])) t.n = t.mostF (xW t.trl (k + 1)) t.n := by rw [ek]; rfl
     obtain ⟨q, hq⟩ : ∃ q : Int, t.mostF (xW t.trl (k + 1)) t.n = q := ⟨_, rfl⟩
     rw [ex, hq] at cs
     (repeat' first|exact aq|refine aN ?_ ?_|exact trivial)
     all_goals first | exact dd | skip
     refine drawP E_ok [1] pl27_8 (by kernel_rfl) ?_
     (repeat' first|exact aq|refine aN ?_ ?_|exact trivial)
     all_goals first | exact dd | skip
     refine cs.use [0, 4] ?_ (by (repeat' first|exact fp|refine aN ?_ ?_)) rfl
     (repeat' first|exact aq|refine aN ?_ ?_|exact trivial)
     all_goals first | exact Nat.le_refl _ | decide | exact one1 rfl | exact hc1 | exact hc2 | (show _ * 8 ≤ 140737488355328; omega) | skip
     intro c' q1 q2
     (repeat' first|exact aq|refine aN ?_ ?_|exact trivial)
     all_goals first | exact dd | skip
     refine ⟨((k + 1) + 1, c'), ⟨hk', fun _ => ⟨q1, q2⟩⟩, by simp only; omega, ?_⟩
     refine ent_tau [0, 1, 2, 3, 4, 7] ⟨?_, by (repeat' first|exact tm|refine aN ?_ ?_), rfl⟩
     (repeat' first|exact fp|refine aN ?_ ?_)
     all_goals first | exact row_s0 hq | exact row_s1 hq
    ·have hz : t.trl.length = k + 1 := by
      have := of_decide_eq_false hc
      dsimp only at this
      omega
     have c55 := t55 (k + 1) c (by omega) (by omega) (fun j => t.mostF (xW t.trl j) t.n)
     rw [hz] at es
     rw [← es] at c55
     (repeat' first|exact aq|refine aN ?_ ?_|exact trivial)
     refine c55.use [5] ?_ (by (repeat' first|exact fp|refine aN ?_ ?_)) rfl
     (repeat' first|exact aq|refine aN ?_ ?_|exact trivial)
     exact ent_tau [0] ⟨by (repeat' first|exact fp|refine aN ?_ ?_), by (repeat' first|exact tm|refine aN ?_ ?_), rfl⟩
 ·have e : spT t t.busy = (0, 0, 1) := by unfold spT; rw [if_pos hv]
  rw [e]
  refine callR (E := E) E_ok Try.func27 rfl ?_
  (repeat' first|exact aq|refine aN ?_ ?_|exact trivial)
  refine (t53n hn hv true).use [0] ?_ (by (repeat' first|exact fp|refine aN ?_ ?_)) rfl
  all_goals (repeat' first|exact aq|refine aN ?_ ?_|exact trivial)
  all_goals first | exact dd | skip
  all_goals intro h1
  all_goals first | exact absurd h1 (by decide) | (cases h1; done) | skip
  (repeat' first|exact aq|refine aN ?_ ?_|exact trivial)
  exact ent_tau [0] ⟨by (repeat' first|exact fp|refine aN ?_ ?_), by (repeat' first|exact tm|refine aN ?_ ?_), rfl⟩
end Go.Proofs.Ytioajogaghgipaa
/-
 TicketClash: sets as signed numbers; do some tickets clash.
-/
namespace Go.Proofs.Ytioajogaghgipaa
open Go Go.Sy Tic
set_option linter.unusedSimpArgs false
set_option maxRecDepth 100000
set_option maxHeartbeats 4000000
attribute [local irreducible] CallP CodeP Ent YieldP
set_option maxHeartbeats 16000000

theorem has0 {S n : Nat} (hS : S < 2 ^ 63) : decide (bitOp .and .i64 ((S : Int).fdiv (2 ^ n)) 1 = 0) = !S.testBit n := by
 have e : (S : Int).fdiv (2 ^ n) = ((S / 2 ^ n : Nat) : Int) := by
  rw [Int.fdiv_eq_ediv_of_nonneg _ (by have := Nat.pow_pos (n := n) (show 0 < 2 by omega); exact_mod_cast Nat.zero_le _)]
  norm_cast
 have h1 : S / 2 ^ n < 2 ^ 63 := Nat.lt_of_le_of_lt (Nat.div_le_self _ _) hS
 have e2 := and64 (a := S / 2 ^ n) (b := 1) h1 (by decide)
 rw [e]
 have e3 : bitOp .and .i64 ((S / 2 ^ n : Nat) : Int) 1 = ((S / 2 ^ n &&& 1 : Nat) : Int) := e2
 rw [e3, Nat.and_one_is_mod, Nat.testBit_eq_decide_div_mod_eq]
 by_cases c : S / 2 ^ n % 2 = 1
 ·rw [decide_eq_true c, decide_eq_false (by omega)]
  rfl
 ·rw [decide_eq_false c, decide_eq_true (by omega)]
  rfl
theorem go_bc (t : TK) (b : Bool) (c : Nat) : ∀ (r : Nat) (L : List (Int × Int)), ({ t with b := b, cap := c } : TK).go r L = t.go r L
 | 0, _ => rfl
 | r + 1, L => by
  rw [TK.go, TK.go]
  refine congrArg (fun f => List.flatMap f (t.prs L.length)) (funext fun p => ?_)
  show (match t.fits L p with | true => ({ t with b := b, cap := c } : TK).go r (L ++ [p]) | false => []) = _
  rw [go_bc t b c r]
  cases t.fits L p <;> rfl
theorem valid_bc {t : TK} (b : Bool) (c : Nat) (hv : t.Valid) : ({ t with b := b, cap := c } : TK).Valid := hv
end Go.Proofs.Ytioajogaghgipaa
