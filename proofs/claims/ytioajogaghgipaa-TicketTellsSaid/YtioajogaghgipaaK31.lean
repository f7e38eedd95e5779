/-
  Parts: R9, R10, R11, R12, R13.
-/
import Derived.Test.YtioajogaghgipaaK26
import Derived.Test.YtioajogaghgipaaK30
set_option linter.unusedVariables false
/-
 Contract of the document: Turn.
-/
namespace Go.Proofs.Ytioajogaghgipaa
open Go Go.Sy Tic
set_option linter.unusedSimpArgs false
set_option maxRecDepth 100000
set_option maxHeartbeats 4000000
attribute [local irreducible] CallP CodeP Ent YieldP
set_option maxHeartbeats 16000000
-- fast: YtioajogaghgipaaDd

theorem inI_nat {k : Int} {n : Nat} (h : inI k 0 ((n : Nat) - 1) = true) : ∃ a : Nat, k = (a : Int) ∧ a < n := by
 have := inI_iff.1 h
 exact ⟨k.toNat, by omega, by omega⟩
theorem t17 (t : TK) (hn : t.n ≤ 1000000) (i : Int) : CallP Try.prog 17 [TA t, .int .i64 i] (TH t) (Ret (.tup [.int .i64 (turnT t i).1, .int .i64 (turnT t i).2]) (TH t)) := by
 obtain ⟨B, hB⟩ : ∃ B, inI i 0 ((t.n : Nat) - 1) = B := ⟨_, rfl⟩
 have c54 := t54 t i hn
 rw [hB] at c54
 by_cases hv : t.Valid
 ·cases B with
  | false =>
   have e : turnT t i = (0, 2) := by unfold turnT; rw [if_neg (by simpa using hv), if_pos hB]
   rw [e]
   refine callR (E := E) E_ok Try.func17 rfl ?_
   (repeat' first|exact aq|refine aN ?_ ?_|exact trivial)
   refine drawP E_ok [1] pl17_1 (by kernel_rfl) ?_
   (repeat' first|exact aq|refine aN ?_ ?_|exact trivial)
   refine c54.use [0] ?_ (by (repeat' first|exact fp|refine aN ?_ ?_)) rfl
   (repeat' first|exact aq|refine aN ?_ ?_|exact trivial)
   refine (t53r hv).use [0] ?_ (by (repeat' first|exact fp|refine aN ?_ ?_)) rfl
   all_goals (repeat' first|exact aq|refine aN ?_ ?_|exact trivial)
   all_goals first | exact dd | skip
   all_goals intro h1
   all_goals first | exact absurd h1 (by decide) | (cases h1; done) | skip
   (repeat' first|exact aq|refine aN ?_ ?_|exact trivial)
   exact ent_tau [0] ⟨by (repeat' first|exact fp|refine aN ?_ ?_), by (repeat' first|exact tm|refine aN ?_ ?_), rfl⟩
  | true =>
   obtain ⟨a, rfl, ha⟩ := inI_nat hB
   by_cases hne : t.trl = []
   ·have e : turnT t a = (0, 10) := by unfold turnT; rw [if_neg (by simpa using hv), if_neg (by rw [hB]; decide), if_pos (trl_nil.2 hne)]
    rw [e]
    refine callR (E := E) E_ok Try.func17 rfl ?_
    (repeat' first|exact aq|refine aN ?_ ?_|exact trivial)
    refine drawP E_ok [1] pl17_1 (by kernel_rfl) ?_
    (repeat' first|exact aq|refine aN ?_ ?_|exact trivial)
    refine c54.use [0] ?_ (by (repeat' first|exact fp|refine aN ?_ ?_)) rfl
    (repeat' first|exact aq|refine aN ?_ ?_|exact trivial)
    refine (t53c hv hne).use [0] ?_ (by (repeat' first|exact fp|refine aN ?_ ?_)) rfl
    all_goals (repeat' first|exact aq|refine aN ?_ ?_|exact trivial)
    all_goals first | exact dd | skip
    all_goals intro h1
    all_goals first | exact absurd h1 (by decide) | (cases h1; done) | skip
    (repeat' first|exact aq|refine aN ?_ ?_|exact trivial)
    exact ent_tau [0] ⟨by (repeat' first|exact fp|refine aN ?_ ?_), by (repeat' first|exact tm|refine aN ?_ ?_), rfl⟩
   ·rw [turn_is hv (fun h => hne (trl_nil.1 h)) a ha]
    have hlen := trl_len hv
    refine callR (E := E) E_ok Try.func17 rfl ?_
    (repeat' first|exact aq|refine aN ?_ ?_|exact trivial)
    refine drawP E_ok [1] pl17_1 (by kernel_rfl) ?_
    (repeat' first|exact aq|refine aN ?_ ?_|exact trivial)
    refine c54.use [0] ?_ (by (repeat' first|exact fp|refine aN ?_ ?_)) rfl
    (repeat' first|exact aq|refine aN ?_ ?_|exact trivial)
    refine CallP.frameH (t53o hv hlen hne) [0] (by (repeat' first|exact fp|refine aN ?_ ?_)) rfl ?_
    rintro ce h' ⟨cO, cp, cq, hz, hcO, rfl, rfl⟩
    refine ⟨rfl, ?_⟩
    all_goals (repeat' first|exact aq|refine aN ?_ ?_|exact trivial)
    all_goals first | exact dd | skip
    all_goals intro h1
    all_goals first | exact absurd h1 (by decide) | (cases h1; done) | skip
    (repeat' first|exact aq|refine aN ?_ ?_|exact trivial)
    obtain ⟨W, hW⟩ : ∃ W, t.trl = W := ⟨_, rfl⟩
    refine loopP E_ok [1, 6] (fun k : Nat => [(8, .int .i64 (cntN (fun j => inTurn t.n (xW t.trl j) a) k : Nat)), (9, .int .i64 k)]) (fun _ _ => [some (.roa 5 t.n (TF t)), some (.cells (tb t)), some (.roa 2 t.trl.length (rwsT 3 t.n cp cq)), some (.pool false (2 * t.trl.length) (fun _ => t.n) (pgT t.trl))]) (fun k => k ≤ t.trl.length) (fun k => t.trl.length - k) 0 (Nat.zero_le _) ?_ ?_
    ·exact ent_tau [0, 1, 2, 3] ⟨by (repeat' first|exact fp|refine aN ?_ ?_), by (repeat' first|exact tm|refine aN ?_ ?_), rfl⟩
    rintro k hk
    refine And.intro ?_ (And.intro (fun hc => ?_) (fun hc => ?_))
    ·(repeat' first|exact aq|refine aN ?_ ?_|exact trivial)
    ·have hk' : k < t.trl.length := by
      have := of_decide_eq_true hc
      omega
     have ek := z1 k
     have c59 := t59r t t.trl (0 + ((k : Nat) : Int).toNat) (by omega) (cp (0 + ((k : Nat) : Int).toNat)) (cq (0 + ((k : Nat) : Int).toNat)) (fun h => hz h _) hn a ha
     have ex : inTurn t.n (ofL (t.trl.getD (0 + ((k : Nat) : Int).toNat) [])) a = inTurn t.n (xW t.trl k) a := by rw [ek]; rfl
     obtain ⟨q, hq⟩ : ∃ q, inTurn t.n (xW t.trl k) a = q := ⟨_, rfl⟩
     have hcl := cntN_le (fun j => inTurn t.n (xW t.trl j) a) k
     rw [ex, hq] at c59
     cases q with
     | true =>
      (repeat' first|exact aq|refine aN ?_ ?_|exact trivial)
      all_goals first | exact dd | skip
      refine c59.use [0, 3] ?_ (by (repeat' first|exact fp|refine aN ?_ ?_)) rfl
      all_goals (repeat' first|exact aq|refine aN ?_ ?_|exact trivial)
      all_goals first | exact dd | skip
      all_goals intro h2
      all_goals first | exact absurd h2 (by decide) | (cases h2; done) | skip
      (repeat' first|exact aq|refine aN ?_ ?_|exact trivial)
      all_goals first | exact dd | skip
      refine ⟨k + 1, hk', by omega, ?_⟩
      refine ent_tau [0, 1, 2, 3] ⟨by (repeat' first|exact fp|refine aN ?_ ?_), ?_, rfl⟩
      (repeat' first|exact tm|refine aN ?_ ?_)
      exact congrArg (SV.int .i64) (by rw [cntN, hq]; rfl)
     | false =>
      (repeat' first|exact aq|refine aN ?_ ?_|exact trivial)
      all_goals first | exact dd | skip
      refine c59.use [0, 3] ?_ (by (repeat' first|exact fp|refine aN ?_ ?_)) rfl
      all_goals (repeat' first|exact aq|refine aN ?_ ?_|exact trivial)
      all_goals first | exact dd | skip
      all_goals intro h2
      all_goals first | exact absurd h2 (by decide) | (cases h2; done) | skip
      (repeat' first|exact aq|refine aN ?_ ?_|exact trivial)
      all_goals first | exact dd | skip
      refine ⟨k + 1, hk', by omega, ?_⟩
      refine ent_tau [0, 1, 2, 3] ⟨by (repeat' first|exact fp|refine aN ?_ ?_), ?_, rfl⟩
      (repeat' first|exact tm|refine aN ?_ ?_)
      exact congrArg (SV.int .i64) (by rw [cntN, hq]; rfl)
    ·obtain rfl : k = t.trl.length := by
      have := of_decide_eq_false hc
      omega
     have c60 := t60 (cntN (fun j => inTurn t.n (xW t.trl j) a) t.trl.length) t.trl.length
     rw [grade_xW hne (q := fun x => inTurn t.n x a)] at c60
     (repeat' first|exact aq|refine aN ?_ ?_|exact trivial)
     all_goals first | exact dd | skip
     refine c60.use [] ?_ (by (repeat' first|exact fp|refine aN ?_ ?_)) rfl
     (repeat' first|exact aq|refine aN ?_ ?_|exact trivial)
     exact ent_tau [0] ⟨by (repeat' first|exact fp|refine aN ?_ ?_), by (repeat' first|exact tm|refine aN ?_ ?_), rfl⟩
 ·have e : turnT t i = (0, 1) := by unfold turnT; rw [if_pos hv]
  rw [e]
  refine callR (E := E) E_ok Try.func17 rfl ?_
  (repeat' first|exact aq|refine aN ?_ ?_|exact trivial)
  refine drawP E_ok [1] pl17_1 (by kernel_rfl) ?_
  (repeat' first|exact aq|refine aN ?_ ?_|exact trivial)
  refine c54.use [0] ?_ (by (repeat' first|exact fp|refine aN ?_ ?_)) rfl
  (repeat' first|exact aq|refine aN ?_ ?_|exact trivial)
  refine (t53n hn hv B).use [0] ?_ (by (repeat' first|exact fp|refine aN ?_ ?_)) rfl
  all_goals (repeat' first|exact aq|refine aN ?_ ?_|exact trivial)
  all_goals first | exact dd | skip
  all_goals intro h1
  all_goals first | exact absurd h1 (by decide) | (cases h1; done) | skip
  (repeat' first|exact aq|refine aN ?_ ?_|exact trivial)
  exact ent_tau [0] ⟨by (repeat' first|exact fp|refine aN ?_ ?_), by (repeat' first|exact tm|refine aN ?_ ?_), rfl⟩
end Go.Proofs.Ytioajogaghgipaa
/-
 Contract of the document: Passed.
-/
namespace Go.Proofs.Ytioajogaghgipaa
open Go Go.Sy Tic
set_option linter.unusedSimpArgs false
set_option maxRecDepth 100000
set_option maxHeartbeats 4000000
attribute [local irreducible] CallP CodeP Ent YieldP
set_option maxHeartbeats 16000000
-- fast: YtioajogaghgipaaDd

def pS (t : TK) (a b : Nat) : Bool := decide (cntN (fun j => over (xW t.trl j) a b) t.trl.length = t.trl.length)
def pP (t : TK) (a b : Nat) : Bool := decide (0 < cntN (fun j => over (xW t.trl j) a b) t.trl.length)
theorem t19 (t : TK) (hn : t.n ≤ 1000000) (i : Int) : CallP Try.prog 19 [TA t, .int .i64 i] (TH t) (Ret (.tup [.int .i64 (pasT t i).1, .int .i64 (pasT t i).2.1, .int .i64 (pasT t i).2.2]) (TH t)) := by
 obtain ⟨B, hB⟩ : ∃ B, inI i 0 ((t.n : Nat) - 1) = B := ⟨_, rfl⟩
 have c54 := t54 t i hn
 rw [hB] at c54
 by_cases hv : t.Valid
 ·cases B with
  | false =>
   have e : pasT t i = (0, 0, 2) := by unfold pasT; rw [if_neg (by simpa using hv), if_pos hB]
   rw [e]
   refine callR (E := E) E_ok Try.func19 rfl ?_
   (repeat' first|exact aq|refine aN ?_ ?_|exact trivial)
   refine drawP E_ok [1] pl19_1 (by kernel_rfl) ?_
   (repeat' first|exact aq|refine aN ?_ ?_|exact trivial)
   refine c54.use [0] ?_ (by (repeat' first|exact fp|refine aN ?_ ?_)) rfl
   (repeat' first|exact aq|refine aN ?_ ?_|exact trivial)
   refine (t53r hv).use [0] ?_ (by (repeat' first|exact fp|refine aN ?_ ?_)) rfl
   all_goals (repeat' first|exact aq|refine aN ?_ ?_|exact trivial)
   all_goals first | exact dd | skip
   all_goals intro h1
   all_goals first | exact absurd h1 (by decide) | (cases h1; done) | skip
   (repeat' first|exact aq|refine aN ?_ ?_|exact trivial)
   exact ent_tau [0] ⟨by (repeat' first|exact fp|refine aN ?_ ?_), by (repeat' first|exact tm|refine aN ?_ ?_), rfl⟩
  | true =>
   obtain ⟨a, rfl, ha⟩ := inI_nat hB
   have hn5 := hv.2.1
   by_cases hne : t.trl = []
   ·have e : pasT t a = (0, 0, 10) := by unfold pasT; rw [if_neg (by simpa using hv), if_neg (by rw [hB]; decide), if_pos (trl_nil.2 hne)]
    rw [e]
    refine callR (E := E) E_ok Try.func19 rfl ?_
    (repeat' first|exact aq|refine aN ?_ ?_|exact trivial)
    refine drawP E_ok [1] pl19_1 (by kernel_rfl) ?_
    (repeat' first|exact aq|refine aN ?_ ?_|exact trivial)
    refine c54.use [0] ?_ (by (repeat' first|exact fp|refine aN ?_ ?_)) rfl
    (repeat' first|exact aq|refine aN ?_ ?_|exact trivial)
    refine (t53c hv hne).use [0] ?_ (by (repeat' first|exact fp|refine aN ?_ ?_)) rfl
    all_goals (repeat' first|exact aq|refine aN ?_ ?_|exact trivial)
    all_goals first | exact dd | skip
    all_goals intro h1
    all_goals first | exact absurd h1 (by decide) | (cases h1; done) | skip
    (repeat' first|exact aq|refine aN ?_ ?_|exact trivial)
    exact ent_tau [0] ⟨by (repeat' first|exact fp|refine aN ?_ ?_), by (repeat' first|exact tm|refine aN ?_ ?_), rfl⟩
   ·rw [pas_is hv (fun h => hne (trl_nil.1 h)) a ha]
    have hlen := trl_len hv
    have hpos := List.length_pos_iff.2 hne
    refine callR (E := E) E_ok Try.func19 rfl ?_
    (repeat' first|exact aq|refine aN ?_ ?_|exact trivial)
    refine drawP E_ok [1] pl19_1 (by kernel_rfl) ?_
    (repeat' first|exact aq|refine aN ?_ ?_|exact trivial)
    refine c54.use [0] ?_ (by (repeat' first|exact fp|refine aN ?_ ?_)) rfl
    (repeat' first|exact aq|refine aN ?_ ?_|exact trivial)
    refine CallP.frameH (t53o hv hlen hne) [0] (by (repeat' first|exact fp|refine aN ?_ ?_)) rfl ?_
    rintro ce h' ⟨cO, cp, cq, hz, hcO, rfl, rfl⟩
    refine ⟨rfl, ?_⟩
    all_goals (repeat' first|exact aq|refine aN ?_ ?_|exact trivial)
    all_goals first | exact dd | skip
    all_goals intro h1
    all_goals first | exact absurd h1 (by decide) | (cases h1; done) | skip
    (repeat' first|exact aq|refine aN ?_ ?_|exact trivial)
    refine loopP E_ok [1, 2, 7] (fun b : Nat => [(9, .int .i64 (maskN (pS t a) b : Nat)), (10, .int .i64 (maskN (pP t a) b : Nat)), (11, .int .i64 b)]) (fun _ _ => [some (.roa 5 t.n (TF t)), some (.cells (tb t)), some (.roa 2 t.trl.length (rwsT 3 t.n cp cq)), some (.pool false (2 * t.trl.length) (fun _ => t.n) (pgT t.trl))]) (fun b => b ≤ t.n) (fun b => t.n - b) 0 (Nat.zero_le _) ?_ ?_
    ·exact ent_tau [0, 1, 2, 3] ⟨by (repeat' first|exact fp|refine aN ?_ ?_), by (repeat' first|exact tm|refine aN ?_ ?_), rfl⟩
    rintro b hb
    have m1 := maskN_lt (pS t a) b
    have m2 := maskN_lt (pP t a) b
    refine And.intro ?_ (And.intro (fun hcb => ?_) (fun hcb => ?_))
    ·(repeat' first|exact aq|refine aN ?_ ?_|exact trivial)
    ·have hb' : b < t.n := by
      have := of_decide_eq_true hcb
      omega
     have pw : 2 ^ b ≤ 2 ^ 5 := Nat.pow_le_pow_right (by decide) (by omega)
     have c64 := t64 b (by omega)
     obtain ⟨Q, hQ⟩ : ∃ Q : Nat, 2 ^ b = Q := ⟨_, rfl⟩
     rw [hQ] at c64 m1 m2 pw
     (repeat' first|exact aq|refine aN ?_ ?_|exact trivial)
     all_goals first | exact dd | skip
     refine loopP E_ok [1, 2, 7, 9, 10, 11] (fun k : Nat => [(12, .int .i64 (cntN (fun j => over (xW t.trl j) a b) k : Nat)), (13, .int .i64 k)]) (fun _ _ => [some (.roa 5 t.n (TF t)), some (.cells (tb t)), some (.roa 2 t.trl.length (rwsT 3 t.n cp cq)), some (.pool false (2 * t.trl.length) (fun _ => t.n) (pgT t.trl))]) (fun k => k ≤ t.trl.length) (fun k => t.trl.length - k) 0 (Nat.zero_le _) ?_ ?_
     ·exact ent_tau [0, 1, 2, 3] ⟨by (repeat' first|exact fp|refine aN ?_ ?_), by (repeat' first|exact tm|refine aN ?_ ?_), rfl⟩
     rintro k hk
     have hcl := cntN_le (fun j => over (xW t.trl j) a b) k
     refine And.intro ?_ (And.intro (fun hc => ?_) (fun hc => ?_))
     ·(repeat' first|exact aq|refine aN ?_ ?_|exact trivial)
     ·have hk' : k < t.trl.length := by
       have := of_decide_eq_true hc
       omega
      have ek := z1 k
      have c63 := t63r t t.trl (0 + ((k : Nat) : Int).toNat) (by omega) (cp (0 + ((k : Nat) : Int).toNat)) (cq (0 + ((k : Nat) : Int).toNat)) (fun h => hz h _) a b ha hb'
      have ex : over (ofL (t.trl.getD (0 + ((k : Nat) : Int).toNat) [])) a b = over (xW t.trl k) a b := by rw [ek]; rfl
      obtain ⟨q, hq⟩ : ∃ q, over (xW t.trl k) a b = q := ⟨_, rfl⟩
      rw [ex, hq] at c63
      cases q with
      | true | false =>
       (repeat' first|exact aq|refine aN ?_ ?_|exact trivial)
       all_goals first | exact dd | skip
       refine c63.use [0, 3] ?_ (by (repeat' first|exact fp|refine aN ?_ ?_)) rfl
       all_goals (repeat' first|exact aq|refine aN ?_ ?_|exact trivial)
       all_goals first | exact dd | skip
       all_goals intro h2
       all_goals first | exact absurd h2 (by decide) | (cases h2; done) | skip
       (repeat' first|exact aq|refine aN ?_ ?_|exact trivial)
       all_goals first | exact dd | skip
       refine ⟨k + 1, hk', by omega, ?_⟩
       refine ent_tau [0, 1, 2, 3] ⟨by (repeat' first|exact fp|refine aN ?_ ?_), ?_, rfl⟩
       (repeat' first|exact tm|refine aN ?_ ?_)
       exact congrArg (SV.int .i64) (by rw [cntN, hq]; rfl)
     ·obtain rfl : k = t.trl.length := by
       have := of_decide_eq_false hc
       omega
      by_cases e1 : cntN (fun j => over (xW t.trl j) a b) t.trl.length = t.trl.length
      ·have d1 : decide (((cntN (fun j => over (xW t.trl j) a b) t.trl.length : Nat) : Int) = ((t.trl.length : Nat) : Int)) = true := decide_eq_true (by omega)
       have d2 : decide (((cntN (fun j => over (xW t.trl j) a b) t.trl.length : Nat) : Int) > 0) = true := decide_eq_true (by omega)
       have p1 : pS t a b = true := decide_eq_true e1
       have p2 : pP t a b = true := decide_eq_true (by omega)
       all_goals (repeat' first|exact aq|refine aN ?_ ?_|exact trivial)
       all_goals first | exact dd | skip
       all_goals intro h3
       all_goals first | (exfalso; (try rw [d1] at h3); exact Bool.noConfusion (show true = false from h3)) | (exfalso; (try rw [d1] at h3); exact Bool.noConfusion (show false = true from h3)) | skip
       (repeat' first|exact aq|refine aN ?_ ?_|exact trivial)
       refine c64.use [] ?_ (by (repeat' first|exact fp|refine aN ?_ ?_)) rfl
       (repeat' first|exact aq|refine aN ?_ ?_|exact trivial)
       all_goals first | exact dd | skip
       all_goals (repeat' first|exact aq|refine aN ?_ ?_|exact trivial)
       all_goals first | exact dd | skip
       all_goals intro h4
       all_goals first | (exfalso; (try rw [d2] at h4); exact Bool.noConfusion (show true = false from h4)) | (exfalso; (try rw [d2] at h4); exact Bool.noConfusion (show false = true from h4)) | skip
       (repeat' first|exact aq|refine aN ?_ ?_|exact trivial)
       refine c64.use [] ?_ (by (repeat' first|exact fp|refine aN ?_ ?_)) rfl
       (repeat' first|exact aq|refine aN ?_ ?_|exact trivial)
       all_goals first | exact dd | skip
       refine ⟨b + 1, hb', by omega, ?_⟩
       refine ent_tau [0, 1, 2, 3] ⟨by (repeat' first|exact fp|refine aN ?_ ?_), ?_, rfl⟩
       (repeat' first|exact tm|refine aN ?_ ?_)
       ·exact congrArg (SV.int .i64) (by rw [maskN, p1, ← hQ]; exact (Int.natCast_add _ _).symm)
       ·exact congrArg (SV.int .i64) (by rw [maskN, p2, ← hQ]; exact (Int.natCast_add _ _).symm)
      ·have d1 : decide (((cntN (fun j => over (xW t.trl j) a b) t.trl.length : Nat) : Int) = ((t.trl.length : Nat) : Int)) = false := decide_eq_false (by omega)
       have p1 : pS t a b = false := decide_eq_false e1
       by_cases e2 : 0 < cntN (fun j => over (xW t.trl j) a b) t.trl.length
       ·have d2 : decide (((cntN (fun j => over (xW t.trl j) a b) t.trl.length : Nat) : Int) > 0) = true := decide_eq_true (by omega)
        have p2 : pP t a b = true := decide_eq_true e2
        all_goals (repeat' first|exact aq|refine aN ?_ ?_|exact trivial)
        all_goals first | exact dd | skip
        all_goals intro h3
        all_goals first | (exfalso; (try rw [d1] at h3); exact Bool.noConfusion (show true = false from h3)) | (exfalso; (try rw [d1] at h3); exact Bool.noConfusion (show false = true from h3)) | skip
        all_goals (repeat' first|exact aq|refine aN ?_ ?_|exact trivial)
        all_goals first | exact dd | skip
        all_goals intro h4
        all_goals first | (exfalso; (try rw [d2] at h4); exact Bool.noConfusion (show true = false from h4)) | (exfalso; (try rw [d2] at h4); exact Bool.noConfusion (show false = true from h4)) | skip
        (repeat' first|exact aq|refine aN ?_ ?_|exact trivial)
        refine c64.use [] ?_ (by (repeat' first|exact fp|refine aN ?_ ?_)) rfl
        (repeat' first|exact aq|refine aN ?_ ?_|exact trivial)
        all_goals first | exact dd | skip
        refine ⟨b + 1, hb', by omega, ?_⟩
        refine ent_tau [0, 1, 2, 3] ⟨by (repeat' first|exact fp|refine aN ?_ ?_), ?_, rfl⟩
        (repeat' first|exact tm|refine aN ?_ ?_)
        ·exact congrArg (SV.int .i64) (by rw [maskN, p1]; rfl)
        ·exact congrArg (SV.int .i64) (by rw [maskN, p2, ← hQ]; exact (Int.natCast_add _ _).symm)
       ·have d2 : decide (((cntN (fun j => over (xW t.trl j) a b) t.trl.length : Nat) : Int) > 0) = false := decide_eq_false (by omega)
        have p2 : pP t a b = false := decide_eq_false e2
        all_goals (repeat' first|exact aq|refine aN ?_ ?_|exact trivial)
        all_goals first | exact dd | skip
        all_goals intro h3
        all_goals first | (exfalso; (try rw [d1] at h3); exact Bool.noConfusion (show true = false from h3)) | (exfalso; (try rw [d1] at h3); exact Bool.noConfusion (show false = true from h3)) | skip
        all_goals (repeat' first|exact aq|refine aN ?_ ?_|exact trivial)
        all_goals first | exact dd | skip
        all_goals intro h4
        all_goals first | (exfalso; (try rw [d2] at h4); exact Bool.noConfusion (show true = false from h4)) | (exfalso; (try rw [d2] at h4); exact Bool.noConfusion (show false = true from h4)) | skip
        (repeat' first|exact aq|refine aN ?_ ?_|exact trivial)
        all_goals first | exact dd | skip
        refine ⟨b + 1, hb', by omega, ?_⟩
        refine ent_tau [0, 1, 2, 3] ⟨by (repeat' first|exact fp|refine aN ?_ ?_), ?_, rfl⟩
        (repeat' first|exact tm|refine aN ?_ ?_)
        ·exact congrArg (SV.int .i64) (by rw [maskN, p1]; rfl)
        ·exact congrArg (SV.int .i64) (by rw [maskN, p2]; rfl)
    ·obtain rfl : b = t.n := by
      have := of_decide_eq_false hcb
      omega
     have s1 : maskN (pS t a) t.n = t.surely a := maskN_congr fun o _ => (all_xW (W := t.trl) (q := fun x => over x a o)).symm
     have s2 : maskN (pP t a) t.n = t.perhaps a := maskN_congr fun o _ => (any_xW (W := t.trl) (q := fun x => over x a o)).symm
     (repeat' first|exact aq|refine aN ?_ ?_|exact trivial)
     rw [← s1, ← s2]
     exact ent_tau [0] ⟨by (repeat' first|exact fp|refine aN ?_ ?_), by (repeat' first|exact tm|refine aN ?_ ?_), rfl⟩
 ·have e : pasT t i = (0, 0, 1) := by unfold pasT; rw [if_pos hv]
  rw [e]
  refine callR (E := E) E_ok Try.func19 rfl ?_
  (repeat' first|exact aq|refine aN ?_ ?_|exact trivial)
  refine drawP E_ok [1] pl19_1 (by kernel_rfl) ?_
  (repeat' first|exact aq|refine aN ?_ ?_|exact trivial)
  refine c54.use [0] ?_ (by (repeat' first|exact fp|refine aN ?_ ?_)) rfl
  (repeat' first|exact aq|refine aN ?_ ?_|exact trivial)
  refine (t53n hn hv B).use [0] ?_ (by (repeat' first|exact fp|refine aN ?_ ?_)) rfl
  all_goals (repeat' first|exact aq|refine aN ?_ ?_|exact trivial)
  all_goals first | exact dd | skip
  all_goals intro h1
  all_goals first | exact absurd h1 (by decide) | (cases h1; done) | skip
  (repeat' first|exact aq|refine aN ?_ ?_|exact trivial)
  exact ent_tau [0] ⟨by (repeat' first|exact fp|refine aN ?_ ?_), by (repeat' first|exact tm|refine aN ?_ ?_), rfl⟩
end Go.Proofs.Ytioajogaghgipaa
/-
 Contract of the document: Whose.
-/
namespace Go.Proofs.Ytioajogaghgipaa
open Go Go.Sy Tic
set_option linter.unusedSimpArgs false
set_option maxRecDepth 100000
set_option maxHeartbeats 4000000
attribute [local irreducible] CallP CodeP Ent YieldP
set_option maxHeartbeats 16000000
-- fast: YtioajogaghgipaaDd

theorem t21 (t : TK) (hn : t.n ≤ 1000000) (m : Int) : CallP Try.prog 21 [TA t, .int .i64 m] (TH t) (Ret (.tup [.int .i64 (whoT t m).1, .bool (whoT t m).2.1, .int .i64 (whoT t m).2.2]) (TH t)) := by
 obtain ⟨B, hB⟩ : ∃ B, inI m 0 240 = B := ⟨_, rfl⟩
 have c71 := t71 m
 rw [hB] at c71
 by_cases hv : t.Valid
 ·cases B with
  | false =>
   have e : whoT t m = (0, false, 2) := by unfold whoT; rw [if_neg (by simpa using hv), if_pos hB]
   rw [e]
   refine callR (E := E) E_ok Try.func21 rfl ?_
   (repeat' first|exact aq|refine aN ?_ ?_|exact trivial)
   refine drawP E_ok [1] pl21_1 (by kernel_rfl) ?_
   (repeat' first|exact aq|refine aN ?_ ?_|exact trivial)
   refine c71.use [] ?_ (by (repeat' first|exact fp|refine aN ?_ ?_)) rfl
   (repeat' first|exact aq|refine aN ?_ ?_|exact trivial)
   refine (t53r hv).use [0] ?_ (by (repeat' first|exact fp|refine aN ?_ ?_)) rfl
   all_goals (repeat' first|exact aq|refine aN ?_ ?_|exact trivial)
   all_goals first | exact dd | skip
   all_goals intro h1
   all_goals first | exact absurd h1 (by decide) | (cases h1; done) | skip
   (repeat' first|exact aq|refine aN ?_ ?_|exact trivial)
   exact ent_tau [0] ⟨by (repeat' first|exact fp|refine aN ?_ ?_), by (repeat' first|exact tm|refine aN ?_ ?_), rfl⟩
  | true =>
   have hn5 := hv.2.1
   have hm := inI_iff.1 hB
   by_cases hne : t.trl = []
   ·have e : whoT t m = (0, false, 10) := by unfold whoT; rw [if_neg (by simpa using hv), if_neg (by rw [hB]; decide), if_pos (trl_nil.2 hne)]
    rw [e]
    refine callR (E := E) E_ok Try.func21 rfl ?_
    (repeat' first|exact aq|refine aN ?_ ?_|exact trivial)
    refine drawP E_ok [1] pl21_1 (by kernel_rfl) ?_
    (repeat' first|exact aq|refine aN ?_ ?_|exact trivial)
    refine c71.use [] ?_ (by (repeat' first|exact fp|refine aN ?_ ?_)) rfl
    (repeat' first|exact aq|refine aN ?_ ?_|exact trivial)
    refine (t53c hv hne).use [0] ?_ (by (repeat' first|exact fp|refine aN ?_ ?_)) rfl
    all_goals (repeat' first|exact aq|refine aN ?_ ?_|exact trivial)
    all_goals first | exact dd | skip
    all_goals intro h1
    all_goals first | exact absurd h1 (by decide) | (cases h1; done) | skip
    (repeat' first|exact aq|refine aN ?_ ?_|exact trivial)
    exact ent_tau [0] ⟨by (repeat' first|exact fp|refine aN ?_ ?_), by (repeat' first|exact tm|refine aN ?_ ?_), rfl⟩
   ·rw [who_is hv (fun h => hne (trl_nil.1 h)) m hm]
    have hlen := trl_len hv
    refine callR (E := E) E_ok Try.func21 rfl ?_
    (repeat' first|exact aq|refine aN ?_ ?_|exact trivial)
    refine drawP E_ok [1] pl21_1 (by kernel_rfl) ?_
    (repeat' first|exact aq|refine aN ?_ ?_|exact trivial)
    refine c71.use [] ?_ (by (repeat' first|exact fp|refine aN ?_ ?_)) rfl
    (repeat' first|exact aq|refine aN ?_ ?_|exact trivial)
    refine CallP.frameH (t53o hv hlen hne) [0] (by (repeat' first|exact fp|refine aN ?_ ?_)) rfl ?_
    rintro ce h' ⟨cO, cp, cq, hz, hcO, rfl, rfl⟩
    refine ⟨rfl, ?_⟩
    all_goals (repeat' first|exact aq|refine aN ?_ ?_|exact trivial)
    all_goals first | exact dd | skip
    all_goals intro h1
    all_goals first | exact absurd h1 (by decide) | (cases h1; done) | skip
    (repeat' first|exact aq|refine aN ?_ ?_|exact trivial)
    refine loopP E_ok [1, 7] (fun k : Nat => [(9, .int .i64 (whoS t.trl m t.n k : Nat)), (10, .bool (nobS t.trl m t.n k)), (11, .int .i64 k)]) (fun _ _ => [some (.roa 5 t.n (TF t)), some (.cells (tb t)), some (.roa 2 t.trl.length (rwsT 3 t.n cp cq)), some (.pool false (2 * t.trl.length) (fun _ => t.n) (pgT t.trl))]) (fun k => k ≤ t.trl.length) (fun k => t.trl.length - k) 0 (Nat.zero_le _) ?_ ?_
    ·exact ent_tau [0, 1, 2, 3] ⟨by (repeat' first|exact fp|refine aN ?_ ?_), by (repeat' first|exact tm|refine aN ?_ ?_), rfl⟩
    rintro k hk
    have hS := whoS_lt t.trl m t.n k
    have pn : 2 ^ t.n ≤ 2 ^ 5 := Nat.pow_le_pow_right (by decide) hn5
    refine And.intro ?_ (And.intro (fun hc => ?_) (fun hc => ?_))
    ·(repeat' first|exact aq|refine aN ?_ ?_|exact trivial)
    ·have hk' : k < t.trl.length := by
      have := of_decide_eq_true hc
      omega
     have ek := z1 k
     have c72 := t72r t t.trl (0 + ((k : Nat) : Int).toNat) (by omega) (cp (0 + ((k : Nat) : Int).toNat)) (cq (0 + ((k : Nat) : Int).toNat)) (fun h => hz h _) hn m
     have ex : now (ofL (t.trl.getD (0 + ((k : Nat) : Int).toNat) [])) m t.n = now (xW t.trl k) m t.n := by rw [ek]; rfl
     have rg := now_rng (xW t.trl k) m t.n
     have w1 : whoS t.trl m t.n (k + 1) = if now (xW t.trl k) m t.n < 0 then whoS t.trl m t.n k else if (whoS t.trl m t.n k).testBit (now (xW t.trl k) m t.n).toNat then whoS t.trl m t.n k else whoS t.trl m t.n k + 2 ^ (now (xW t.trl k) m t.n).toNat := rfl
     have w2 : nobS t.trl m t.n (k + 1) = if now (xW t.trl k) m t.n < 0 then true else nobS t.trl m t.n k := rfl
     obtain ⟨w, hw⟩ : ∃ w, now (xW t.trl k) m t.n = w := ⟨_, rfl⟩
     rw [ex, hw] at c72
     rw [hw] at rg w1 w2
     by_cases hw0 : w < 0
     ·have d1 : decide (w < 0) = true := decide_eq_true hw0
      rw [if_pos hw0] at w1 w2
      (repeat' first|exact aq|refine aN ?_ ?_|exact trivial)
      all_goals first | exact dd | skip
      refine c72.use [0, 3] ?_ (by (repeat' first|exact fp|refine aN ?_ ?_)) rfl
      all_goals (repeat' first|exact aq|refine aN ?_ ?_|exact trivial)
      all_goals first | exact dd | skip
      all_goals intro h2
      all_goals first | (exfalso; (try rw [d1] at h2); exact Bool.noConfusion (show true = false from h2)) | (exfalso; (try rw [d1] at h2); exact Bool.noConfusion (show false = true from h2)) | skip
      (repeat' first|exact aq|refine aN ?_ ?_|exact trivial)
      all_goals first | exact dd | skip
      refine ⟨k + 1, hk', by omega, ?_⟩
      refine ent_tau [0, 1, 2, 3] ⟨by (repeat' first|exact fp|refine aN ?_ ?_), ?_, rfl⟩
      (repeat' first|exact tm|refine aN ?_ ?_)
      ·exact congrArg (fun z : Nat => SV.int .i64 z) w1.symm
      ·exact congrArg SV.bool w2.symm
     ·obtain ⟨c, rfl⟩ : ∃ c : Nat, w = (c : Int) := ⟨w.toNat, by omega⟩
      have d1 : decide (((c : Nat) : Int) < 0) = false := decide_eq_false hw0
      rw [if_neg hw0, Int.toNat_natCast] at w1
      rw [if_neg hw0] at w2
      obtain ⟨S, hSS⟩ : ∃ S, whoS t.trl m t.n k = S := ⟨_, rfl⟩
      have c73 := t73 (whoS t.trl m t.n k) c (by omega) (by omega)
      have c64 := t64 c (by omega)
      have pc : 2 ^ c ≤ 2 ^ 5 := Nat.pow_le_pow_right (by decide) (by omega)
      obtain ⟨Q, hQ⟩ : ∃ Q : Nat, 2 ^ c = Q := ⟨_, rfl⟩
      rw [hQ] at c64 pc w1
      obtain ⟨q, hq⟩ : ∃ q, (whoS t.trl m t.n k).testBit c = q := ⟨_, rfl⟩
      rw [hq] at c73 w1
      cases q with
      | true =>
       (repeat' first|exact aq|refine aN ?_ ?_|exact trivial)
       all_goals first | exact dd | skip
       refine c72.use [0, 3] ?_ (by (repeat' first|exact fp|refine aN ?_ ?_)) rfl
       all_goals (repeat' first|exact aq|refine aN ?_ ?_|exact trivial)
       all_goals first | exact dd | skip
       all_goals intro h2
       all_goals first | (exfalso; (try rw [d1] at h2); exact Bool.noConfusion (show true = false from h2)) | (exfalso; (try rw [d1] at h2); exact Bool.noConfusion (show false = true from h2)) | skip
       (repeat' first|exact aq|refine aN ?_ ?_|exact trivial)
       refine c73.use [] ?_ (by (repeat' first|exact fp|refine aN ?_ ?_)) rfl
       all_goals (repeat' first|exact aq|refine aN ?_ ?_|exact trivial)
       all_goals first | exact dd | skip
       all_goals intro h3
       all_goals first | exact absurd h3 (by decide) | (cases h3; done) | skip
       (repeat' first|exact aq|refine aN ?_ ?_|exact trivial)
       all_goals first | exact dd | skip
       refine ⟨k + 1, hk', by omega, ?_⟩
       refine ent_tau [0, 1, 2, 3] ⟨by (repeat' first|exact fp|refine aN ?_ ?_), ?_, rfl⟩
       (repeat' first|exact tm|refine aN ?_ ?_)
       ·exact congrArg (fun z : Nat => SV.int .i64 z) w1.symm
       ·exact congrArg SV.bool w2.symm
      | false =>
       (repeat' first|exact aq|refine aN ?_ ?_|exact trivial)
       all_goals first | exact dd | skip
       refine c72.use [0, 3] ?_ (by (repeat' first|exact fp|refine aN ?_ ?_)) rfl
       all_goals (repeat' first|exact aq|refine aN ?_ ?_|exact trivial)
       all_goals first | exact dd | skip
       all_goals intro h2
       all_goals first | (exfalso; (try rw [d1] at h2); exact Bool.noConfusion (show true = false from h2)) | (exfalso; (try rw [d1] at h2); exact Bool.noConfusion (show false = true from h2)) | skip
       (repeat' first|exact aq|refine aN ?_ ?_|exact trivial)
       refine c73.use [] ?_ (by (repeat' first|exact fp|refine aN ?_ ?_)) rfl
       all_goals (repeat' first|exact aq|refine aN ?_ ?_|exact trivial)
       all_goals first | exact dd | skip
       all_goals intro h3
       all_goals first | exact absurd h3 (by decide) | (cases h3; done) | skip
       (repeat' first|exact aq|refine aN ?_ ?_|exact trivial)
       refine c64.use [] ?_ (by (repeat' first|exact fp|refine aN ?_ ?_)) rfl
       (repeat' first|exact aq|refine aN ?_ ?_|exact trivial)
       all_goals first | exact dd | skip
       refine ⟨k + 1, hk', by omega, ?_⟩
       refine ent_tau [0, 1, 2, 3] ⟨by (repeat' first|exact fp|refine aN ?_ ?_), ?_, rfl⟩
       (repeat' first|exact tm|refine aN ?_ ?_)
       ·exact congrArg (SV.int .i64) (by rw [w1]; exact (Int.natCast_add _ _).symm)
       ·exact congrArg SV.bool w2.symm
    ·obtain rfl : k = t.trl.length := by
      have := of_decide_eq_false hc
      omega
     (repeat' first|exact aq|refine aN ?_ ?_|exact trivial)
     rw [← whoS_is, ← nobS_is]
     exact ent_tau [0] ⟨by (repeat' first|exact fp|refine aN ?_ ?_), by (repeat' first|exact tm|refine aN ?_ ?_), rfl⟩
 ·have e : whoT t m = (0, false, 1) := by unfold whoT; rw [if_pos hv]
  rw [e]
  refine callR (E := E) E_ok Try.func21 rfl ?_
  (repeat' first|exact aq|refine aN ?_ ?_|exact trivial)
  refine drawP E_ok [1] pl21_1 (by kernel_rfl) ?_
  (repeat' first|exact aq|refine aN ?_ ?_|exact trivial)
  refine c71.use [] ?_ (by (repeat' first|exact fp|refine aN ?_ ?_)) rfl
  (repeat' first|exact aq|refine aN ?_ ?_|exact trivial)
  refine (t53n hn hv B).use [0] ?_ (by (repeat' first|exact fp|refine aN ?_ ?_)) rfl
  all_goals (repeat' first|exact aq|refine aN ?_ ?_|exact trivial)
  all_goals first | exact dd | skip
  all_goals intro h1
  all_goals first | exact absurd h1 (by decide) | (cases h1; done) | skip
  (repeat' first|exact aq|refine aN ?_ ?_|exact trivial)
  exact ent_tau [0] ⟨by (repeat' first|exact fp|refine aN ?_ ?_), by (repeat' first|exact tm|refine aN ?_ ?_), rfl⟩
end Go.Proofs.Ytioajogaghgipaa
/-
 Contract of the document: Free.
-/
namespace Go.Proofs.Ytioajogaghgipaa
open Go Go.Sy Tic
set_option linter.unusedSimpArgs false
set_option maxRecDepth 100000
set_option maxHeartbeats 4000000
attribute [local irreducible] CallP CodeP Ent YieldP
set_option maxHeartbeats 16000000
-- fast: YtioajogaghgipaaDd

theorem t23 (t : TK) (hn : t.n ≤ 1000000) (h m : Int) : CallP Try.prog 23 [TA t, .int .i64 h, .int .i64 m] (TH t) (Ret (.tup [.int .i64 (freT t h m).1, .int .i64 (freT t h m).2]) (TH t)) := by
 obtain ⟨A, hA'⟩ : ∃ A, inI h 0 (IntKind.wrap .i64 (t.huts - 1)) = A := ⟨_, rfl⟩
 obtain ⟨B, hB⟩ : ∃ B, inI m 0 240 = B := ⟨_, rfl⟩
 have c76 := t76w t h
 have c71 := t71 m
 rw [hA'] at c76
 rw [hB] at c71
 by_cases hv : t.Valid
 ·have hA : inI h 0 (t.huts - 1) = A := by rw [← hA', wrap_valid hv]
  cases A with
  | false =>
   have e : freT t h m = (0, 2) := by unfold freT; rw [if_neg (by simpa using hv), if_pos (by rw [hA]; rfl)]
   rw [e]
   refine callR (E := E) E_ok Try.func23 rfl ?_
   (repeat' first|exact aq|refine aN ?_ ?_|exact trivial)
   refine drawP E_ok [1] pl23_1 (by kernel_rfl) ?_
   (repeat' first|exact aq|refine aN ?_ ?_|exact trivial)
   refine c76.use [0] ?_ (by (repeat' first|exact fp|refine aN ?_ ?_)) rfl
   all_goals (repeat' first|exact aq|refine aN ?_ ?_|exact trivial)
   all_goals first | exact dd | skip
   all_goals intro hg
   all_goals first | exact absurd hg (by decide) | (cases hg; done) | skip
   (repeat' first|exact aq|refine aN ?_ ?_|exact trivial)
   all_goals first | exact dd | skip
   refine (t53r hv).use [0] ?_ (by (repeat' first|exact fp|refine aN ?_ ?_)) rfl
   all_goals (repeat' first|exact aq|refine aN ?_ ?_|exact trivial)
   all_goals first | exact dd | skip
   all_goals intro h1
   all_goals first | exact absurd h1 (by decide) | (cases h1; done) | skip
   (repeat' first|exact aq|refine aN ?_ ?_|exact trivial)
   exact ent_tau [0] ⟨by (repeat' first|exact fp|refine aN ?_ ?_), by (repeat' first|exact tm|refine aN ?_ ?_), rfl⟩
  | true =>
   cases B with
   | false =>
    have e : freT t h m = (0, 2) := by unfold freT; rw [if_neg (by simpa using hv), if_pos (by rw [hA, hB]; rfl)]
    rw [e]
    refine callR (E := E) E_ok Try.func23 rfl ?_
    (repeat' first|exact aq|refine aN ?_ ?_|exact trivial)
    refine drawP E_ok [1] pl23_1 (by kernel_rfl) ?_
    (repeat' first|exact aq|refine aN ?_ ?_|exact trivial)
    refine c76.use [0] ?_ (by (repeat' first|exact fp|refine aN ?_ ?_)) rfl
    all_goals (repeat' first|exact aq|refine aN ?_ ?_|exact trivial)
    all_goals first | exact dd | skip
    all_goals intro hg
    all_goals first | exact absurd hg (by decide) | (cases hg; done) | skip
    (repeat' first|exact aq|refine aN ?_ ?_|exact trivial)
    refine c71.use [] ?_ (by (repeat' first|exact fp|refine aN ?_ ?_)) rfl
    (repeat' first|exact aq|refine aN ?_ ?_|exact trivial)
    refine (t53r hv).use [0] ?_ (by (repeat' first|exact fp|refine aN ?_ ?_)) rfl
    all_goals (repeat' first|exact aq|refine aN ?_ ?_|exact trivial)
    all_goals first | exact dd | skip
    all_goals intro h1
    all_goals first | exact absurd h1 (by decide) | (cases h1; done) | skip
    (repeat' first|exact aq|refine aN ?_ ?_|exact trivial)
    exact ent_tau [0] ⟨by (repeat' first|exact fp|refine aN ?_ ?_), by (repeat' first|exact tm|refine aN ?_ ?_), rfl⟩
   | true =>
    have hn5 := hv.2.1
    have hm := inI_iff.1 hB
    by_cases hne : t.trl = []
    ·have e : freT t h m = (0, 10) := by unfold freT; rw [if_neg (by simpa using hv), if_neg (by rw [hA, hB]; decide), if_pos (trl_nil.2 hne)]
     rw [e]
     refine callR (E := E) E_ok Try.func23 rfl ?_
     (repeat' first|exact aq|refine aN ?_ ?_|exact trivial)
     refine drawP E_ok [1] pl23_1 (by kernel_rfl) ?_
     (repeat' first|exact aq|refine aN ?_ ?_|exact trivial)
     refine c76.use [0] ?_ (by (repeat' first|exact fp|refine aN ?_ ?_)) rfl
     all_goals (repeat' first|exact aq|refine aN ?_ ?_|exact trivial)
     all_goals first | exact dd | skip
     all_goals intro hg
     all_goals first | exact absurd hg (by decide) | (cases hg; done) | skip
     (repeat' first|exact aq|refine aN ?_ ?_|exact trivial)
     refine c71.use [] ?_ (by (repeat' first|exact fp|refine aN ?_ ?_)) rfl
     (repeat' first|exact aq|refine aN ?_ ?_|exact trivial)
     refine (t53c hv hne).use [0] ?_ (by (repeat' first|exact fp|refine aN ?_ ?_)) rfl
     all_goals (repeat' first|exact aq|refine aN ?_ ?_|exact trivial)
     all_goals first | exact dd | skip
     all_goals intro h1
     all_goals first | exact absurd h1 (by decide) | (cases h1; done) | skip
     (repeat' first|exact aq|refine aN ?_ ?_|exact trivial)
     exact ent_tau [0] ⟨by (repeat' first|exact fp|refine aN ?_ ?_), by (repeat' first|exact tm|refine aN ?_ ?_), rfl⟩
    ·rw [fre_is hv (fun h => hne (trl_nil.1 h)) h m (inI_iff.1 hA) hm]
     have hlen := trl_len hv
     refine callR (E := E) E_ok Try.func23 rfl ?_
     (repeat' first|exact aq|refine aN ?_ ?_|exact trivial)
     refine drawP E_ok [1] pl23_1 (by kernel_rfl) ?_
     (repeat' first|exact aq|refine aN ?_ ?_|exact trivial)
     refine c76.use [0] ?_ (by (repeat' first|exact fp|refine aN ?_ ?_)) rfl
     all_goals (repeat' first|exact aq|refine aN ?_ ?_|exact trivial)
     all_goals first | exact dd | skip
     all_goals intro hg
     all_goals first | exact absurd hg (by decide) | (cases hg; done) | skip
     (repeat' first|exact aq|refine aN ?_ ?_|exact trivial)
     refine c71.use [] ?_ (by (repeat' first|exact fp|refine aN ?_ ?_)) rfl
     (repeat' first|exact aq|refine aN ?_ ?_|exact trivial)
     refine CallP.frameH (t53o hv hlen hne) [0] (by (repeat' first|exact fp|refine aN ?_ ?_)) rfl ?_
     rintro ce h' ⟨cO, cp, cq, hz, hcO, rfl, rfl⟩
     refine ⟨rfl, ?_⟩
     all_goals (repeat' first|exact aq|refine aN ?_ ?_|exact trivial)
     all_goals first | exact dd | skip
     all_goals intro h1
     all_goals first | exact absurd h1 (by decide) | (cases h1; done) | skip
     (repeat' first|exact aq|refine aN ?_ ?_|exact trivial)
     refine loopP E_ok [1, 2, 3, 8] (fun k : Nat => [(10, .int .i64 (cntN (fun j => !t.used (xW t.trl j) h m) k : Nat)), (11, .int .i64 k)]) (fun _ _ => [some (.roa 5 t.n (TF t)), some (.cells (tb t)), some (.roa 2 t.trl.length (rwsT 3 t.n cp cq)), some (.pool false (2 * t.trl.length) (fun _ => t.n) (pgT t.trl))]) (fun k => k ≤ t.trl.length) (fun k => t.trl.length - k) 0 (Nat.zero_le _) ?_ ?_
     ·exact ent_tau [0, 1, 2, 3] ⟨by (repeat' first|exact fp|refine aN ?_ ?_), by (repeat' first|exact tm|refine aN ?_ ?_), rfl⟩
     rintro k hk
     refine And.intro ?_ (And.intro (fun hc => ?_) (fun hc => ?_))
     ·(repeat' first|exact aq|refine aN ?_ ?_|exact trivial)
     ·have hk' : k < t.trl.length := by
       have := of_decide_eq_true hc
       omega
      have ek := z1 k
      have c77 := t77r t t.trl (0 + ((k : Nat) : Int).toNat) (by omega) (cp (0 + ((k : Nat) : Int).toNat)) (cq (0 + ((k : Nat) : Int).toNat)) (fun h => hz h _) hn (by rw [ek]; exact xW_day hv hk') h m hm
      have ex : t.used (ofL (t.trl.getD (0 + ((k : Nat) : Int).toNat) [])) h m = t.used (xW t.trl k) h m := by rw [ek]; rfl
      obtain ⟨q, hq⟩ : ∃ q, t.used (xW t.trl k) h m = q := ⟨_, rfl⟩
      have hcl := cntN_le (fun j => !t.used (xW t.trl j) h m) k
      rw [ex, hq] at c77
      cases q with
      | true | false =>
       (repeat' first|exact aq|refine aN ?_ ?_|exact trivial)
       all_goals first | exact dd | skip
       refine drawP E_ok [1] pl23_8 (by kernel_rfl) ?_
       (repeat' first|exact aq|refine aN ?_ ?_|exact trivial)
       all_goals first | exact dd | skip
       refine c77.use [0, 3] ?_ (by (repeat' first|exact fp|refine aN ?_ ?_)) rfl
       all_goals (repeat' first|exact aq|refine aN ?_ ?_|exact trivial)
       all_goals first | exact dd | skip
       all_goals intro h2
       all_goals first | exact absurd h2 (by decide) | (cases h2; done) | skip
       (repeat' first|exact aq|refine aN ?_ ?_|exact trivial)
       all_goals first | exact dd | skip
       refine ⟨k + 1, hk', by omega, ?_⟩
       refine ent_tau [0, 1, 2, 3] ⟨by (repeat' first|exact fp|refine aN ?_ ?_), ?_, rfl⟩
       (repeat' first|exact tm|refine aN ?_ ?_)
       exact congrArg (SV.int .i64) (by rw [cntN, hq]; rfl)
     ·obtain rfl : k = t.trl.length := by
       have := of_decide_eq_false hc
       omega
      have c60 := t60 (cntN (fun j => !t.used (xW t.trl j) h m) t.trl.length) t.trl.length
      rw [grade_xW hne (q := fun x => !t.used x h m)] at c60
      (repeat' first|exact aq|refine aN ?_ ?_|exact trivial)
      all_goals first | exact dd | skip
      refine c60.use [] ?_ (by (repeat' first|exact fp|refine aN ?_ ?_)) rfl
      (repeat' first|exact aq|refine aN ?_ ?_|exact trivial)
      exact ent_tau [0] ⟨by (repeat' first|exact fp|refine aN ?_ ?_), by (repeat' first|exact tm|refine aN ?_ ?_), rfl⟩
 ·have e : freT t h m = (0, 1) := by unfold freT; rw [if_pos hv]
  rw [e]
  cases A with
  | false =>
   refine callR (E := E) E_ok Try.func23 rfl ?_
   (repeat' first|exact aq|refine aN ?_ ?_|exact trivial)
   refine drawP E_ok [1] pl23_1 (by kernel_rfl) ?_
   (repeat' first|exact aq|refine aN ?_ ?_|exact trivial)
   refine c76.use [0] ?_ (by (repeat' first|exact fp|refine aN ?_ ?_)) rfl
   all_goals (repeat' first|exact aq|refine aN ?_ ?_|exact trivial)
   all_goals first | exact dd | skip
   all_goals intro hg
   all_goals first | exact absurd hg (by decide) | (cases hg; done) | skip
   (repeat' first|exact aq|refine aN ?_ ?_|exact trivial)
   all_goals first | exact dd | skip
   refine (t53n hn hv false).use [0] ?_ (by (repeat' first|exact fp|refine aN ?_ ?_)) rfl
   all_goals (repeat' first|exact aq|refine aN ?_ ?_|exact trivial)
   all_goals first | exact dd | skip
   all_goals intro h1
   all_goals first | exact absurd h1 (by decide) | (cases h1; done) | skip
   (repeat' first|exact aq|refine aN ?_ ?_|exact trivial)
   exact ent_tau [0] ⟨by (repeat' first|exact fp|refine aN ?_ ?_), by (repeat' first|exact tm|refine aN ?_ ?_), rfl⟩
  | true =>
   cases B with
   | true =>
    refine callR (E := E) E_ok Try.func23 rfl ?_
    (repeat' first|exact aq|refine aN ?_ ?_|exact trivial)
    refine drawP E_ok [1] pl23_1 (by kernel_rfl) ?_
    (repeat' first|exact aq|refine aN ?_ ?_|exact trivial)
    refine c76.use [0] ?_ (by (repeat' first|exact fp|refine aN ?_ ?_)) rfl
    all_goals (repeat' first|exact aq|refine aN ?_ ?_|exact trivial)
    all_goals first | exact dd | skip
    all_goals intro hg
    all_goals first | exact absurd hg (by decide) | (cases hg; done) | skip
    (repeat' first|exact aq|refine aN ?_ ?_|exact trivial)
    refine c71.use [] ?_ (by (repeat' first|exact fp|refine aN ?_ ?_)) rfl
    (repeat' first|exact aq|refine aN ?_ ?_|exact trivial)
    refine (t53n hn hv true).use [0] ?_ (by (repeat' first|exact fp|refine aN ?_ ?_)) rfl
    all_goals (repeat' first|exact aq|refine aN ?_ ?_|exact trivial)
    all_goals first | exact dd | skip
    all_goals intro h1
    all_goals first | exact absurd h1 (by decide) | (cases h1; done) | skip
    (repeat' first|exact aq|refine aN ?_ ?_|exact trivial)
    exact ent_tau [0] ⟨by (repeat' first|exact fp|refine aN ?_ ?_), by (repeat' first|exact tm|refine aN ?_ ?_), rfl⟩
   | false =>
    refine callR (E := E) E_ok Try.func23 rfl ?_
    (repeat' first|exact aq|refine aN ?_ ?_|exact trivial)
    refine drawP E_ok [1] pl23_1 (by kernel_rfl) ?_
    (repeat' first|exact aq|refine aN ?_ ?_|exact trivial)
    refine c76.use [0] ?_ (by (repeat' first|exact fp|refine aN ?_ ?_)) rfl
    all_goals (repeat' first|exact aq|refine aN ?_ ?_|exact trivial)
    all_goals first | exact dd | skip
    all_goals intro hg
    all_goals first | exact absurd hg (by decide) | (cases hg; done) | skip
    (repeat' first|exact aq|refine aN ?_ ?_|exact trivial)
    refine c71.use [] ?_ (by (repeat' first|exact fp|refine aN ?_ ?_)) rfl
    (repeat' first|exact aq|refine aN ?_ ?_|exact trivial)
    refine (t53n hn hv false).use [0] ?_ (by (repeat' first|exact fp|refine aN ?_ ?_)) rfl
    all_goals (repeat' first|exact aq|refine aN ?_ ?_|exact trivial)
    all_goals first | exact dd | skip
    all_goals intro h1
    all_goals first | exact absurd h1 (by decide) | (cases h1; done) | skip
    (repeat' first|exact aq|refine aN ?_ ?_|exact trivial)
    exact ent_tau [0] ⟨by (repeat' first|exact fp|refine aN ?_ ?_), by (repeat' first|exact tm|refine aN ?_ ?_), rfl⟩
end Go.Proofs.Ytioajogaghgipaa
/-
 Contracts of the document: Waits, Wrong, Busy.
-/
namespace Go.Proofs.Ytioajogaghgipaa
open Go Go.Sy Tic
set_option linter.unusedSimpArgs false
set_option maxRecDepth 100000
set_option maxHeartbeats 4000000
attribute [local irreducible] CallP CodeP Ent YieldP
set_option maxHeartbeats 16000000
-- fast: YtioajogaghgipaaDd

theorem row_s0 {σ : Nat → Nat} {f : Nat → Int} {v : Int} (h : f 0 = v) : ∀ k, k < 1 → getOf 1 (splice (repL 1 [ti3.zero]) (0 * 1) [SV.int .i64 v]) (0 + k) = renL σ (LF f k) := fun k hk => by
 obtain rfl : k = 0 := by omega
 subst h
 rfl
theorem row_s1 {σ : Nat → Nat} {f : Nat → Int} {n : Nat} {v : Int} (h : f n = v) : ∀ k, k < n + 1 → selL (decide (k < n)) (LF f k) (getOf 1 (splice (repL 1 [ti3.zero]) (0 * 1) [SV.int .i64 v]) (0 + (k - n))) = renL σ (LF f k) := fun k hk => by
 subst h
 by_cases c : k < n
 ·rw [decide_eq_true c, selL_true]
  rfl
 ·obtain rfl : k = n := by omega
  rw [decide_eq_false c, selL_false, Nat.sub_self]
  rfl
end Go.Proofs.Ytioajogaghgipaa
