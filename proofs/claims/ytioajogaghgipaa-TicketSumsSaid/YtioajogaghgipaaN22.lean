/-
  Parts: V2, Dd, V3, V4, V5, V6, R2, Sy34.
-/
import Derived.Test.YtioajogaghgipaaN21
import Derived.Test.YtioajogaghgipaaN19
import Derived.Test.YtioajogaghgipaaN13
set_option linter.unusedVariables false
/-
 The document's answer: is a ticket in turn, whose turn it is, the longest wait, how many are out of turn.
-/
namespace Go.Proofs.Ytioajogaghgipaa
open Go Go.Sy Tic
set_option linter.unusedSimpArgs false
set_option maxRecDepth 100000
set_option maxHeartbeats 4000000
attribute [local irreducible] CallP CodeP Ent YieldP
set_option maxHeartbeats 16000000

theorem anyB_none {p : Nat → Bool} {n : Nat} (h : ∀ i, i < n → p i = false) : anyB p n = false := by
 rw [← Bool.not_eq_true, anyB_iff]
 rintro ⟨i, hi, e⟩
 rw [h i hi] at e
 cases e
theorem t59 (s : SL2) (n : Nat) (hn : n ≤ 1000000) (x : Tru) (a : Nat) (ha : a < n) : CallP Try.prog 59 [AX s n, .int .i64 a] (HX n x) (Ret (.bool (inTurn n x a)) (HX n x)) := by
 refine callR (E := E) E_ok Try.func59 rfl ?_
 (repeat' first|exact ap|refine aN ?_ ?_)
 refine loopP E_ok [1, 2] (fun i : Nat => [(5, .int .i64 i)]) (fun _ _ => HX n x ++ [some (.cells [.osl s.b1 0 1 n s.c1, .osl s.b2 1 1 n s.c2])]) (fun i => i ≤ n ∧ ∀ j, j < i → over x a j = false) (fun i => n - i) 0 ⟨Nat.zero_le _, fun j hj => absurd hj (Nat.not_lt_zero j)⟩ ?_ ?_
 ·exact ent_tau [0, 1, 2] ⟨by (repeat' first|exact fp|refine aN ?_ ?_), by (repeat' first|exact tm|refine aN ?_ ?_), rfl⟩
 rintro i ⟨hi, hall⟩
 refine And.intro ?_ (And.intro (fun hlt => ?_) (fun hlt => ?_))
 ·(repeat' first|exact ap|refine aN ?_ ?_)
 ·have hlt' : i < n := by
   have := of_decide_eq_true hlt
   omega
  have c := t63 s n x a i ha hlt'
  cases hw : over x a i with
  | true =>
   rw [hw] at c
   have e0 : inTurn n x a = false := by
    unfold inTurn
    rw [overs_iff.2 ⟨i, hlt', hw⟩]
    rfl
   rw [e0]
   (repeat' first|exact ap|refine aN ?_ ?_)
   refine c.use [0, 1] ?_ (by (repeat' first|exact fp|refine aN ?_ ?_)) rfl
   all_goals (repeat' first|exact ap|refine aN ?_ ?_)
   all_goals first | exact gd | skip
   all_goals intro h1
   all_goals first | exact absurd h1 (by decide) | skip
   (repeat' first|exact ap|refine aN ?_ ?_)
   exact ent_tau [0, 1] ⟨by (repeat' first|exact fp|refine aN ?_ ?_), by (repeat' first|exact tm|refine aN ?_ ?_), rfl⟩
  | false =>
   rw [hw] at c
   (repeat' first|exact ap|refine aN ?_ ?_)
   refine c.use [0, 1] ?_ (by (repeat' first|exact fp|refine aN ?_ ?_)) rfl
   all_goals (repeat' first|exact ap|refine aN ?_ ?_)
   all_goals first | exact gd | skip
   all_goals intro h1
   all_goals first | exact absurd h1 (by decide) | skip
   (repeat' first|exact ap|refine aN ?_ ?_)
   all_goals first | exact om | skip
   refine ⟨i + 1, ⟨hlt', fun j hj => ?_⟩, by omega, ?_⟩
   ·rcases Nat.lt_succ_iff_lt_or_eq.1 hj with d | rfl
    ·exact hall j d
    ·exact hw
   exact ent_tau [0, 1, 2] ⟨by (repeat' first|exact fp|refine aN ?_ ?_), by (repeat' first|exact tm|refine aN ?_ ?_), rfl⟩
 ·have e : i = n := by
   have := of_decide_eq_false hlt
   omega
  subst e
  have e0 : inTurn i x a = true := by
   unfold inTurn overs
   rw [anyB_none hall]
   rfl
  rw [e0]
  (repeat' first|exact ap|refine aN ?_ ?_)
  exact ent_tau [0, 1] ⟨by (repeat' first|exact fp|refine aN ?_ ?_), by (repeat' first|exact tm|refine aN ?_ ?_), rfl⟩
theorem t88 (s : SL2) (n : Nat) (hn : n ≤ 1000000) (x : Tru) : CallP Try.prog 88 [AX s n] (HX n x) (Ret (.int .i64 (cntN (fun i => overs n x i) n : Nat)) (HX n x)) := by
 refine callR (E := E) E_ok Try.func88 rfl ?_
 (repeat' first|exact ap|refine aN ?_ ?_)
 refine loopP E_ok [1] (fun i : Nat => [(3, .int .i64 (cntN (fun i => overs n x i) i : Nat)), (4, .int .i64 i)]) (fun _ _ => HX n x ++ [some (.cells [.osl s.b1 0 1 n s.c1, .osl s.b2 1 1 n s.c2])]) (fun i => i ≤ n) (fun i => n - i) 0 (Nat.zero_le _) ?_ ?_
 ·exact ent_tau [0, 1, 2] ⟨by (repeat' first|exact fp|refine aN ?_ ?_), by (repeat' first|exact tm|refine aN ?_ ?_), rfl⟩
 rintro i hi
 have hcl := cntN_le (fun i => overs n x i) i
 refine And.intro ?_ (And.intro (fun hlt => ?_) (fun hlt => ?_))
 ·(repeat' first|exact ap|refine aN ?_ ?_)
 ·have hlt' : i < n := by
   have := of_decide_eq_true hlt
   omega
  have c := t59 s n hn x i hlt'
  unfold inTurn at c
  cases hw : overs n x i with
  | true =>
   rw [hw] at c
   have e0 : cntN (fun i => overs n x i) (i + 1) = cntN (fun i => overs n x i) i + 1 := by rw [cntN, hw]
   (repeat' first|exact ap|refine aN ?_ ?_)
   refine c.use [0, 1] ?_ (by (repeat' first|exact fp|refine aN ?_ ?_)) rfl
   all_goals (repeat' first|exact ap|refine aN ?_ ?_)
   all_goals first | exact gd | skip
   all_goals intro h1
   all_goals first | exact absurd h1 (by decide) | skip
   (repeat' first|exact ap|refine aN ?_ ?_)
   all_goals first | exact om | skip
   refine ⟨i + 1, hlt', by omega, ?_⟩
   rw [e0]
   exact ent_tau [0, 1, 2] ⟨by (repeat' first|exact fp|refine aN ?_ ?_), by (repeat' first|exact tm|refine aN ?_ ?_), rfl⟩
  | false =>
   rw [hw] at c
   have e0 : cntN (fun i => overs n x i) (i + 1) = cntN (fun i => overs n x i) i := by rw [cntN, hw]; rfl
   (repeat' first|exact ap|refine aN ?_ ?_)
   refine c.use [0, 1] ?_ (by (repeat' first|exact fp|refine aN ?_ ?_)) rfl
   all_goals (repeat' first|exact ap|refine aN ?_ ?_)
   all_goals first | exact gd | skip
   all_goals intro h1
   all_goals first | exact absurd h1 (by decide) | skip
   (repeat' first|exact ap|refine aN ?_ ?_)
   all_goals first | exact om | skip
   refine ⟨i + 1, hlt', by omega, ?_⟩
   rw [e0]
   exact ent_tau [0, 1, 2] ⟨by (repeat' first|exact fp|refine aN ?_ ?_), by (repeat' first|exact tm|refine aN ?_ ?_), rfl⟩
 ·have e : i = n := by
   have := of_decide_eq_false hlt
   omega
  subst e
  (repeat' first|exact ap|refine aN ?_ ?_)
  exact ent_tau [0, 1] ⟨by (repeat' first|exact fp|refine aN ?_ ?_), by (repeat' first|exact tm|refine aN ?_ ?_), rfl⟩
def Day (n : Nat) (x : Tru) : Prop := ∀ i, i < n → (0 ≤ (x i).1 ∧ (x i).1 ≤ 240) ∧ 0 ≤ (x i).2 ∧ (x i).2 ≤ 240
theorem longest_rng {n : Nat} {x : Tru} (h : Day n x) : ∀ k, k ≤ n → 0 ≤ TK.longest x k ∧ TK.longest x k ≤ 240
 | 0, _ => by simp [TK.longest]
 | k + 1, hk => by
  have ih := longest_rng h k (by omega)
  have := h k hk
  rw [TK.longest]
  omega
theorem t80 (s : SL2) (n : Nat) (hn : n ≤ 1000000) (x : Tru) (hx : Day n x) : CallP Try.prog 80 [AX s n] (HX n x) (Ret (.int .i64 (TK.longest x n)) (HX n x)) := by
 refine callR (E := E) E_ok Try.func80 rfl ?_
 (repeat' first|exact ap|refine aN ?_ ?_)
 refine loopP E_ok [1] (fun i : Nat => [(3, .int .i64 (TK.longest x i)), (4, .int .i64 i)]) (fun _ _ => HX n x ++ [some (.cells [.osl s.b1 0 1 n s.c1, .osl s.b2 1 1 n s.c2])]) (fun i => i ≤ n) (fun i => n - i) 0 (Nat.zero_le _) ?_ ?_
 ·exact ent_tau [0, 1, 2] ⟨by (repeat' first|exact fp|refine aN ?_ ?_), by (repeat' first|exact tm|refine aN ?_ ?_), rfl⟩
 rintro i hi
 refine And.intro ?_ (And.intro (fun hlt => ?_) (fun hlt => ?_))
 ·(repeat' first|exact ap|refine aN ?_ ?_)
 ·have hlt' : i < n := by
   have := of_decide_eq_true hlt
   omega
  have ei := z1 i
  have hd := hx i hlt'
  have hd2 := longest_rng hx i hi
  have hd3 : (0 ≤ (x (0 + ((i : Nat) : Int).toNat)).1 ∧ (x (0 + ((i : Nat) : Int).toNat)).1 ≤ 240) ∧ 0 ≤ (x (0 + ((i : Nat) : Int).toNat)).2 ∧ (x (0 + ((i : Nat) : Int).toNat)).2 ≤ 240 := by rw [ei]; exact hd
  (repeat' first|exact ap|refine aN ?_ ?_)
  refine drawP E_ok [2] pl80_5 (by kernel_rfl) ?_
  (repeat' first|exact ap|refine aN ?_ ?_)
  all_goals first | exact om | skip
  refine ⟨i + 1, hlt', by omega, ?_⟩
  refine ent_tau [0, 1, 2] ⟨by (repeat' first|exact fp|refine aN ?_ ?_), ?_, rfl⟩
  (repeat' first|exact tm|refine aN ?_ ?_)
  refine congrArg (SV.int .i64) ?_
  have kmax : ∀ a b : Int, (if b > a then b else a) = max a b := fun a b => by split <;> omega
  have e2 : TK.longest x (i + 1) = max (TK.longest x i) ((x (0 + ((i : Nat) : Int).toNat)).2 - (x (0 + ((i : Nat) : Int).toNat)).1) := by rw [ei, TK.longest]
  rw [e2]
  exact kmax _ _
 ·have e : i = n := by
   have := of_decide_eq_false hlt
   omega
  subst e
  (repeat' first|exact ap|refine aN ?_ ?_)
  exact ent_tau [0, 1] ⟨by (repeat' first|exact fp|refine aN ?_ ?_), by (repeat' first|exact tm|refine aN ?_ ?_), rfl⟩
end Go.Proofs.Ytioajogaghgipaa
/-
 What settles duties, by their form.
-/
namespace Go.Proofs.Ytioajogaghgipaa
open Go Go.Sy Tic

theorem aq {P : Prop} (h : P := by first | with_reducible exact trivial | ((with_reducible show _ = _); exact rfl) | ((with_reducible show ∀ _, _ = _); exact fun _ => rfl) | ((with_reducible show under _ _); first | exact trivial | exact rfl | exact fun _ => rfl)) : P := h
theorem dd {P : Prop} (h : P := by first
 | ((with_reducible show under _ _); first | exact g1 | exact g1f | exact g2 | exact g2f | exact gn | exact fun hh => hh | exact u1 (lt64 (by omega)) | exact u0 (lt64 (by omega)) | exact u0 (by omega) | exact u1 (by omega) | exact u1 ⟨by omega, by omega⟩ | exact un (by omega) | exact fun hh => absurd hh (by decide) | exact fun hh => congrArg not hh | exact fun hh => Bool.noConfusion (show true = false from hh) | exact fun hh => Bool.noConfusion (show false = true from hh))
 | ((with_reducible show (_ : Int) ≤ _); omega)
 | ((with_reducible show (_ : Int) < _); omega)
 | ((with_reducible show (_ : Nat) ≤ _); omega)
 | ((with_reducible show (_ : Nat) < _); omega)
 | ((with_reducible show Nat.lt _ _); omega)
 | ((with_reducible show Nat.le _ _); omega)
 | ((with_reducible show ¬ _); omega)
 | ((with_reducible show _ ≠ _); omega)) : P := h
end Go.Proofs.Ytioajogaghgipaa
/-
 The document's answer: is a hut not free, how many are not, whose turn it is.
-/
namespace Go.Proofs.Ytioajogaghgipaa
open Go Go.Sy Tic
set_option linter.unusedSimpArgs false
set_option maxRecDepth 100000
set_option maxHeartbeats 4000000
attribute [local irreducible] CallP CodeP Ent YieldP
set_option maxHeartbeats 16000000

def AX2 (s : SL2) (n : Nat) : SV := .agg [.osl s.b1 1 1 n s.c1, .osl s.b2 2 1 n s.c2]
def bx2 (s : SL2) (n : Nat) : List SV := [.osl s.b1 1 1 n s.c1, .osl s.b2 2 1 n s.c2]
def uB (t : TK) (x : Tru) (h m : Int) (i : Nat) : Bool := decide (t.hut i = h) && inI (m - (x i).2) 0 29
theorem used_is (t : TK) (x : Tru) (h m : Int) : t.used x h m = anyB (uB t x h m) t.n := rfl
theorem t77 (t : TK) (hn : t.n ≤ 1000000) (s : SL2) (x : Tru) (hx : Day t.n x) (h m : Int) (hm : 0 ≤ m ∧ m ≤ 240) : CallP Try.prog 77 [TA t, AX2 s t.n, .int .i64 h, .int .i64 m] (TH t ++ HX t.n x) (Ret (.bool (t.used x h m)) (TH t ++ HX t.n x)) := by
 refine callR (E := E) E_ok Try.func77 rfl ?_
 (repeat' first|exact aq|refine aN ?_ ?_|exact trivial)
 refine loopP E_ok [2, 3, 4, 5] (fun i : Nat => [(9, .int .i64 i)]) (fun _ _ => TH t ++ HX t.n x ++ [some (.cells (tb t)), some (.cells (bx2 s t.n))]) (fun i => i ≤ t.n ∧ ∀ j, j < i → uB t x h m j = false) (fun i => t.n - i) 0 ⟨Nat.zero_le _, fun j hj => absurd hj (Nat.not_lt_zero j)⟩ ?_ ?_
 ·exact ent_tau [0, 1, 2, 3, 4] ⟨by (repeat' first|exact fp|refine aN ?_ ?_), by (repeat' first|exact tm|refine aN ?_ ?_), rfl⟩
 rintro i ⟨hi, hall⟩
 refine And.intro ?_ (And.intro (fun hlt => ?_) (fun hlt => ?_))
 ·(repeat' first|exact aq|refine aN ?_ ?_|exact trivial)
 ·have hlt' : i < t.n := by
   have := of_decide_eq_true hlt
   omega
  have ei := z1 i
  have hd := hx i hlt'
  have c := t95 (m - (x (0 + ((i : Nat) : Int).toNat)).2) 0 29
  have hd2 : 0 ≤ (x (0 + ((i : Nat) : Int).toNat)).2 ∧ (x (0 + ((i : Nat) : Int).toNat)).2 ≤ 240 := by rw [ei]; exact hd.2
  have hmx : InR .i64 (m - (x (0 + ((i : Nat) : Int).toNat)).2) := ⟨by omega, by omega⟩
  by_cases hh : t.hut i = h
  ·have dh : decide (t.hut (0 + ((i : Nat) : Int).toNat) = h) = true := decide_eq_true (by rw [ei]; exact hh)
   have eu : uB t x h m i = inI (m - (x (0 + ((i : Nat) : Int).toNat)).2) 0 29 := by
    unfold uB
    rw [ei, decide_eq_true hh]
    rfl
   cases hw : inI (m - (x (0 + ((i : Nat) : Int).toNat)).2) 0 29 with
   | true =>
    rw [hw] at c
    have e0 : t.used x h m = true := by
     rw [used_is]
     exact anyB_iff.2 ⟨i, hlt', eu.trans hw⟩
    rw [e0]
    (repeat' first|exact aq|refine aN ?_ ?_|exact trivial)
    all_goals first | exact dd | skip
    all_goals first | exact un hmx | exact fun _ => hmx | skip
    all_goals (repeat' first|exact aq|refine aN ?_ ?_|exact trivial)
    all_goals first | exact dd | skip
    all_goals intro h1
    all_goals first | (exfalso; (try rw [dh] at h1); exact Bool.noConfusion (show true = false from h1)) | (exfalso; (try rw [dh] at h1); exact Bool.noConfusion (show false = true from h1)) | skip
    refine c.use [] ?_ (by (repeat' first|exact fp|refine aN ?_ ?_)) rfl
    all_goals (repeat' first|exact aq|refine aN ?_ ?_|exact trivial)
    all_goals first | exact dd | skip
    all_goals intro h2
    all_goals first | (exfalso; (try rw [dh] at h2); exact Bool.noConfusion (show true = false from h2)) | (exfalso; (try rw [dh] at h2); exact Bool.noConfusion (show false = true from h2)) | skip
    (repeat' first|exact aq|refine aN ?_ ?_|exact trivial)
    all_goals first | exact dd | skip
    exact ent_tau [0, 1, 2] ⟨by (repeat' first|exact fp|refine aN ?_ ?_), by (repeat' first|exact tm|refine aN ?_ ?_), rfl⟩
   | false =>
    rw [hw] at c
    (repeat' first|exact aq|refine aN ?_ ?_|exact trivial)
    all_goals first | exact dd | skip
    all_goals first | exact un hmx | exact fun _ => hmx | skip
    all_goals (repeat' first|exact aq|refine aN ?_ ?_|exact trivial)
    all_goals first | exact dd | skip
    all_goals intro h1
    all_goals first | (exfalso; (try rw [dh] at h1); exact Bool.noConfusion (show true = false from h1)) | (exfalso; (try rw [dh] at h1); exact Bool.noConfusion (show false = true from h1)) | skip
    refine c.use [] ?_ (by (repeat' first|exact fp|refine aN ?_ ?_)) rfl
    all_goals (repeat' first|exact aq|refine aN ?_ ?_|exact trivial)
    all_goals first | exact dd | skip
    all_goals intro h2
    all_goals first | (exfalso; (try rw [dh] at h2); exact Bool.noConfusion (show true = false from h2)) | (exfalso; (try rw [dh] at h2); exact Bool.noConfusion (show false = true from h2)) | skip
    (repeat' first|exact aq|refine aN ?_ ?_|exact trivial)
    all_goals first | exact dd | skip
    refine ⟨i + 1, ⟨hlt', fun j hj => ?_⟩, by omega, ?_⟩
    ·rcases Nat.lt_succ_iff_lt_or_eq.1 hj with d | rfl
     ·exact hall j d
     ·exact eu.trans hw
    exact ent_tau [0, 1, 2, 3, 4] ⟨by (repeat' first|exact fp|refine aN ?_ ?_), by (repeat' first|exact tm|refine aN ?_ ?_), rfl⟩
  ·have dh : decide (t.hut (0 + ((i : Nat) : Int).toNat) = h) = false := decide_eq_false (by rw [ei]; exact hh)
   have eu : uB t x h m i = false := by
    unfold uB
    rw [decide_eq_false hh]
    rfl
   (repeat' first|exact aq|refine aN ?_ ?_|exact trivial)
   all_goals first | exact dd | skip
   all_goals first | exact un hmx | exact fun _ => hmx | skip
   all_goals (repeat' first|exact aq|refine aN ?_ ?_|exact trivial)
   all_goals first | exact dd | skip
   all_goals intro h1
   all_goals first | (exfalso; (try rw [dh] at h1); exact Bool.noConfusion (show true = false from h1)) | (exfalso; (try rw [dh] at h1); exact Bool.noConfusion (show false = true from h1)) | skip
   all_goals (repeat' first|exact aq|refine aN ?_ ?_|exact trivial)
   all_goals first | exact dd | skip
   all_goals intro h2
   all_goals first | (exfalso; (try rw [dh] at h2); exact Bool.noConfusion (show true = false from h2)) | (exfalso; (try rw [dh] at h2); exact Bool.noConfusion (show false = true from h2)) | skip
   (repeat' first|exact aq|refine aN ?_ ?_|exact trivial)
   all_goals first | exact dd | skip
   refine ⟨i + 1, ⟨hlt', fun j hj => ?_⟩, by omega, ?_⟩
   ·rcases Nat.lt_succ_iff_lt_or_eq.1 hj with d | rfl
    ·exact hall j d
    ·exact eu
   exact ent_tau [0, 1, 2, 3, 4] ⟨by (repeat' first|exact fp|refine aN ?_ ?_), by (repeat' first|exact tm|refine aN ?_ ?_), rfl⟩
 ·have e : i = t.n := by
   have := of_decide_eq_false hlt
   omega
  have e0 : t.used x h m = false := by
   rw [used_is]
   exact anyB_none fun j hj => hall j (by omega)
  rw [e0]
  (repeat' first|exact aq|refine aN ?_ ?_|exact trivial)
  exact ent_tau [0, 1, 2] ⟨by (repeat' first|exact fp|refine aN ?_ ?_), by (repeat' first|exact tm|refine aN ?_ ?_), rfl⟩
end Go.Proofs.Ytioajogaghgipaa
/-
 The document's answer: how many huts are not free at once; whose turn it is.
-/
namespace Go.Proofs.Ytioajogaghgipaa
open Go Go.Sy Tic
set_option linter.unusedSimpArgs false
set_option maxRecDepth 100000
set_option maxHeartbeats 4000000
attribute [local irreducible] CallP CodeP Ent YieldP
set_option maxHeartbeats 16000000
-- fast: YtioajogaghgipaaDd

theorem mostF_rng {t : TK} (hh : t.huts ≤ 1000) (x : Tru) : ∀ k, 0 ≤ t.mostF x k ∧ t.mostF x k ≤ 1000
 | 0 => by simp [TK.mostF]
 | k + 1 => by
  have ih := mostF_rng hh x k
  have h1 := cntN_le (fun h => t.used x (h : Nat) (x k).2) t.huts.toNat
  have h2 : t.usedN x (x k).2 ≤ t.huts.toNat := h1
  rw [TK.mostF]
  omega
theorem t85 (t : TK) (hn : t.n ≤ 1000000) (hh : 0 ≤ t.huts ∧ t.huts ≤ 1000) (s : SL2) (x : Tru) (hx : Day t.n x) : CallP Try.prog 85 [TA t, AX2 s t.n] (TH t ++ HX t.n x) (Ret (.int .i64 (t.mostF x t.n)) (TH t ++ HX t.n x)) := by
 refine callR (E := E) E_ok Try.func85 rfl ?_
 (repeat' first|exact aq|refine aN ?_ ?_|exact trivial)
 refine loopP E_ok [2, 3] (fun i : Nat => [(5, .int .i64 (t.mostF x i)), (6, .int .i64 i)]) (fun _ _ => TH t ++ HX t.n x ++ [some (.cells (tb t)), some (.cells (bx2 s t.n))]) (fun i => i ≤ t.n) (fun i => t.n - i) 0 (Nat.zero_le _) ?_ ?_
 ·exact ent_tau [0, 1, 2, 3, 4] ⟨by (repeat' first|exact fp|refine aN ?_ ?_), by (repeat' first|exact tm|refine aN ?_ ?_), rfl⟩
 rintro i hi
 have hmr := mostF_rng hh.2 x i
 refine And.intro ?_ (And.intro (fun hlt => ?_) (fun hlt => ?_))
 ·(repeat' first|exact aq|refine aN ?_ ?_|exact trivial)
 ·have hlt' : i < t.n := by
   have := of_decide_eq_true hlt
   omega
  have ei := z1 i
  have hd := hx i hlt'
  have hd2 : 0 ≤ (x (0 + ((i : Nat) : Int).toNat)).2 ∧ (x (0 + ((i : Nat) : Int).toNat)).2 ≤ 240 := by rw [ei]; exact hd.2
  (repeat' first|exact aq|refine aN ?_ ?_|exact trivial)
  all_goals first | exact dd | skip
  refine loopP E_ok [2, 3, 5, 6] (fun h : Nat => [(7, .int .i64 (cntN (fun h => t.used x (h : Nat) (x (0 + ((i : Nat) : Int).toNat)).2) h : Nat)), (8, .int .i64 h)]) (fun _ _ => TH t ++ HX t.n x ++ [some (.cells (tb t)), some (.cells (bx2 s t.n))]) (fun h => (h : Int) ≤ t.huts) (fun h => t.huts.toNat - h) 0 hh.1 ?_ ?_
  ·exact ent_tau [0, 1, 2, 3, 4] ⟨by (repeat' first|exact fp|refine aN ?_ ?_), by (repeat' first|exact tm|refine aN ?_ ?_), rfl⟩
  rintro h hk
  have hcl := cntN_le (fun h => t.used x (h : Nat) (x (0 + ((i : Nat) : Int).toNat)).2) h
  refine And.intro ?_ (And.intro (fun hlh => ?_) (fun hlh => ?_))
  ·(repeat' first|exact aq|refine aN ?_ ?_|exact trivial)
  ·have hlh' : (h : Int) < t.huts := of_decide_eq_true hlh
   have c := t77 t hn s x hx (h : Nat) (x (0 + ((i : Nat) : Int).toNat)).2 hd2
   cases hw : t.used x (h : Nat) (x (0 + ((i : Nat) : Int).toNat)).2 with
   | true =>
    rw [hw] at c
    have e0 : cntN (fun h => t.used x (h : Nat) (x (0 + ((i : Nat) : Int).toNat)).2) (h + 1) = cntN (fun h => t.used x (h : Nat) (x (0 + ((i : Nat) : Int).toNat)).2) h + 1 := by rw [cntN, hw]
    (repeat' first|exact aq|refine aN ?_ ?_|exact trivial)
    refine drawP E_ok [3, 4] pl85_9 (by kernel_rfl) ?_
    (repeat' first|exact aq|refine aN ?_ ?_|exact trivial)
    all_goals first | exact dd | skip
    refine c.use [0, 1, 2] ?_ (by (repeat' first|exact fp|refine aN ?_ ?_)) rfl
    all_goals (repeat' first|exact aq|refine aN ?_ ?_|exact trivial)
    all_goals first | exact dd | skip
    all_goals intro h1
    all_goals first | exact absurd h1 (by decide) | (cases h1; done) | skip
    (repeat' first|exact aq|refine aN ?_ ?_|exact trivial)
    all_goals first | exact dd | skip
    refine ⟨h + 1, by omega, by omega, ?_⟩
    rw [e0]
    exact ent_tau [0, 1, 2, 3, 4] ⟨by (repeat' first|exact fp|refine aN ?_ ?_), by (repeat' first|exact tm|refine aN ?_ ?_), rfl⟩
   | false =>
    rw [hw] at c
    have e0 : cntN (fun h => t.used x (h : Nat) (x (0 + ((i : Nat) : Int).toNat)).2) (h + 1) = cntN (fun h => t.used x (h : Nat) (x (0 + ((i : Nat) : Int).toNat)).2) h := by rw [cntN, hw]; rfl
    (repeat' first|exact aq|refine aN ?_ ?_|exact trivial)
    refine drawP E_ok [3, 4] pl85_9 (by kernel_rfl) ?_
    (repeat' first|exact aq|refine aN ?_ ?_|exact trivial)
    all_goals first | exact dd | skip
    refine c.use [0, 1, 2] ?_ (by (repeat' first|exact fp|refine aN ?_ ?_)) rfl
    all_goals (repeat' first|exact aq|refine aN ?_ ?_|exact trivial)
    all_goals first | exact dd | skip
    all_goals intro h1
    all_goals first | exact absurd h1 (by decide) | (cases h1; done) | skip
    (repeat' first|exact aq|refine aN ?_ ?_|exact trivial)
    all_goals first | exact dd | skip
    refine ⟨h + 1, by omega, by omega, ?_⟩
    rw [e0]
    exact ent_tau [0, 1, 2, 3, 4] ⟨by (repeat' first|exact fp|refine aN ?_ ?_), by (repeat' first|exact tm|refine aN ?_ ?_), rfl⟩
  ·have eh : h = t.huts.toNat := by
    have := of_decide_eq_false hlh
    omega
   have e2 : t.mostF x (i + 1) = max (t.mostF x i) ((cntN (fun h => t.used x (h : Nat) (x (0 + ((i : Nat) : Int).toNat)).2) h : Nat) : Int) := by
    rw [TK.mostF, eh, ei]
    rfl
   (repeat' first|exact aq|refine aN ?_ ?_|exact trivial)
   all_goals first | exact dd | skip
   refine ⟨i + 1, hlt', by omega, ?_⟩
   refine ent_tau [0, 1, 2, 3, 4] ⟨by (repeat' first|exact fp|refine aN ?_ ?_), ?_, rfl⟩
   (repeat' first|exact tm|refine aN ?_ ?_)
   refine congrArg (SV.int .i64) ?_
   rw [e2]
   have kmax : ∀ a b : Int, (if b > a then b else a) = max a b := fun a b => by split <;> omega
   exact kmax _ _
 ·have e : i = t.n := by
   have := of_decide_eq_false hlt
   omega
  subst e
  (repeat' first|exact aq|refine aN ?_ ?_|exact trivial)
  exact ent_tau [0, 1, 2] ⟨by (repeat' first|exact fp|refine aN ?_ ?_), by (repeat' first|exact tm|refine aN ?_ ?_), rfl⟩
end Go.Proofs.Ytioajogaghgipaa
/-
 The document's answer: can the last ticket of some be so.
-/
namespace Go.Proofs.Ytioajogaghgipaa
open Go Go.Sy Tic
set_option linter.unusedSimpArgs false
set_option maxRecDepth 100000
set_option maxHeartbeats 4000000
attribute [local irreducible] CallP CodeP Ent YieldP
set_option maxHeartbeats 16000000
-- fast: YtioajogaghgipaaDd

def ngB (t : TK) (x : Tru) (d i : Nat) : Bool := decide (t.hut i = t.hut d) && TK.near (x i).2 (x d).2
def fitsX (t : TK) (x : Tru) (d : Nat) : Bool := decide ((x d).1 ≤ (x d).2) && (List.range d).all fun i => !ngB t x d i
theorem fitsX_is (t : TK) (L : List (Int × Int)) (p : Int × Int) : fitsX t (ofL (L ++ [p])) L.length = t.fits L p := by
 unfold fitsX TK.fits ngB
 have e : ofL (L ++ [p]) L.length = p := by rw [TK.ofL_app, if_neg (Nat.lt_irrefl _), if_pos rfl]
 rw [e]
 congr 1
 rw [Bool.eq_iff_iff, List.all_eq_true, List.all_eq_true]
 refine forall_congr' fun i => forall_congr' fun hi => ?_
 rw [TK.ofL_app, if_pos (List.mem_range.1 hi)]
theorem fitsX_no {t : TK} {x : Tru} {d i : Nat} (hi : i < d) (h : ngB t x d i = true) : fitsX t x d = false := by
 unfold fitsX
 rw [Bool.and_eq_false_iff]
 right
 rw [← Bool.not_eq_true, List.all_eq_true]
 intro H
 have := H i (List.mem_range.2 hi)
 rw [h] at this
 cases this
theorem fitsX_yes {t : TK} {x : Tru} {d : Nat} (h0 : (x d).1 ≤ (x d).2) (h : ∀ i, i < d → ngB t x d i = false) : fitsX t x d = true := by
 unfold fitsX
 rw [Bool.and_eq_true, List.all_eq_true]
 refine ⟨decide_eq_true h0, fun i hi => ?_⟩
 rw [h i (List.mem_range.1 hi)]
 rfl
theorem t115 (t : TK) (hn : t.n ≤ 1000000) (s : SL2) (x : Tru) (d : Nat) (hd : d < t.n) (hx : Day (d + 1) x) : CallP Try.prog 115 [TA t, AX2 s (d + 1)] (TH t ++ HX (d + 1) x) (Ret (.bool (fitsX t x d)) (TH t ++ HX (d + 1) x)) := by
 have ed := z1 d
 have hxd := hx d (Nat.lt_succ_self d)
 rw [← ed] at hxd
 refine callR (E := E) E_ok Try.func115 rfl ?_
 (repeat' first|exact aq|refine aN ?_ ?_|exact trivial)
 all_goals first | exact dd | skip
 refine cutP [] [(2, .ptr 3 0), (3, .ptr 4 0), (4, .bool false), (5, .int .i64 d)] (fun _ => TH t ++ HX (d + 1) x ++ [some (.cells (tb t)), some (.cells (bx2 s (d + 1)))]) ?_ ?_
 ·refine ent_tau [0, 1, 2, 3, 4] ⟨by (repeat' first|exact fp|refine aN ?_ ?_), ?_, rfl⟩
  (repeat' first|exact tm|refine aN ?_ ?_)
  all_goals exact congrArg (SV.int .i64) (by omega)
 refine drawP E_ok [3, 4] pl115_2 (by kernel_rfl) ?_
 (repeat' first|exact aq|refine aN ?_ ?_|exact trivial)
 all_goals first | exact dd | skip
 ·intro h0
  have e0 : fitsX t x d = false := by
   have := of_decide_eq_true h0
   rw [ed] at this
   unfold fitsX
   rw [decide_eq_false (by omega)]
   rfl
  rw [e0]
  (repeat' first|exact aq|refine aN ?_ ?_|exact trivial)
  exact ent_tau [0, 1, 2] ⟨by (repeat' first|exact fp|refine aN ?_ ?_), by (repeat' first|exact tm|refine aN ?_ ?_), rfl⟩
 ·intro h0
  have hle : (x d).1 ≤ (x d).2 := by
   have := of_decide_eq_false h0
   rw [ed] at this
   omega
  (repeat' first|exact aq|refine aN ?_ ?_|exact trivial)
  all_goals first | exact dd | skip
  refine loopP E_ok [2, 3, 5] (fun i : Nat => [(6, .int .i64 i)]) (fun _ _ => TH t ++ HX (d + 1) x ++ [some (.cells (tb t)), some (.cells (bx2 s (d + 1)))]) (fun i => i ≤ d ∧ ∀ j, j < i → ngB t x d j = false) (fun i => d - i) 0 ⟨Nat.zero_le _, fun j hj => absurd hj (Nat.not_lt_zero j)⟩ ?_ ?_
  ·exact ent_tau [0, 1, 2, 3, 4] ⟨by (repeat' first|exact fp|refine aN ?_ ?_), by (repeat' first|exact tm|refine aN ?_ ?_), rfl⟩
  rintro i ⟨hi, hall⟩
  refine And.intro ?_ (And.intro (fun hlt => ?_) (fun hlt => ?_))
  ·(repeat' first|exact aq|refine aN ?_ ?_|exact trivial)
  ·have hlt' : i < d := by
    have := of_decide_eq_true hlt
    omega
   have ei := z1 i
   have hxi := hx i (by omega)
   rw [← ei] at hxi
   have c := t95 ((x (0 + ((i : Nat) : Int).toNat)).2 - (x (0 + ((d : Nat) : Int).toNat)).2) (-29) 29
   have hmx : InR .i64 ((x (0 + ((i : Nat) : Int).toNat)).2 - (x (0 + ((d : Nat) : Int).toNat)).2) := ⟨by omega, by omega⟩
   by_cases hh : t.hut i = t.hut d
   ·have dh : decide (t.hut (0 + ((i : Nat) : Int).toNat) = t.hut (0 + ((d : Nat) : Int).toNat)) = true := decide_eq_true (by rw [ei, ed]; exact hh)
    have eu : ngB t x d i = inI ((x (0 + ((i : Nat) : Int).toNat)).2 - (x (0 + ((d : Nat) : Int).toNat)).2) (-29) 29 := by
     unfold ngB
     rw [ei, ed, decide_eq_true hh]
     rfl
    cases hw : inI ((x (0 + ((i : Nat) : Int).toNat)).2 - (x (0 + ((d : Nat) : Int).toNat)).2) (-29) 29 with
    | true =>
     rw [hw] at c
     rw [fitsX_no hlt' (eu.trans hw)]
     (repeat' first|exact aq|refine aN ?_ ?_|exact trivial)
     refine drawP E_ok [3, 4] pl115_7 (by kernel_rfl) ?_
     (repeat' first|exact aq|refine aN ?_ ?_|exact trivial)
     all_goals first | exact dd | skip
     all_goals first | exact un hmx | ((with_reducible show _ → _); exact fun _ => hmx) | skip
     all_goals (repeat' first|exact aq|refine aN ?_ ?_|exact trivial)
     all_goals first | exact dd | skip
     all_goals intro h1
     all_goals first | (exfalso; (try rw [dh] at h1); exact Bool.noConfusion (show true = false from h1)) | (exfalso; (try rw [dh] at h1); exact Bool.noConfusion (show false = true from h1)) | skip
     refine c.use [] ?_ (by (repeat' first|exact fp|refine aN ?_ ?_)) rfl
     all_goals (repeat' first|exact aq|refine aN ?_ ?_|exact trivial)
     all_goals first | exact dd | skip
     all_goals intro h2
     all_goals first | (exfalso; (try rw [dh] at h2); exact Bool.noConfusion (show true = false from h2)) | (exfalso; (try rw [dh] at h2); exact Bool.noConfusion (show false = true from h2)) | skip
     (repeat' first|exact aq|refine aN ?_ ?_|exact trivial)
     all_goals first | exact dd | skip
     exact ent_tau [0, 1, 2] ⟨by (repeat' first|exact fp|refine aN ?_ ?_), by (repeat' first|exact tm|refine aN ?_ ?_), rfl⟩
    | false =>
     rw [hw] at c
     (repeat' first|exact aq|refine aN ?_ ?_|exact trivial)
     refine drawP E_ok [3, 4] pl115_7 (by kernel_rfl) ?_
     (repeat' first|exact aq|refine aN ?_ ?_|exact trivial)
     all_goals first | exact dd | skip
     all_goals first | exact un hmx | ((with_reducible show _ → _); exact fun _ => hmx) | skip
     all_goals (repeat' first|exact aq|refine aN ?_ ?_|exact trivial)
     all_goals first | exact dd | skip
     all_goals intro h1
     all_goals first | (exfalso; (try rw [dh] at h1); exact Bool.noConfusion (show true = false from h1)) | (exfalso; (try rw [dh] at h1); exact Bool.noConfusion (show false = true from h1)) | skip
     refine c.use [] ?_ (by (repeat' first|exact fp|refine aN ?_ ?_)) rfl
     all_goals (repeat' first|exact aq|refine aN ?_ ?_|exact trivial)
     all_goals first | exact dd | skip
     all_goals intro h2
     all_goals first | (exfalso; (try rw [dh] at h2); exact Bool.noConfusion (show true = false from h2)) | (exfalso; (try rw [dh] at h2); exact Bool.noConfusion (show false = true from h2)) | skip
     (repeat' first|exact aq|refine aN ?_ ?_|exact trivial)
     all_goals first | exact dd | skip
     refine ⟨i + 1, ⟨hlt', fun j hj => ?_⟩, by omega, ?_⟩
     ·rcases Nat.lt_succ_iff_lt_or_eq.1 hj with q | rfl
      ·exact hall j q
      ·exact eu.trans hw
     exact ent_tau [0, 1, 2, 3, 4] ⟨by (repeat' first|exact fp|refine aN ?_ ?_), by (repeat' first|exact tm|refine aN ?_ ?_), rfl⟩
   ·have dh : decide (t.hut (0 + ((i : Nat) : Int).toNat) = t.hut (0 + ((d : Nat) : Int).toNat)) = false := decide_eq_false (by rw [ei, ed]; exact hh)
    have eu : ngB t x d i = false := by
     unfold ngB
     rw [decide_eq_false hh]
     rfl
    (repeat' first|exact aq|refine aN ?_ ?_|exact trivial)
    refine drawP E_ok [3, 4] pl115_7 (by kernel_rfl) ?_
    (repeat' first|exact aq|refine aN ?_ ?_|exact trivial)
    all_goals first | exact dd | skip
    all_goals first | exact un hmx | ((with_reducible show _ → _); exact fun _ => hmx) | skip
    all_goals (repeat' first|exact aq|refine aN ?_ ?_|exact trivial)
    all_goals first | exact dd | skip
    all_goals intro h1
    all_goals first | (exfalso; (try rw [dh] at h1); exact Bool.noConfusion (show true = false from h1)) | (exfalso; (try rw [dh] at h1); exact Bool.noConfusion (show false = true from h1)) | skip
    all_goals (repeat' first|exact aq|refine aN ?_ ?_|exact trivial)
    all_goals first | exact dd | skip
    all_goals intro h2
    all_goals first | (exfalso; (try rw [dh] at h2); exact Bool.noConfusion (show true = false from h2)) | (exfalso; (try rw [dh] at h2); exact Bool.noConfusion (show false = true from h2)) | skip
    (repeat' first|exact aq|refine aN ?_ ?_|exact trivial)
    all_goals first | exact dd | skip
    refine ⟨i + 1, ⟨hlt', fun j hj => ?_⟩, by omega, ?_⟩
    ·rcases Nat.lt_succ_iff_lt_or_eq.1 hj with q | rfl
     ·exact hall j q
     ·exact eu
    exact ent_tau [0, 1, 2, 3, 4] ⟨by (repeat' first|exact fp|refine aN ?_ ?_), by (repeat' first|exact tm|refine aN ?_ ?_), rfl⟩
  ·have e : i = d := by
    have := of_decide_eq_false hlt
    omega
   rw [fitsX_yes hle fun j hj => hall j (by omega)]
   (repeat' first|exact aq|refine aN ?_ ?_|exact trivial)
   exact ent_tau [0, 1, 2] ⟨by (repeat' first|exact fp|refine aN ?_ ?_), by (repeat' first|exact tm|refine aN ?_ ?_), rfl⟩
end Go.Proofs.Ytioajogaghgipaa
/-
 The document's answer: the span of some numbers.
-/
namespace Go.Proofs.Ytioajogaghgipaa
open Go Go.Sy Tic
set_option linter.unusedSimpArgs false
set_option maxRecDepth 100000
set_option maxHeartbeats 4000000
attribute [local irreducible] CallP CodeP Ent YieldP
set_option maxHeartbeats 16000000
-- fast: YtioajogaghgipaaDd

def hullF (f : Nat → Int) : Nat → Int × Int
 | 0 => (f 0, f 0)
 | k + 1 => (min (hullF f k).1 (f k), max (hullF f k).2 (f k))
theorem hullF_is {f : Nat → Int} : ∀ {n : Nat}, 0 < n → IsHull ((List.range n).map f) (hullF f n)
 | 1, _ => by
  show IsHull [f 0] (min (f 0) (f 0), max (f 0) (f 0))
  rw [Int.min_self, Int.max_self]
  exact IsHull.one _
 | k + 2, _ => by
  rw [List.range_succ, List.map_append]
  exact (hullF_is (n := k + 1) (Nat.succ_pos k)).add (f (k + 1))
theorem hull_F {f : Nat → Int} {n : Nat} (hn : 0 < n) : hull ((List.range n).map f) = hullF f n := hull_uniq (hullF_is hn)
theorem two_ints {a b a' b' : Int} (h1 : a = a') (h2 : b = b') : [SV.int .i64 a, SV.int .i64 b] = [SV.int .i64 a', SV.int .i64 b'] := by
 subst h1 h2
 rfl
def LF (f : Nat → Int) : Nat → List SV := fun k => [.int .i64 (f k)]
def pl55_5s : Plan := eg [0, 2, 3, 4, 5, 7, 9, 10, 11, 12] <| .alt 1 (.eager 6 <| .alt 8 (eg [13, 14] <| .alt 15 (.done) .no) .no) (.alt 8 (.eager 13 <| .alt 1 (eg [6, 14] <| .alt 15 (.done) .no) .no) .no)
theorem t55 (n c : Nat) (hn : 0 < n) (hn2 : n ≤ 1000000) (f : Nat → Int) : CallP Try.prog 55 [.slice 0 1 0 n c] [some (.roa 1 n (LF f))] (Ret (.agg [.int .i64 (hullF f n).1, .int .i64 (hullF f n).2]) [some (.roa 1 n (LF f))]) := by
 refine callR (E := E) E_ok Try.func55 rfl ?_
 (repeat' first|exact aq|refine aN ?_ ?_|exact trivial)
 all_goals first | exact dd | skip
 refine drawP E_ok [] pl55_1 (by kernel_rfl) ?_
 (repeat' first|exact aq|refine aN ?_ ?_|exact trivial)
 all_goals first | exact dd | skip
 refine loopP E_ok [0, 2, 3] (fun i : Nat => [(4, .int .i64 i)]) (fun i _ => [some (.roa 1 n (LF f)), some (.cells [.int .i64 0, .int .i64 0]), some (.cells [.int .i64 (hullF f i).1, .int .i64 (hullF f i).2])]) (fun i => i ≤ n) (fun i => n - i) 0 (Nat.zero_le _) ?_ ?_
 ·exact ent_tau [0, 1, 2] ⟨by (repeat' first|exact fp|refine aN ?_ ?_), by (repeat' first|exact tm|refine aN ?_ ?_), rfl⟩
 rintro i hi
 refine And.intro ?_ (And.intro (fun hlt => ?_) (fun hlt => ?_))
 ·(repeat' first|exact aq|refine aN ?_ ?_|exact trivial)
 ·have hlt' : i < n := by
   have := of_decide_eq_true hlt
   omega
  have ei := z1 i
  have kmax : ∀ a b : Int, (if b > a then b else a) = max a b := fun a b => by split <;> omega
  have kmin : ∀ a b : Int, (if b < a then b else a) = min a b := fun a b => by split <;> omega
  have e1 : (if f (0 + ((i : Nat) : Int).toNat) < (hullF f i).1 then f (0 + ((i : Nat) : Int).toNat) else (hullF f i).1) = (hullF f (i + 1)).1 := by
   rw [ei, kmin]
   rfl
  have e2 : (if f (0 + ((i : Nat) : Int).toNat) > (hullF f i).2 then f (0 + ((i : Nat) : Int).toNat) else (hullF f i).2) = (hullF f (i + 1)).2 := by
   rw [ei, kmax]
   rfl
  (repeat' first|exact aq|refine aN ?_ ?_|exact trivial)
  all_goals first | exact dd | skip
  refine drawP E_ok [] pl55_5s (by kernel_rfl) ?_
  (repeat' first|exact aq|refine aN ?_ ?_|exact trivial)
  all_goals first | exact dd | skip
  all_goals refine ⟨i + 1, hlt', by omega, ?_⟩
  all_goals refine ent_tau [0, 1, 2] ⟨?_, by (repeat' first|exact tm|refine aN ?_ ?_), rfl⟩
  all_goals (repeat' first|exact fp|refine aN ?_ ?_)
  all_goals exact two_ints e1 e2
 ·have e : i = n := by
   have := of_decide_eq_false hlt
   omega
  subst e
  (repeat' first|exact aq|refine aN ?_ ?_|exact trivial)
  exact ent_tau [0] ⟨by (repeat' first|exact fp|refine aN ?_ ?_), by (repeat' first|exact tm|refine aN ?_ ?_), rfl⟩
end Go.Proofs.Ytioajogaghgipaa
/-
 The document's truths: plain law of all truths in parts, and blocks of truths.
-/
namespace Go.Proofs.Ytioajogaghgipaa
open Go Go.Sy Tic
set_option linter.unusedSimpArgs false
set_option maxRecDepth 100000
set_option maxHeartbeats 4000000
attribute [local irreducible] CallP CodeP Ent YieldP
-- fast: YtioajogaghgipaaDd

def partI {α : Type} (f : Int → List α) (lo : Int) (n : Nat) : List α := (List.range n).flatMap fun k => f (lo + (k : Nat))
theorem partI_zero {α : Type} (f : Int → List α) (lo : Int) : partI f lo 0 = [] := rfl
theorem partI_succ {α : Type} (f : Int → List α) (lo : Int) (n : Nat) : partI f lo (n + 1) = partI f lo n ++ f (lo + (n : Nat)) := by
 unfold partI
 rw [List.range_succ, List.flatMap_append, List.flatMap_cons, List.flatMap_nil, List.append_nil]
theorem partI_le {α : Type} (f : Int → List α) (lo : Int) {a : Nat} : ∀ {b : Nat}, a ≤ b → (partI f lo a).length ≤ (partI f lo b).length
 | 0, hb => by rw [Nat.le_zero.1 hb]; exact Nat.le_refl _
 | b + 1, hb => by
  rcases Nat.eq_or_lt_of_le hb with rfl | hb
  ·exact Nat.le_refl _
  ·have := partI_le f lo (a := a) (b := b) (by omega)
   rw [partI_succ, List.length_append]
   omega
theorem partI_up {α : Type} (f : Int → List α) (lo hi : Int) : (TK.upI lo hi).flatMap f = partI f lo (hi - lo + 1).toNat := by
 unfold TK.upI partI
 rw [List.flatMap_map]
def goP1 (t : TK) (r : Nat) (L : List (Int × Int)) (a b : Int) : List (List (Int × Int)) := match t.fits L (a, b) with
 | true => t.go r (L ++ [(a, b)])
 | false => []
theorem goP1_yes {t : TK} {r : Nat} {L : List (Int × Int)} {a b : Int} (h : t.fits L (a, b) = true) : goP1 t r L a b = t.go r (L ++ [(a, b)]) := by
 unfold goP1
 rw [h]
theorem goP1_no {t : TK} {r : Nat} {L : List (Int × Int)} {a b : Int} (h : t.fits L (a, b) = false) : goP1 t r L a b = [] := by
 unfold goP1
 rw [h]
def cntA (t : TK) (d : Nat) : Nat := (t.bh d - t.bl d + 1).toNat
def cntB (t : TK) (d : Nat) : Nat := (t.dh d - t.dl d + 1).toNat
def goA (t : TK) (r : Nat) (L : List (Int × Int)) (a : Int) : List (List (Int × Int)) := partI (goP1 t r L a) (t.dl L.length) (cntB t L.length)
theorem flatMap_map' {α β γ : Type} (l : List α) (f : α → β) (g : β → List γ) : (l.map f).flatMap g = l.flatMap fun x => g (f x) := by
 induction l with
 | nil => rfl
 | cons x l ih => rw [List.map_cons, List.flatMap_cons, List.flatMap_cons, ih]
theorem go_part (t : TK) (r : Nat) (L : List (Int × Int)) : t.go (r + 1) L = partI (goA t r L) (t.bl L.length) (cntA t L.length) := by
 rw [TK.go]
 unfold TK.prs
 rw [List.flatMap_assoc, partI_up]
 unfold cntA
 congr 1
 funext a
 unfold goA
 rw [flatMap_map']
 exact partI_up (goP1 t r L a) _ _
theorem go_len {t : TK} (hv : t.Valid) : ∀ (r : Nat) (L : List (Int × Int)), L.length + r ≤ t.n → (t.go r L).length ≤ 9 ^ r
 | 0, L, _ => by simp [TK.go]
 | r + 1, L, hr => by
  have ok := hv.2.2 L.length (by omega)
  unfold TK.okT spanOk at ok
  have one : ∀ a b, (goP1 t r L a b).length ≤ 9 ^ r := fun a b => by
   unfold goP1
   cases t.fits L (a, b) with
   | true => exact go_len hv r _ (by simp; omega)
   | false => exact Nat.zero_le _
  have key : ∀ {f : Int → List (List (Int × Int))} {lo : Int} {m : Nat}, (∀ a, (f a).length ≤ m) → ∀ n, n ≤ 3 → (partI f lo n).length ≤ 3 * m := fun {f lo m} hf n hn => by
   have : ∀ k, (partI f lo k).length ≤ k * m := fun k => by
    induction k with
    | zero => simp [partI]
    | succ k ih =>
     have := hf (lo + (k : Nat))
     rw [partI_succ, List.length_append, Nat.succ_mul]
     omega
   have h1 := this n
   have h2 : n * m ≤ 3 * m := Nat.mul_le_mul_right _ hn
   omega
  rw [go_part]
  have h1 : ∀ a, (goA t r L a).length ≤ 3 * 9 ^ r := fun a => key (one a) _ (by unfold cntB; omega)
  have h2 := key (lo := t.bl L.length) h1 (cntA t L.length) (by unfold cntA; omega)
  rw [Nat.pow_succ]
  omega

/-! ### Blocks of truths -/
def pgT (W : List (List (Int × Int))) (k m : Nat) : Int := if k % 2 = 0 then (ofL (W.getD (k / 2) []) m).1 else (ofL (W.getD (k / 2) []) m).2
def poolT (N : Nat) (W : List (List (Int × Int))) : SObj := .pool true (2 * W.length) (fun _ => N) (pgT W)
def rwsT (j N : Nat) (cp cq : Nat → Nat) (k : Nat) : List SV := [.row j (2 * k) N (cp k), .row j (2 * k + 1) N (cq k)]
theorem getD_old {α : Type} {W : List α} {g z : α} {k : Nat} (hk : k < W.length) : (W ++ [g]).getD k z = W.getD k z := by
 rw [List.getD_eq_getElem?_getD, List.getElem?_append_left hk, List.getD_eq_getElem?_getD]
theorem getD_new {α : Type} {W : List α} {g z : α} : (W ++ [g]).getD W.length z = g := by
 rw [List.getD_eq_getElem?_getD, List.getElem?_append_right (Nat.le_refl _)]
 simp
theorem pgT_old {W : List (List (Int × Int))} {L : List (Int × Int)} {k m : Nat} (hk : k < 2 * W.length) : pgT (W ++ [L]) k m = pgT W k m := by
 unfold pgT
 rw [getD_old (by omega)]
theorem pgT_1 {W : List (List (Int × Int))} {L : List (Int × Int)} {m : Nat} : pgT (W ++ [L]) (2 * W.length) m = (ofL L m).1 := by
 unfold pgT
 rw [if_pos (by omega), show 2 * W.length / 2 = W.length by omega, getD_new]
theorem pgT_2 {W : List (List (Int × Int))} {L : List (Int × Int)} {m : Nat} : pgT (W ++ [L]) (2 * W.length + 1) m = (ofL L m).2 := by
 unfold pgT
 rw [if_neg (by omega), show (2 * W.length + 1) / 2 = W.length by omega, getD_new]
theorem push111 {t : TK} {N cb cd M c : Nat} {cp cq : Nat → Nat} {L : List (Int × Int)} {W : List (List (Int × Int))} (hM : M = W.length) {go : Nat → List SV} (h1 : ∀ k, k < M → go k = rwsT 4 N cp cq k) (h2 : go M = [.slice 1 1 0 N cb, .slice 2 1 0 N cd]) :
  Ent 5 ⟨[some (none, .slice 5 2 0 (M + 1) c)], [some (.roa 5 t.n (TF t)), some (.arr 1 N cb (XB (ofL L))), some (.arr 1 N cd (XD (ofL L))), some .dead, some (poolT N W), some (.arr 2 (M + 1) c go)], []⟩
   ⟨[some (none, .slice 5 2 0 (M + 1) c)], [some (.roa 5 t.n (TF t)), some .dead, some .dead, some .dead, some .dead, some (.arr 2 (M + 1) c (rwsT 6 N (fun k => if k < M then cp k else cb) fun k => if k < M then cq k else cd)), some (poolT N (W ++ [L]))], []⟩ := by
 subst hM
 have e : (W ++ [L]).length = W.length + 1 := by simp
 have s1 := entPush (n := 5) (T := [some (none, .slice 5 2 0 (W.length + 1) c)]) (D := []) (H := [some (.roa 5 t.n (TF t)), some (.arr 1 N cb (XB (ofL L))), some (.arr 1 N cd (XD (ofL L))), some .dead, some (.pool true (2 * W.length) (fun _ => N) (pgT W)), some (.arr 2 (W.length + 1) c go)]) (i := 1) (j := 4) (o := 5) (np := 2 * W.length) (m := N) (cap := cb)
  (go' := fun k => if k < W.length then rwsT 6 N cp cq k else [.row 6 (2 * W.length) N cb, .slice 2 1 0 N cd]) (len' := fun _ => N) (get' := pgT (W ++ [L])) rfl rfl rfl (by decide)
  (fun q _ => by rw [pgT_1]; rfl) (fun k _ => rfl) (Nat.le_refl _) (fun k hk q _ => pgT_old hk)
  (fun η hp k hk => by
   rcases Nat.lt_succ_iff_lt_or_eq.1 hk with h | rfl
   ·rw [h1 k h]
    simp only [if_pos h, rwsT, denL]
    rw [hp.old (by omega), hp.old (by omega)]
    rfl
   ·rw [h2]
    simp only [if_neg (Nat.lt_irrefl _), denL]
    rw [hp.new]
    rfl)
 have s2 := entPush (n := 5) (T := [some (none, .slice 5 2 0 (W.length + 1) c)]) (D := []) (H := [some (.roa 5 t.n (TF t)), some .dead, some (.arr 1 N cd (XD (ofL L))), some .dead, some .dead, some (.arr 2 (W.length + 1) c (fun k => if k < W.length then rwsT 6 N cp cq k else [.row 6 (2 * W.length) N cb, .slice 2 1 0 N cd])), some (.pool true (2 * W.length + 1) (fun _ => N) (pgT (W ++ [L])))]) (i := 2) (j := 6) (o := 5) (np := 2 * W.length + 1) (m := N) (cap := cd)
  (go' := rwsT 7 N (fun k => if k < W.length then cp k else cb) fun k => if k < W.length then cq k else cd) (len' := fun _ => N) (get' := pgT (W ++ [L])) rfl rfl rfl (by decide)
  (fun q _ => by rw [pgT_2]; rfl) (fun k _ => rfl) (Nat.le_refl _) (fun k hk q _ => rfl)
  (fun η hp k hk => by
   rcases Nat.lt_succ_iff_lt_or_eq.1 hk with h | rfl
   ·simp only [if_pos h, rwsT, denL]
    rw [hp.old (by omega), hp.old (by omega)]
    rfl
   ·simp only [if_neg (Nat.lt_irrefl _), rwsT, denL]
    rw [hp.old (by omega), hp.new]
    rfl)
 refine Ent.trans s1 (Ent.trans s2 ?_)
 have e2 : poolT N (W ++ [L]) = .pool true (2 * W.length + 1 + 1) (fun _ => N) (pgT (W ++ [L])) := by
  unfold poolT
  rw [e]
  rfl
 rw [e2]
 exact ent_tau [0, 1, 2, 3, 4, 5, 7] ⟨by (repeat' first|exact fp|refine aN ?_ ?_), by (repeat' first|exact tm|refine aN ?_ ?_), rfl⟩
end Go.Proofs.Ytioajogaghgipaa
/-
 Sy34: regions that draw their order, by nodes: a node is what is done, and in which state; each set of operations is looked at once. No program is named.
-/
namespace Go.Sy

def mkL (n m : Nat) : Array Bool := Array.ofFn (n := n) fun i => m.testBit i.val
theorem mkL_zero (n : Nat) : mkL n 0 = Array.replicate n false := by
 apply Array.ext
 ·simp [mkL]
 ·intro i h1 h2
  simp [mkL]
theorem mkL_set (n m i : Nat) : (mkL n m).setIfInBounds i true = mkL n (m ||| 2 ^ i) := by
 apply Array.ext
 ·simp [mkL]
 ·intro j h1 h2
  rw [Array.getElem_setIfInBounds]
  ·simp only [mkL, Array.getElem_ofFn, Nat.testBit_or, Nat.testBit_two_pow]
   split
   ·rename_i e
    subst e
    simp
   ·rename_i e
    simp [e]
  ·simpa using h1

section
variable (E : Env) (P : Program) (r : Option Nat) (h1 : SHeap) (ops : List Oper) (K : KS)
def NodeP (f m : Nat) (s : St) : Prop := ∀ (η1 : Nam) (w1 : World) (Ef1 : Nat → Prop), Still η1 h1 w1 Ef1 → ∀ (η : Nam) (φ : Feet) (a : Act) (w : World), Rel h1.length η1 w1 Ef1 s η φ a w → roB h1 s.H = true →
 wpAnyS (Fw r) 0 P .any ops.toArray (QD ops h1.length η1 w1 Ef1 K) (SameOld w1 Ef1) f (mkL ops.length m) a w
def stepN (N : Nat → St → Prop) (s : St) : List Nat → Prop
 | [] => True
 | i :: is => (match ops[i]? with
  | some o => evOp E P r ops o s [] (seqK (fun s' ob => match roB h1 s'.H with
   | true => fcP ob fun ob => AllP ob ∧ whL s'.T fun T => whL s'.H fun H => whL s'.D fun D => N i ⟨T, H, D⟩
   | false => False) K)
  | none => False) ∧ stepN N s is
end
section
variable {E : Env} {P : Program} {r : Option Nat} {h1 : SHeap} {ops : List Oper} {K : KS}
theorem stepN_mem {N : Nat → St → Prop} {s : St} : ∀ {is : List Nat}, stepN E P r h1 ops K N s is → ∀ i ∈ is, ∃ o, ops[i]? = some o ∧ evOp E P r ops o s [] (seqK (fun s' ob => match roB h1 s'.H with
   | true => fcP ob fun ob => AllP ob ∧ whL s'.T fun T => whL s'.H fun H => whL s'.D fun D => N i ⟨T, H, D⟩
   | false => False) K)
 | [], _, i, hi => by cases hi
 | j :: is, h, i, hi => by
  rw [stepN] at h
  rcases List.mem_cons.1 hi with rfl | hi
  ·have h := h.1
   split at h
   ·rename_i o ho
    exact ⟨o, ho, h⟩
   ·exact h.elim
  ·exact stepN_mem h.2 i hi
theorem node_alt (hE : E.ok P) (hK : Good K) {f m : Nat} {s : St} (is : List Nat) (hrd : Region.ready .any ops.toArray (mkL ops.length m) = is) (hne : is ≠ [])
  (hx : stepN E P r h1 ops K (fun i s' => NodeP P r h1 ops K f (m ||| 2 ^ i) s') s is) : NodeP P r h1 ops K (f + 1) m s := by
 intro η1 w1 Ef1 hst η φ a w hr hro
 refine ⟨fun he => absurd (hrd.symm.trans he) hne, fun i hi => ?_⟩
 rw [hrd] at hi
 obtain ⟨o, ho, h⟩ := stepN_mem hx i hi
 refine evOp_ok (n := h1.length) (η0 := η1) (w0 := w1) (Ef := Ef1) hE (fun se s ob hk => ?_) ⟨fun s' ob' η' φ' a' w' hk hr' => ?_, fun v s' ob' η' φ' a' w' u hk hr' hu => ?_⟩ ho h hr
 ·cases se with
  | normal =>
   simp only [seqK] at hk
   split at hk
   ·rw [fcP_eq] at hk; exact hk.1
   ·exact hk.elim
  | _ => exact hK _ _ _ hk
 ·simp only [seqK] at hk
  split at hk
  ·rename_i hro'
   rw [fcP_eq, whL_eq, whL_eq, whL_eq] at hk
   refine ⟨⟨hr'.sat.size, hr'.sat.keep, hr'.sat.env⟩, ?_⟩
   rw [mkL_set]
   exact hk.2 η1 w1 Ef1 hst η' φ' a' w' hr' hro'
  ·exact hk.elim
 ·exact ⟨v, u, s', ob', η', φ', hk, hu, rfl, hr'.pin, hr'.len, hr'.sat, hr'.tmps, hr'.defers⟩
theorem node_done {f m : Nat} {s : St} (hrd : Region.ready .any ops.toArray (mkL ops.length m) = []) (h : K .normal s []) : NodeP P r h1 ops K f m s := by
 intro η1 w1 Ef1 hst η φ a w hr hro
 have hq : QD ops h1.length η1 w1 Ef1 K .normal a w := ⟨s, [], η, φ, h, hr⟩
 cases f with
 | zero => exact ⟨hrd, hq⟩
 | succ f => exact ⟨fun _ => hq, by rw [hrd]; simp⟩
theorem node_ent {f m : Nat} {s t : St} (he : Ent h1.length s t) (hro : roB h1 t.H = true) (h : NodeP P r h1 ops K f m t) : NodeP P r h1 ops K f m s := by
 intro η1 w1 Ef1 hst η φ a w hr _
 obtain ⟨η', φ', p, l, q1, q2, q3⟩ := he η φ w1 Ef1 w a hr.len hr.sat hr.tmps hr.defers
 exact h η1 w1 Ef1 hst η' φ' a w ⟨hr.pin.trans p (Nat.le_refl _), l, q1, q2, q3⟩ hro
theorem node_eager (hE : E.ok P) (hsel : Region.noSelect ops.toArray = true) (hKc : ∀ (d : Option Nat) (v : SV) (s : St) (ob : List Prop), K (.panic v) s ob → K (.panic v) ⟨putT s.T d none, s.H, s.D⟩ ob) {f m : Nat} {s : St} (i : Nat)
  (hc : onlyB i (Region.ready .any ops.toArray (mkL ops.length m)) (Region.free .any ops.toArray (mkL ops.length m) i) = true)
  (h : match ops[i]? with
   | some o => match eagerOp E ops o s.T (maskH s.H) with
    | some (G, v, obs) => fcV v fun v => fcL (putT s.T o.dst (some (G, v))) fun T' => fcP obs fun ob => AllP ob ∧ whL s.H fun H => whL s.D fun D => NodeP P r h1 ops K f (m ||| 2 ^ i) ⟨T', H, D⟩
    | none => False
   | none => False) : NodeP P r h1 ops K (f + 1) m s := by
 intro η1 w1 Ef1 hst η φ a w hr hro
 split at h
 ·rename_i o ho
  split at h
  ·rename_i G v obs he
   rw [fcV_eq, fcL_eq, fcP_eq, whL_eq, whL_eq] at h
   obtain ⟨hob, h⟩ := h
   have hob := AllP_iff.1 hob
   have hS : SameOld w1 Ef1 w := ⟨hr.sat.size, hr.sat.keep, hr.sat.env⟩
   obtain ⟨u, hu1, hu2, hy⟩ := eager_ok (P := P) hE he (fun p hp => hob p hp) hr.tmps (S := SameOld w1 Ef1)
    (fun w' hw' => ⟨φ, w1, Ef1, hr.sat.mask (still_of hst hr.pin hro) hw'⟩) ⟨w, hS⟩ r
   have H := h η1 w1 Ef1 hst η φ (a.put o.dst u) w ⟨hr.pin, hr.len, hr.sat, TRel.put hr.tmps _ hu1 hu2, by rw [Act.put_defers']; exact hr.defers⟩ hro
   rw [← mkL_set] at H
   rcases onlyB_ok hc with hone | ⟨hc1, hc2⟩
   ·refine ⟨fun e => (by rw [hone] at e; cases e), fun k hk => ?_⟩
    rw [hone, List.mem_singleton] at hk
    subst hk
    exact hy.wpOpIn (fun _ => trivial) (by simpa using ho) hS ⟨hS, H⟩
   ·refine wpAnyS_first (F := Fw r) (fun _ => trivial) (i := i) (oi := o) (by simpa using ho) (Region.noSelect_spec hsel) ?_ f (mkL ops.length m) a w (Region.free_spec (by simpa using ho) hc2) hc1 hy hS H
    rintro c a' w' ⟨v, u, s, ob, η, φ, k1, k2, k3, k4, k5, k6, k7, k8⟩
    exact ⟨v, u, ⟨putT s.T o.dst none, s.H, s.D⟩, ob, η, φ, hKc _ _ _ _ k1, k2, k3, k4, k5, k6, k7.undo, by rwa [Act.put_defers'] at k8⟩
  ·exact h.elim
 ·exact h.elim
end
theorem node_leaf {P : Program} {r : Option Nat} {h1 : SHeap} {ops : List Oper} {K : KS} {f m : Nat} {T : Tm} {H : SHeap} {D : List SV} (h : NodeP P r h1 ops K f m ⟨T, H, D⟩) : whL T fun T => whL H fun H => whL D fun D => NodeP P r h1 ops K f m ⟨T, H, D⟩ := by
 rw [whL_eq, whL_eq, whL_eq]
 exact h
theorem node_leaf2 {P : Program} {r : Option Nat} {h1 : SHeap} {ops : List Oper} {K : KS} {f m : Nat} {T : Tm} {H : SHeap} {D : List SV} (h : NodeP P r h1 ops K f m ⟨T, H, D⟩) : whL H fun H => whL D fun D => NodeP P r h1 ops K f m ⟨T, H, D⟩ := by
 rw [whL_eq, whL_eq]
 exact h
def KD (s : St) (h1 : SHeap) (K : SE → St → Prop) : KS := fun se s' ob => match se with
 | .normal => fcP ob fun ob => AllP ob ∧ roB h1 s'.H = true ∧ fcH (unlH s.H h1 s'.H) fun H => K .normal ⟨s'.T, H, s'.D⟩
 | .panic v => fcP ob fun ob => AllP ob ∧ roB h1 s'.H = true ∧ fcH (unlH s.H h1 s'.H) fun H => K (.panic v) ⟨s'.T, H, s'.D⟩
 | _ => False
theorem KD_good (s : St) (h1 : SHeap) (K : SE → St → Prop) : Good (KD s h1 K) := by
 intro se s' ob hk
 cases se with
 | normal => simp only [KD, fcP_eq] at hk; exact hk.1
 | panic v => simp only [KD, fcP_eq] at hk; exact hk.1
 | exit i => exact hk.elim
 | goto l => exact hk.elim
 | ret => exact hk.elim
theorem KD_put {s : St} {h1 : SHeap} {K : SE → St → Prop} (hp : ∀ (d : Option Nat) (v : SV) (s : St), K (.panic v) s → K (.panic v) ⟨putT s.T d none, s.H, s.D⟩) (d : Option Nat) (v : SV) (s' : St) (ob : List Prop) (h : KD s h1 K (.panic v) s' ob) : KD s h1 K (.panic v) ⟨putT s'.T d none, s'.H, s'.D⟩ ob := by
 simp only [KD, fcP_eq, fcH_eq] at h ⊢
 exact ⟨h.1, h.2.1, hp d v _ h.2.2⟩
theorem drawN {E : Env} {P : Program} (hE : E.ok P) {r : Option Nat} {n id : Nat} {ops : Array Oper} {s : St} {K : SE → St → Prop} (ks : List Nat)
  (hx : NodeP P r (lockH ks 0 s.H) ops.toList (KD s (lockH ks 0 s.H) K) ops.size 0 ⟨s.T, lockH ks 0 s.H, s.D⟩) : CodeP P r n (.region id ops true) s K := by
 intro η0 η φ w0 Ef w a q1 q2 q3 q4 q5
 refine wpIn_region_any hE.mixed ?_
 have q3 := q3.drawn (w.drawn + 1)
 generalize { w with drawn := w.drawn + 1 } = w at q3
 have hl := lockH_ok ks 0 s.H
 obtain ⟨hlen, _⟩ := hl.get
 obtain ⟨Ef1, hs1, hst, hEf⟩ := q3.lock hl
 refine wpAnyIn_of_S (S := SameOld w Ef1) _ _ _ _ ?_
 have key := hx η w Ef1 hst η φ a w ⟨Pin.refl _ _, Nat.le_refl _, hs1, q4, q5⟩ (roB_self _)
 rw [mkL_zero] at key
 simp only [Array.toArray_toList, Array.length_toList] at key
 refine wpAnyS_mono ?_ _ _ _ _ key
 intro e a' w' hq
 cases e with
 | normal =>
  obtain ⟨s', ob, η', φ', k, hr⟩ := hq
  simp only [KD, fcP_eq, fcH_eq] at k
  obtain ⟨_, hro', k⟩ := k
  have hp : Pin s.H.length η η' := fun i hi => hr.pin i (by omega)
  obtain ⟨φ'', hs'⟩ := q3.unlock hl hEf hp hr.sat (own_of hro')
  have := hr.len
  exact ⟨.normal, _, η', φ'', k, q1.trans hp q2, by show n ≤ (unlH _ _ _).length; rw [unlH_length]; omega, rfl, hs', hr.tmps, hr.defers⟩
 | panic c =>
  obtain ⟨v, u, s', ob, η', φ', k, hu, rfl, p1, p2, p3, p4, p5⟩ := hq
  simp only [KD, fcP_eq, fcH_eq] at k
  obtain ⟨_, hro', k⟩ := k
  have hp : Pin s.H.length η η' := fun i hi => p1 i (by omega)
  obtain ⟨φ'', hs'⟩ := q3.unlock hl hEf hp p3 (own_of hro')
  exact ⟨.panic v, _, η', φ'', k, q1.trans hp q2, by show n ≤ (unlH _ _ _).length; rw [unlH_length]; omega, ⟨u, hu, rfl⟩, hs', p4, p5⟩
 | exit i => exact hq.elim
 | goto l => exact hq.elim
 | ret => exact hq.elim
 | outgrown => exact hq.elim
end Go.Sy
