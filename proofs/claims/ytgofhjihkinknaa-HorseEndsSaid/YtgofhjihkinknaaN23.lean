/-
  Parts: Pk, Pl, Pm, P9.
-/
import Derived.Test.YtgofhjihkinknaaN22
import Derived.Test.YtgofhjihkinknaaN18
set_option linter.unusedVariables false
/-
  Contracts: the first set of moves of which something is so.
-/
namespace Go.Proofs.Ytgofhjihkinknaa
open Go Go.Sy Kuhn
set_option linter.unusedSimpArgs false
set_option maxRecDepth 100000
set_option maxHeartbeats 4000000
attribute [local irreducible] CallP CodeP Ent YieldP
attribute [local irreducible] HD.ch maskO

theorem t73 (h : HD) (up : Bool) : CallP Try.prog 73 [HD.A h, .bool up] (HD.H h) (Ret (.fn (.func 94) [] [.ptr 1 0, .ptr 2 0]) (HD.H h ++ [some (.cells (bc h)), some (.cells [.bool up])])) := by
  refine callR (E := E) E_ok Try.func73 rfl ?_
  (repeat' (first | exact trivial | exact fun _ => rfl | exact rfl | refine And.intro ?_ ?_))
  exact ent_tau [0, 1, 2] ⟨by (repeat' (first | exact trivial | exact rfl | exact fun _ _ => rfl | exact fun _ _ _ _ => rfl | exact Or.inl rfl | exact Or.inr rfl | refine And.intro ?_ ?_)), by (repeat' (first | exact trivial | exact rfl | exact congrArg (SV.int .i64) (Int.natCast_succ _).symm | exact congrArg (SV.int .u64) (Int.natCast_succ _).symm | refine And.intro ?_ ?_)), rfl⟩
noncomputable def G72 (h : HD) (s : Bool) (m : Int) (up : Bool) : SHeap := HD.H h ++ [some (.roc (bc h)), some (.roc (chI fun j => (h.ch s j : Nat))), some (.roc [.int .i64 m]), some (.roc (bc h)), some (.roc [.bool up])]
theorem t72 (h : HD) (hn : h.n ≤ 7) (s : Bool) (m : Int) (g : Nat) (caps : List SV) (hg : tests g caps) (up : Bool) (P : Nat → Bool) (hT : ∀ S : Nat, S < 128 → CallP Try.prog g (.int .u64 S :: caps) (B72 h s m) (Ret (.bool (P S)) (B72 h s m)))
    (S0 : Nat) (h0 : FirstOf up h.n P S0) :
    CallP Try.prog 72 [.fn (.func 94) [] [.ptr 4 0, .ptr 5 0], .agg [.fn (.func g) [] caps]] (G72 h s m up) (Ret (.tup [.int .u64 S0, .bool true]) (G72 h s m up)) := by
  have c94 := t94 h hn s m g caps hg up P hT S0 h0
  rcases hg with ⟨rfl, rfl⟩ | ⟨rfl, rfl⟩
  all_goals refine callM (E := E) E_ok Try.func72 rfl ?_
  all_goals (repeat' (first | exact trivial | exact fun _ => rfl | exact rfl | refine And.intro ?_ ?_))
  all_goals refine rangeP E_ok rfl rfl ?_
  all_goals refine c94.use [0, 1, 2, 3, 6, 10, 7, 8, 4, 5] ?_ (by (repeat' (first | exact trivial | exact rfl | exact fun _ _ => rfl | exact fun _ _ _ _ => rfl | exact Or.inl rfl | exact Or.inr rfl | refine And.intro ?_ ?_))) rfl
  all_goals refine ⟨by decide, ?_⟩
  all_goals refine codeP_ret ?_
  all_goals refine And.intro trivial ?_
  all_goals refine And.intro (fun o h => h) ?_
  all_goals refine And.intro ?_ ⟨_, _, ⟨rfl, rfl⟩, ?_⟩
  all_goals first | exact ent_tau [0, 1, 2, 3, 4, 5] ⟨by (repeat' (first | exact trivial | exact rfl | exact fun _ _ => rfl | exact fun _ _ _ _ => rfl | exact Or.inl rfl | exact Or.inr rfl | refine And.intro ?_ ?_)), by (repeat' (first | exact trivial | exact rfl | exact congrArg (SV.int .i64) (Int.natCast_succ _).symm | exact congrArg (SV.int .u64) (Int.natCast_succ _).symm | refine And.intro ?_ ?_)), rfl⟩ | simp [AllP, under, gB, wB, inR_iff, IntKind.bits]
end Go.Proofs.Ytgofhjihkinknaa
/-
  Contracts: Proof, Leave.
-/
namespace Go.Proofs.Ytgofhjihkinknaa
open Go Go.Sy Kuhn
set_option linter.unusedSimpArgs false
set_option maxRecDepth 100000
set_option maxHeartbeats 4000000
attribute [local irreducible] CallP CodeP Ent YieldP
attribute [local irreducible] HD.ch maskO

/-- The first set of which something is so. -/
def firstS (up : Bool) (n : Nat) (P : Nat → Bool) : Nat := ((setsL up n).find? P).getD 0
theorem firstS_of {up : Bool} {n : Nat} {P : Nat → Bool} (hn : n ≤ 7) {T : Nat} (hT : T < 2 ^ n) (hP : P T = true) : FirstOf up n P (firstS up n P) := by
  obtain ⟨S, hS⟩ := first_ex (up := up) hn hT hP
  have := first_set hn hS
  unfold firstS
  rw [hS]
  exact this
theorem lone_zero (h : HD) (s : Bool) : ∀ n, lone h s 0 n = true
  | 0 => rfl
  | n + 1 => by simp [lone, lone_zero h s n]
/-- The moves of the proof. -/
def prfS (h : HD) (s : Bool) : Nat := firstS false h.n fun S => lone h s S h.n
theorem prf_ok (h : HD) (hn : h.n ≤ 7) (s : Bool) : FirstOf false h.n (fun S => lone h s S h.n) (prfS h s) := firstS_of hn (Nat.pow_pos (by omega)) (lone_zero h s h.n)
/-- Are so many horses enough without some moves? -/
def okWo (h : HD) (s : Bool) (m : Int) (S : Nat) : Bool := decide ((h.need s (fun i => (sdiff h.every S).testBit i) : Int) ≤ m)
theorem okWo_all {h : HD} (hv : h.Valid) (s : Bool) {m : Int} (hm : 0 ≤ m) : okWo h s m h.every = true := by
  have e : ∀ i, (sdiff h.every h.every).testBit i = false := fun i => by
    by_cases h64 : i < 64
    · rw [sdiff_bit h64]
      cases h.every.testBit i <;> rfl
    · exact Nat.testBit_lt_two_pow (Nat.lt_of_lt_of_le (sdiff_lt (n := 7) (HD.every_lt hv.2.1)) (Nat.pow_le_pow_right (by omega) (by omega)))
  have := HD.need_le hv (s := s) (ok := fun i => (sdiff h.every h.every).testBit i) (p := fun _ => 0) (m := 0) (fun i k _ _ a => absurd ((e i).symm.trans a) (by decide)) (fun i _ a => absurd ((e i).symm.trans a) (by decide))
  unfold okWo
  exact decide_eq_true (by omega)
/-- The moves that are left out. -/
def lveS (h : HD) (s : Bool) (m : Int) : Nat := firstS true h.n (okWo h s m)
theorem lve_ok {h : HD} (hv : h.Valid) (s : Bool) {m : Int} (hm : 0 ≤ m) : FirstOf true h.n (okWo h s m) (lveS h s m) := firstS_of hv.2.1 (by unfold HD.every; have := Nat.pow_pos (n := h.n) (show 0 < 2 by omega); omega) (okWo_all hv s hm)
theorem t74b (h : HD) (hn : h.n ≤ 7) (s : Bool) (S : Nat) (hS : S < 128) : CallP Try.prog 74 [.int .u64 S, .ptr 1 0, .ptr 2 0] (B72 h s 0) (Ret (.bool (lone h s S h.n)) (B72 h s 0)) := by
  refine (t74 h hn s S hS).use [0, 1, 2] ?_ (by (repeat' (first | exact trivial | exact rfl | exact fun _ _ => rfl | exact fun _ _ _ _ => rfl | exact Or.inl rfl | exact Or.inr rfl | refine And.intro ?_ ?_))) rfl
  (repeat' (first | exact trivial | exact fun _ => rfl | exact rfl | refine And.intro ?_ ?_))
theorem t28 (h : HD) (hv : h.Valid) (s : Bool) : CallP Try.prog 28 [HD.A h, .bool s] (HD.H h) (Ret (.tup [.int .i64 (prfS h s : Nat), .int .i64 0]) (HD.H h)) := by
  have hn7 := hv.2.1
  have c47 := t47_0 h 71 (.inr rfl) true fun hv => t71 h
  have hf := prf_ok h hn7 s
  have c72 := t72 h hn7 s 0 74 [.ptr 1 0, .ptr 2 0] (.inl ⟨rfl, rfl⟩) false (fun S => lone h s S h.n) (fun S hS => t74b h hn7 s S hS) (prfS h s) hf
  have hb : prfS h s < 128 := Nat.lt_of_lt_of_le hf.1 (Nat.pow_le_pow_right (n := 2) (by omega) hn7)
  refine callDR (E := E) E_ok Try.func28 rfl (g := 46) (k1 := 5) (k2 := 2) Try.func46 isrec46 rfl ?_
  (repeat' (first | exact trivial | exact fun _ => rfl | exact rfl | refine And.intro ?_ ?_))
  refine CallP.frameH c47 [0] (by (repeat' (first | exact trivial | exact rfl | exact fun _ _ => rfl | exact fun _ _ _ _ => rfl | exact Or.inl rfl | exact Or.inr rfl | refine And.intro ?_ ?_))) rfl ?_
  rintro ce h' (⟨hv', hc1, rfl, rfl⟩ | ⟨hv', rfl, rfl⟩ | ⟨hv', hc1, rfl, rfl⟩)
  · refine ⟨rfl, ?_⟩
    (repeat' (first | exact trivial | exact fun _ => rfl | exact rfl | refine And.intro ?_ ?_))
    refine drawP E_ok [3] pl28_3 (by kernel_rfl) ?_
    (repeat' (first | exact trivial | exact fun _ => rfl | exact rfl | refine And.intro ?_ ?_))
    all_goals refine (t56 s).use [] ?_ trivial rfl
    all_goals (repeat' (first | exact trivial | exact fun _ => rfl | exact rfl | refine And.intro ?_ ?_))
    all_goals refine (t50 h hv s).use [0] ?_ (by (repeat' (first | exact trivial | exact rfl | exact fun _ _ => rfl | exact fun _ _ _ _ => rfl | exact Or.inl rfl | exact Or.inr rfl | refine And.intro ?_ ?_))) rfl
    all_goals (repeat' (first | exact trivial | exact fun _ => rfl | exact rfl | refine And.intro ?_ ?_))
    all_goals refine (t73 h false).use [0] ?_ (by (repeat' (first | exact trivial | exact rfl | exact fun _ _ => rfl | exact fun _ _ _ _ => rfl | exact Or.inl rfl | exact Or.inr rfl | refine And.intro ?_ ?_))) rfl
    all_goals (repeat' (first | exact trivial | exact fun _ => rfl | exact rfl | refine And.intro ?_ ?_))
    all_goals refine c72.use [0, 3, 4, 2, 5, 6] ?_ (by (repeat' (first | exact trivial | exact rfl | exact fun _ _ => rfl | exact fun _ _ _ _ => rfl | exact Or.inl rfl | exact Or.inr rfl | refine And.intro ?_ ?_))) rfl
    all_goals (repeat' (first | exact trivial | exact fun _ => rfl | exact rfl | refine And.intro ?_ ?_))
    all_goals all_goals first | (first | omega | exact u0 (by omega) | exact u1 (by omega) | exact u1 ⟨by omega, by omega⟩ | exact un (by omega) | exact fun hh => hh | exact fun hh => absurd hh (by decide) | exact fun hh => congrArg not hh | exact fun hh => Bool.noConfusion (show true = false from hh) | exact fun hh => Bool.noConfusion (show false = true from hh)) | skip
    all_goals intro _
    all_goals (repeat' (first | exact trivial | exact fun _ => rfl | exact rfl | refine And.intro ?_ ?_))
    all_goals all_goals first | (first | omega | exact u0 (by omega) | exact u1 (by omega) | exact u1 ⟨by omega, by omega⟩ | exact un (by omega) | exact fun hh => hh | exact fun hh => absurd hh (by decide) | exact fun hh => congrArg not hh | exact fun hh => Bool.noConfusion (show true = false from hh) | exact fun hh => Bool.noConfusion (show false = true from hh)) | skip
    all_goals refine ⟨_, _, ⟨rfl, rfl⟩, ?_⟩
    all_goals exact ent_tau [0] ⟨by (repeat' (first | exact trivial | exact rfl | exact fun _ _ => rfl | exact fun _ _ _ _ => rfl | exact Or.inl rfl | exact Or.inr rfl | refine And.intro ?_ ?_)), by (repeat' (first | exact trivial | exact rfl | exact congrArg (SV.int .i64) (Int.natCast_succ _).symm | exact congrArg (SV.int .u64) (Int.natCast_succ _).symm | refine And.intro ?_ ?_)), rfl⟩
  · exact absurd hv hv'
  · cases hc1
theorem t78b (h : HD) (hv : h.Valid) (s : Bool) (m : Int) (S : Nat) : CallP Try.prog 78 [.int .u64 S, .ptr 2 0, .ptr 1 0, .ptr 3 0] (B72 h s m) (Ret (.bool (okWo h s m S)) (B72 h s m)) := t78 h hv s m S
theorem t31 (h : HD) (hv : h.Valid) (s : Bool) (m : Int) (hm : inB m 0 7 = true) : CallP Try.prog 31 [HD.A h, .int .i64 m, .bool s] (HD.H h) (Ret (.tup [.int .i64 (lveS h s m : Nat), .int .i64 0]) (HD.H h)) := by
  have hn7 := hv.2.1
  have c47 := t47_1 h m 77 (.inr rfl) true fun hv => by
    rw [← hm]
    exact t77 h m
  have hf := lve_ok hv s (inB_iff.1 hm).1
  have c72 := t72 h hn7 s m 78 [.ptr 2 0, .ptr 1 0, .ptr 3 0] (.inr ⟨rfl, rfl⟩) true (okWo h s m) (fun S _ => t78b h hv s m S) (lveS h s m) hf
  have hb : lveS h s m < 128 := Nat.lt_of_lt_of_le hf.1 (Nat.pow_le_pow_right (n := 2) (by omega) hn7)
  refine callDR (E := E) E_ok Try.func31 rfl (g := 46) (k1 := 5) (k2 := 2) Try.func46 isrec46 rfl ?_
  (repeat' (first | exact trivial | exact fun _ => rfl | exact rfl | refine And.intro ?_ ?_))
  refine CallP.frameH c47 [0, 2] (by (repeat' (first | exact trivial | exact rfl | exact fun _ _ => rfl | exact fun _ _ _ _ => rfl | exact Or.inl rfl | exact Or.inr rfl | refine And.intro ?_ ?_))) rfl ?_
  rintro ce h' (⟨hv', hc1, rfl, rfl⟩ | ⟨hv', rfl, rfl⟩ | ⟨hv', hc1, rfl, rfl⟩)
  · refine ⟨rfl, ?_⟩
    (repeat' (first | exact trivial | exact fun _ => rfl | exact rfl | refine And.intro ?_ ?_))
    refine drawP E_ok [4] pl31_3 (by kernel_rfl) ?_
    (repeat' (first | exact trivial | exact fun _ => rfl | exact rfl | refine And.intro ?_ ?_))
    all_goals refine (t56 s).use [] ?_ trivial rfl
    all_goals (repeat' (first | exact trivial | exact fun _ => rfl | exact rfl | refine And.intro ?_ ?_))
    all_goals refine (t50 h hv s).use [0] ?_ (by (repeat' (first | exact trivial | exact rfl | exact fun _ _ => rfl | exact fun _ _ _ _ => rfl | exact Or.inl rfl | exact Or.inr rfl | refine And.intro ?_ ?_))) rfl
    all_goals (repeat' (first | exact trivial | exact fun _ => rfl | exact rfl | refine And.intro ?_ ?_))
    all_goals refine (t73 h true).use [0] ?_ (by (repeat' (first | exact trivial | exact rfl | exact fun _ _ => rfl | exact fun _ _ _ _ => rfl | exact Or.inl rfl | exact Or.inr rfl | refine And.intro ?_ ?_))) rfl
    all_goals (repeat' (first | exact trivial | exact fun _ => rfl | exact rfl | refine And.intro ?_ ?_))
    all_goals refine c72.use [0, 4, 5, 2, 6, 7] ?_ (by (repeat' (first | exact trivial | exact rfl | exact fun _ _ => rfl | exact fun _ _ _ _ => rfl | exact Or.inl rfl | exact Or.inr rfl | refine And.intro ?_ ?_))) rfl
    all_goals (repeat' (first | exact trivial | exact fun _ => rfl | exact rfl | refine And.intro ?_ ?_))
    all_goals all_goals first | (first | omega | exact u0 (by omega) | exact u1 (by omega) | exact u1 ⟨by omega, by omega⟩ | exact un (by omega) | exact fun hh => hh | exact fun hh => absurd hh (by decide) | exact fun hh => congrArg not hh | exact fun hh => Bool.noConfusion (show true = false from hh) | exact fun hh => Bool.noConfusion (show false = true from hh)) | skip
    all_goals intro _
    all_goals (repeat' (first | exact trivial | exact fun _ => rfl | exact rfl | refine And.intro ?_ ?_))
    all_goals all_goals first | (first | omega | exact u0 (by omega) | exact u1 (by omega) | exact u1 ⟨by omega, by omega⟩ | exact un (by omega) | exact fun hh => hh | exact fun hh => absurd hh (by decide) | exact fun hh => congrArg not hh | exact fun hh => Bool.noConfusion (show true = false from hh) | exact fun hh => Bool.noConfusion (show false = true from hh)) | skip
    all_goals refine ⟨_, _, ⟨rfl, rfl⟩, ?_⟩
    all_goals exact ent_tau [0] ⟨by (repeat' (first | exact trivial | exact rfl | exact fun _ _ => rfl | exact fun _ _ _ _ => rfl | exact Or.inl rfl | exact Or.inr rfl | refine And.intro ?_ ?_)), by (repeat' (first | exact trivial | exact rfl | exact congrArg (SV.int .i64) (Int.natCast_succ _).symm | exact congrArg (SV.int .u64) (Int.natCast_succ _).symm | refine And.intro ?_ ?_)), rfl⟩
  · exact absurd hv hv'
  · cases hc1
theorem t31p (h : HD) (hv : h.Valid) (s : Bool) (m : Int) (hm : inB m 0 7 = false) : CallP Try.prog 31 [HD.A h, .int .i64 m, .bool s] (HD.H h) (Ret (.tup [.int .i64 0, .int .i64 2]) (HD.H h)) := by
  have c47 := t47_1 h m 77 (.inr rfl) false fun hv => by
    rw [← hm]
    exact t77 h m
  refine callDR (E := E) E_ok Try.func31 rfl (g := 46) (k1 := 5) (k2 := 2) Try.func46 isrec46 rfl ?_
  (repeat' (first | exact trivial | exact fun _ => rfl | exact rfl | refine And.intro ?_ ?_))
  refine CallP.frameH c47 [0, 2] (by (repeat' (first | exact trivial | exact rfl | exact fun _ _ => rfl | exact fun _ _ _ _ => rfl | exact Or.inl rfl | exact Or.inr rfl | refine And.intro ?_ ?_))) rfl ?_
  rintro ce h' (⟨hv', hc1, rfl, rfl⟩ | ⟨hv', rfl, rfl⟩ | ⟨hv', hc1, rfl, rfl⟩)
  · cases hc1
  · exact absurd hv hv'
  · refine ⟨rfl, ?_⟩
    (repeat' (first | exact trivial | exact fun _ => rfl | exact rfl | refine And.intro ?_ ?_))
    all_goals first | (first | omega | exact u0 (by omega) | exact u1 (by omega) | exact u1 ⟨by omega, by omega⟩ | exact un (by omega) | exact fun hh => hh | exact fun hh => absurd hh (by decide) | exact fun hh => congrArg not hh | exact fun hh => Bool.noConfusion (show true = false from hh) | exact fun hh => Bool.noConfusion (show false = true from hh)) | skip
    intro _
    (repeat' (first | exact trivial | exact fun _ => rfl | exact rfl | refine And.intro ?_ ?_))
    all_goals first | (first | omega | exact u0 (by omega) | exact u1 (by omega) | exact u1 ⟨by omega, by omega⟩ | exact un (by omega) | exact fun hh => hh | exact fun hh => absurd hh (by decide) | exact fun hh => congrArg not hh | exact fun hh => Bool.noConfusion (show true = false from hh) | exact fun hh => Bool.noConfusion (show false = true from hh)) | skip
    intro _
    (repeat' (first | exact trivial | exact fun _ => rfl | exact rfl | refine And.intro ?_ ?_))
    all_goals first | (first | omega | exact u0 (by omega) | exact u1 (by omega) | exact u1 ⟨by omega, by omega⟩ | exact un (by omega) | exact fun hh => hh | exact fun hh => absurd hh (by decide) | exact fun hh => congrArg not hh | exact fun hh => Bool.noConfusion (show true = false from hh) | exact fun hh => Bool.noConfusion (show false = true from hh)) | skip
    refine ⟨_, _, ⟨rfl, rfl⟩, ?_⟩
    exact ent_tau [0] ⟨by (repeat' (first | exact trivial | exact rfl | exact fun _ _ => rfl | exact Or.inl rfl | refine And.intro ?_ ?_)), by (repeat' (first | exact trivial | exact rfl | exact congrArg (SV.int .i64) (Int.natCast_succ _).symm | exact congrArg (SV.int .u64) (Int.natCast_succ _).symm | refine And.intro ?_ ?_)), rfl⟩
end Go.Proofs.Ytgofhjihkinknaa
/-
  Contracts: lists that are the same; the example.
-/
namespace Go.Proofs.Ytgofhjihkinknaa
open Go Go.Sy Kuhn
set_option linter.unusedSimpArgs false
set_option maxRecDepth 100000
set_option maxHeartbeats 4000000
attribute [local irreducible] CallP CodeP Ent YieldP
attribute [local irreducible] HD.ch maskO

def eqN (F G : Nat → Int) : Nat → Bool
  | 0 => true
  | n + 1 => eqN F G n && decide (F n = G n)
theorem eqN_iff {F G : Nat → Int} : ∀ {n : Nat}, eqN F G n = true ↔ ∀ k, k < n → F k = G k
  | 0 => ⟨fun _ k hk => absurd hk (Nat.not_lt_zero k), fun _ => rfl⟩
  | n + 1 => by
    simp only [eqN, Bool.and_eq_true, decide_eq_true_eq, eqN_iff (n := n)]
    constructor
    · rintro ⟨h1, h2⟩ k hk
      by_cases c : k = n
      · rw [c, h2]
      · exact h1 k (by omega)
    · exact fun h => ⟨fun k hk => h k (by omega), h n (by omega)⟩
theorem eqN_no {F G : Nat → Int} {n i : Nat} (hi : i < n) (hne : F i ≠ G i) : eqN F G n = false := by
  cases c : eqN F G n with
  | false => rfl
  | true => exact absurd (eqN_iff.1 c i hi) hne
theorem t30 (n m c d : Nat) (F G : Nat → Int) (hn : n ≤ 1000000) (hm : m ≤ 1000000) : CallP Try.prog 30 [.slice 0 1 0 n c, .slice 1 1 0 m d] [some (.roa 1 n fun k => [.int .i64 (F k)]), some (.roa 1 m fun k => [.int .i64 (G k)])]
    (Ret (.bool (decide (n = m) && eqN F G n)) [some (.roa 1 n fun k => [.int .i64 (F k)]), some (.roa 1 m fun k => [.int .i64 (G k)])]) := by
  obtain ⟨r, hr⟩ : ∃ r, (decide (n = m) && eqN F G n) = r := ⟨_, rfl⟩
  rw [hr]
  refine callR (E := E) E_ok Try.func30 rfl ?_
  refine And.intro ?_ (And.intro (fun hc => ?_) (fun hc => ?_))
  · (repeat' (first | exact trivial | exact fun _ => rfl | exact rfl | refine And.intro ?_ ?_))
  · have hne : n ≠ m := by
      intro e
      rw [e] at hc
      simp at hc
    have : r = false := by rw [← hr, decide_eq_false hne]; rfl
    subst this
    (repeat' (first | exact trivial | exact fun _ => rfl | exact rfl | refine And.intro ?_ ?_))
    exact ent_tau [0, 1] ⟨by (repeat' (first | exact trivial | exact rfl | exact fun _ _ => rfl | exact fun _ _ _ _ => rfl | exact Or.inl rfl | exact Or.inr rfl | refine And.intro ?_ ?_)), by (repeat' (first | exact trivial | exact rfl | exact congrArg (SV.int .i64) (Int.natCast_succ _).symm | exact congrArg (SV.int .u64) (Int.natCast_succ _).symm | refine And.intro ?_ ?_)), rfl⟩
  · have hnm : n = m := by
      have : ¬ (n ≠ m) := by
        intro e
        have : (!decide ((n : Int) = (m : Int))) = true := by
          rw [decide_eq_false (by omega)]
          rfl
        exact absurd (hc.symm.trans this) (by decide)
      omega
    subst hnm
    rw [decide_eq_true rfl, Bool.true_and] at hr
    (repeat' (first | exact trivial | exact fun _ => rfl | exact rfl | refine And.intro ?_ ?_))
    refine loopP E_ok [0, 1] (fun i : Nat => [(5, .int .i64 i)]) (fun _ H => H) (fun i => i ≤ n ∧ ∀ k, k < i → F k = G k) (fun i => n - i) 0 ⟨Nat.zero_le _, fun k hk => absurd hk (Nat.not_lt_zero k)⟩ ?_ ?_
    · exact ent_tau [0, 1] ⟨by (repeat' (first | exact trivial | exact rfl | exact fun _ _ => rfl | exact fun _ _ _ _ => rfl | exact Or.inl rfl | exact Or.inr rfl | refine And.intro ?_ ?_)), by (repeat' (first | exact trivial | exact rfl | exact congrArg (SV.int .i64) (Int.natCast_succ _).symm | exact congrArg (SV.int .u64) (Int.natCast_succ _).symm | refine And.intro ?_ ?_)), rfl⟩
    rintro i ⟨hi, hall⟩
    have ei := z1 i
    refine And.intro ?_ (And.intro (fun hlt => ?_) (fun hlt => ?_))
    · (repeat' (first | exact trivial | exact fun _ => rfl | exact rfl | refine And.intro ?_ ?_))
    · have hlt' : i < n := by
        have := of_decide_eq_true hlt
        omega
      refine And.intro trivial ?_
      refine drawP E_ok [] pl30_6 (by kernel_rfl) ?_
      (repeat' (first | exact trivial | exact fun _ => rfl | exact rfl | refine And.intro ?_ ?_))
      all_goals first | (first | omega | exact u0 (by omega) | exact u1 (by omega) | exact u1 ⟨by omega, by omega⟩ | exact un (by omega) | exact fun hh => hh | exact fun hh => absurd hh (by decide) | exact fun hh => congrArg not hh | exact fun hh => Bool.noConfusion (show true = false from hh) | exact fun hh => Bool.noConfusion (show false = true from hh)) | skip
      · intro hx
        have hne : F i ≠ G i := by
          intro e
          have hx2 : (!decide (F (0 + ((i : Nat) : Int).toNat) = G (0 + ((i : Nat) : Int).toNat))) = true := hx
          rw [ei, decide_eq_true e] at hx2
          cases hx2
        rw [eqN_no hlt' hne] at hr
        subst hr
        (repeat' (first | exact trivial | exact fun _ => rfl | exact rfl | refine And.intro ?_ ?_))
        exact ent_tau [0, 1] ⟨by (repeat' (first | exact trivial | exact rfl | exact fun _ _ => rfl | exact fun _ _ _ _ => rfl | exact Or.inl rfl | exact Or.inr rfl | refine And.intro ?_ ?_)), by (repeat' (first | exact trivial | exact rfl | exact congrArg (SV.int .i64) (Int.natCast_succ _).symm | exact congrArg (SV.int .u64) (Int.natCast_succ _).symm | refine And.intro ?_ ?_)), rfl⟩
      · intro hx
        have he : F i = G i := by
          have hx2 : (!decide (F (0 + ((i : Nat) : Int).toNat) = G (0 + ((i : Nat) : Int).toNat))) = false := hx
          by_cases e : F i = G i
          · exact e
          · rw [ei, decide_eq_false e] at hx2
            cases hx2
        (repeat' (first | exact trivial | exact fun _ => rfl | exact rfl | refine And.intro ?_ ?_))
        all_goals first | (first | omega | exact u0 (by omega) | exact u1 (by omega) | exact u1 ⟨by omega, by omega⟩ | exact un (by omega) | exact fun hh => hh | exact fun hh => absurd hh (by decide) | exact fun hh => congrArg not hh | exact fun hh => Bool.noConfusion (show true = false from hh) | exact fun hh => Bool.noConfusion (show false = true from hh)) | skip
        refine ⟨i + 1, ⟨hlt', fun k hk => ?_⟩, by omega, ?_⟩
        · by_cases c : k = i
          · rw [c, he]
          · exact hall k (by omega)
        exact ent_tau [0, 1] ⟨by (repeat' (first | exact trivial | exact rfl | exact fun _ _ => rfl | exact fun _ _ _ _ => rfl | exact Or.inl rfl | exact Or.inr rfl | refine And.intro ?_ ?_)), by (repeat' (first | exact trivial | exact rfl | exact congrArg (SV.int .i64) (Int.natCast_succ _).symm | exact congrArg (SV.int .u64) (Int.natCast_succ _).symm | refine And.intro ?_ ?_)), rfl⟩
    · have e : i = n := by
        have := of_decide_eq_false hlt
        omega
      subst e
      rw [eqN_iff.2 hall] at hr
      subst hr
      (repeat' (first | exact trivial | exact fun _ => rfl | exact rfl | refine And.intro ?_ ?_))
      exact ent_tau [0, 1] ⟨by (repeat' (first | exact trivial | exact rfl | exact fun _ _ => rfl | exact fun _ _ _ _ => rfl | exact Or.inl rfl | exact Or.inr rfl | refine And.intro ?_ ?_)), by (repeat' (first | exact trivial | exact rfl | exact congrArg (SV.int .i64) (Int.natCast_succ _).symm | exact congrArg (SV.int .u64) (Int.natCast_succ _).symm | refine And.intro ?_ ?_)), rfl⟩
theorem t24 (n m c d : Nat) (F F' G G' : Nat → Int) (hn : n ≤ 1000000) (hm : m ≤ 1000000) : CallP Try.prog 24 [.slice 0 2 0 n c, .slice 1 2 0 m d] [some (.roa 2 n fun k => [.int .i64 (F k), .int .i64 (F' k)]), some (.roa 2 m fun k => [.int .i64 (G k), .int .i64 (G' k)])]
    (Ret (.bool (decide (n = m) && (eqN F G n && eqN F' G' n))) [some (.roa 2 n fun k => [.int .i64 (F k), .int .i64 (F' k)]), some (.roa 2 m fun k => [.int .i64 (G k), .int .i64 (G' k)])]) := by
  obtain ⟨r, hr⟩ : ∃ r, (decide (n = m) && (eqN F G n && eqN F' G' n)) = r := ⟨_, rfl⟩
  rw [hr]
  refine callR (E := E) E_ok Try.func24 rfl ?_
  refine And.intro ?_ (And.intro (fun hc => ?_) (fun hc => ?_))
  · (repeat' (first | exact trivial | exact fun _ => rfl | exact rfl | refine And.intro ?_ ?_))
  · have hne : n ≠ m := by
      intro e
      rw [e] at hc
      simp at hc
    have : r = false := by rw [← hr, decide_eq_false hne]; rfl
    subst this
    (repeat' (first | exact trivial | exact fun _ => rfl | exact rfl | refine And.intro ?_ ?_))
    exact ent_tau [0, 1] ⟨by (repeat' (first | exact trivial | exact rfl | exact fun _ _ => rfl | exact fun _ _ _ _ => rfl | exact Or.inl rfl | exact Or.inr rfl | refine And.intro ?_ ?_)), by (repeat' (first | exact trivial | exact rfl | exact congrArg (SV.int .i64) (Int.natCast_succ _).symm | exact congrArg (SV.int .u64) (Int.natCast_succ _).symm | refine And.intro ?_ ?_)), rfl⟩
  · have hnm : n = m := by
      have : ¬ (n ≠ m) := by
        intro e
        have : (!decide ((n : Int) = (m : Int))) = true := by
          rw [decide_eq_false (by omega)]
          rfl
        exact absurd (hc.symm.trans this) (by decide)
      omega
    subst hnm
    rw [decide_eq_true rfl, Bool.true_and] at hr
    (repeat' (first | exact trivial | exact fun _ => rfl | exact rfl | refine And.intro ?_ ?_))
    refine loopP E_ok [0, 1] (fun i : Nat => [(5, .int .i64 i)]) (fun _ H => H) (fun i => i ≤ n ∧ ∀ k, k < i → F k = G k ∧ F' k = G' k) (fun i => n - i) 0 ⟨Nat.zero_le _, fun k hk => absurd hk (Nat.not_lt_zero k)⟩ ?_ ?_
    · exact ent_tau [0, 1] ⟨by (repeat' (first | exact trivial | exact rfl | exact fun _ _ => rfl | exact fun _ _ _ _ => rfl | exact Or.inl rfl | exact Or.inr rfl | refine And.intro ?_ ?_)), by (repeat' (first | exact trivial | exact rfl | exact congrArg (SV.int .i64) (Int.natCast_succ _).symm | exact congrArg (SV.int .u64) (Int.natCast_succ _).symm | refine And.intro ?_ ?_)), rfl⟩
    rintro i ⟨hi, hall⟩
    have ei := z1 i
    refine And.intro ?_ (And.intro (fun hlt => ?_) (fun hlt => ?_))
    · (repeat' (first | exact trivial | exact fun _ => rfl | exact rfl | refine And.intro ?_ ?_))
    · have hlt' : i < n := by
        have := of_decide_eq_true hlt
        omega
      refine And.intro trivial ?_
      refine drawP E_ok [] pl24_6 (by kernel_rfl) ?_
      (repeat' (first | exact trivial | exact fun _ => rfl | exact rfl | refine And.intro ?_ ?_))
      all_goals first | (first | omega | exact u0 (by omega) | exact u1 (by omega) | exact u1 ⟨by omega, by omega⟩ | exact un (by omega) | exact fun hh => hh | exact fun hh => absurd hh (by decide) | exact fun hh => congrArg not hh | exact fun hh => Bool.noConfusion (show true = false from hh) | exact fun hh => Bool.noConfusion (show false = true from hh)) | skip
      · intro hx
        have hne : (eqN F G n && eqN F' G' n) = false := by
          have hx2 : (!decide ([F (0 + ((i : Nat) : Int).toNat), F' (0 + ((i : Nat) : Int).toNat)] = [G (0 + ((i : Nat) : Int).toNat), G' (0 + ((i : Nat) : Int).toNat)])) = true := hx
          rw [ei] at hx2
          by_cases e : F i = G i
          · have e2 : F' i ≠ G' i := by
              intro e2
              rw [e, e2, decide_eq_true rfl] at hx2
              cases hx2
            rw [eqN_no hlt' e2, Bool.and_false]
          · rw [eqN_no hlt' e, Bool.false_and]
        rw [hne] at hr
        subst hr
        (repeat' (first | exact trivial | exact fun _ => rfl | exact rfl | refine And.intro ?_ ?_))
        exact ent_tau [0, 1] ⟨by (repeat' (first | exact trivial | exact rfl | exact fun _ _ => rfl | exact fun _ _ _ _ => rfl | exact Or.inl rfl | exact Or.inr rfl | refine And.intro ?_ ?_)), by (repeat' (first | exact trivial | exact rfl | exact congrArg (SV.int .i64) (Int.natCast_succ _).symm | exact congrArg (SV.int .u64) (Int.natCast_succ _).symm | refine And.intro ?_ ?_)), rfl⟩
      · intro hx
        have he : F i = G i ∧ F' i = G' i := by
          have hx2 : (!decide ([F (0 + ((i : Nat) : Int).toNat), F' (0 + ((i : Nat) : Int).toNat)] = [G (0 + ((i : Nat) : Int).toNat), G' (0 + ((i : Nat) : Int).toNat)])) = false := hx
          by_cases e : [F i, F' i] = [G i, G' i]
          · simp only [List.cons.injEq, and_true] at e
            exact e
          · rw [ei, decide_eq_false e] at hx2
            cases hx2
        (repeat' (first | exact trivial | exact fun _ => rfl | exact rfl | refine And.intro ?_ ?_))
        all_goals first | (first | omega | exact u0 (by omega) | exact u1 (by omega) | exact u1 ⟨by omega, by omega⟩ | exact un (by omega) | exact fun hh => hh | exact fun hh => absurd hh (by decide) | exact fun hh => congrArg not hh | exact fun hh => Bool.noConfusion (show true = false from hh) | exact fun hh => Bool.noConfusion (show false = true from hh)) | skip
        refine ⟨i + 1, ⟨hlt', fun k hk => ?_⟩, by omega, ?_⟩
        · by_cases c : k = i
          · rw [c]
            exact he
          · exact hall k (by omega)
        exact ent_tau [0, 1] ⟨by (repeat' (first | exact trivial | exact rfl | exact fun _ _ => rfl | exact fun _ _ _ _ => rfl | exact Or.inl rfl | exact Or.inr rfl | refine And.intro ?_ ?_)), by (repeat' (first | exact trivial | exact rfl | exact congrArg (SV.int .i64) (Int.natCast_succ _).symm | exact congrArg (SV.int .u64) (Int.natCast_succ _).symm | refine And.intro ?_ ?_)), rfl⟩
    · have e : i = n := by
        have := of_decide_eq_false hlt
        omega
      subst e
      rw [eqN_iff.2 fun k hk => (hall k hk).1, eqN_iff.2 fun k hk => (hall k hk).2, Bool.true_and] at hr
      subst hr
      (repeat' (first | exact trivial | exact fun _ => rfl | exact rfl | refine And.intro ?_ ?_))
      exact ent_tau [0, 1] ⟨by (repeat' (first | exact trivial | exact rfl | exact fun _ _ => rfl | exact fun _ _ _ _ => rfl | exact Or.inl rfl | exact Or.inr rfl | refine And.intro ?_ ?_)), by (repeat' (first | exact trivial | exact rfl | exact congrArg (SV.int .i64) (Int.natCast_succ _).symm | exact congrArg (SV.int .u64) (Int.natCast_succ _).symm | refine And.intro ?_ ?_)), rfl⟩
end Go.Proofs.Ytgofhjihkinknaa
/-
  Contracts: Busy.
-/
namespace Go.Proofs.Ytgofhjihkinknaa
open Go Go.Sy Kuhn
set_option linter.unusedSimpArgs false
set_option maxRecDepth 100000
set_option maxHeartbeats 4000000
attribute [local irreducible] CallP CodeP Ent YieldP
attribute [local irreducible] HD.ch maskO

/-- How many of the first moves are under way. -/
def bz (h : HD) (s : Bool) (m : Int) : Nat → Int
  | 0 => 0
  | i + 1 => bz h s m i + if h.at' i ≤ m ∧ m < h.at' i + h.takes s i then 1 else 0
theorem bz_le (h : HD) (s : Bool) (m : Int) : ∀ i : Nat, 0 ≤ bz h s m i ∧ bz h s m i ≤ i
  | 0 => ⟨Int.le_refl _, Int.le_refl _⟩
  | i + 1 => by
    have := bz_le h s m i
    rw [bz]
    split <;> omega
open Classical in
/-- How many moves are under way, and the error. -/
noncomputable def HD.bus (h : HD) (m : Int) : Int × Int × Int := if h.Valid then (if inB m 0 220 = true then (bz h false m h.n, bz h true m h.n, 0) else (0, 0, 2)) else (0, 0, 1)
theorem t63 (h : HD) (hv : h.Valid) (s : Bool) (m : Int) (hm : 0 ≤ m ∧ m ≤ 220) : CallP Try.prog 63 [tr s, .ptr 1 0, .ptr 2 0] (HD.H h ++ [some (.roc (bc h)), some (.roc [.int .i64 m])])
    (Ret (.int .i64 (bz h s m h.n)) (HD.H h ++ [some (.roc (bc h)), some (.roc [.int .i64 m])])) := by
  have hn := hv.2.1
  cases s with
  | true =>
    refine callR (E := E) E_ok Try.func63 rfl ?_
    (repeat' (first | exact trivial | exact fun _ => rfl | exact rfl | refine And.intro ?_ ?_))
    refine loopP E_ok [0, 1, 2, 9, 10] (fun i : Nat => [(4, .int .i64 (bz h true m i)), (11, .int .i64 i)]) (fun _ H => H) (fun i => i ≤ h.n) (fun i => h.n - i) 0 (Nat.zero_le _) ?_ ?_
    · exact ent_tau [0, 1, 2] ⟨by (repeat' (first | exact trivial | exact rfl | exact fun _ _ => rfl | exact Or.inl rfl | refine And.intro ?_ ?_)), by (repeat' (first | exact trivial | exact rfl | exact congrArg (SV.int .i64) (Int.natCast_succ _).symm | exact congrArg (SV.int .u64) (Int.natCast_succ _).symm | refine And.intro ?_ ?_)), rfl⟩
    rintro i hi
    have ei := z1 i
    refine And.intro ?_ (And.intro (fun hc => ?_) (fun hc => ?_))
    · (repeat' (first | exact trivial | exact fun _ => rfl | exact rfl | refine And.intro ?_ ?_))
    · have hlt : i < h.n := by
        have := of_decide_eq_true hc
        omega
      have mi := hv.2.2 (0 + ((i : Nat) : Int).toNat) (by omega)
      unfold HD.okMv at mi
      have hb := bz_le h true m i
      have bs : bz h true m (i + 1) = bz h true m i + if h.at' i ≤ m ∧ m < h.at' i + h.takes true i then 1 else 0 := rfl
      have ts := HD.takes_le hv true hlt
      (repeat' (first | exact trivial | exact fun _ => rfl | exact rfl | refine And.intro ?_ ?_))
      all_goals first | (first | omega | exact u0 (by omega) | exact u1 (by omega) | exact u1 ⟨by omega, by omega⟩ | exact un (by omega) | exact fun hh => hh | exact fun hh => absurd hh (by decide) | exact fun hh => congrArg not hh | exact fun hh => Bool.noConfusion (show true = false from hh) | exact fun hh => Bool.noConfusion (show false = true from hh)) | skip
      refine drawP E_ok [1, 2, 3] pl63_4 (by kernel_rfl) ?_
      refine And.intro (And.intro ?_ (And.intro (fun hg => ?_) (fun hg => ?_))) trivial
      · (repeat' (first | exact trivial | exact fun _ => rfl | exact rfl | refine And.intro ?_ ?_))
        all_goals (first | omega | exact u0 (by omega) | exact u1 (by omega) | exact u1 ⟨by omega, by omega⟩ | exact un (by omega) | exact fun hh => hh | exact fun hh => absurd hh (by decide) | exact fun hh => congrArg not hh | exact fun hh => Bool.noConfusion (show true = false from hh) | exact fun hh => Bool.noConfusion (show false = true from hh))
      · have hg2 : h.at' i ≤ m := by simpa [gB, wB, ei] using hg
        refine (t120 _ _ _ _).use [] ?_ trivial rfl
        (repeat' (first | exact trivial | exact fun _ => rfl | exact rfl | refine And.intro ?_ ?_))
        all_goals first | (first | omega | exact u0 (by omega) | exact u1 (by omega) | exact u1 ⟨by omega, by omega⟩ | exact un (by omega) | exact fun hh => hh | exact fun hh => absurd hh (by decide) | exact fun hh => congrArg not hh | exact fun hh => Bool.noConfusion (show true = false from hh) | exact fun hh => Bool.noConfusion (show false = true from hh)) | exact fun _ => hg | exact fun _ _ => hg | (intro _; exact hg) | skip
        · intro hx
          have hx2 : m < h.at' i + h.takes true i := by simpa [ei, hg2, HD.takes] using hx
          rw [if_pos ⟨hg2, hx2⟩] at bs
          (repeat' (first | exact trivial | exact fun _ => rfl | exact rfl | refine And.intro ?_ ?_))
          all_goals first | (first | omega | exact u0 (by omega) | exact u1 (by omega) | exact u1 ⟨by omega, by omega⟩ | exact un (by omega) | exact fun hh => hh | exact fun hh => absurd hh (by decide) | exact fun hh => congrArg not hh | exact fun hh => Bool.noConfusion (show true = false from hh) | exact fun hh => Bool.noConfusion (show false = true from hh)) | skip
          refine ⟨i + 1, hlt, by omega, ?_⟩
          refine ent_tau [0, 1, 2] ⟨by (repeat' (first | exact trivial | exact rfl | exact fun _ _ => rfl | exact Or.inl rfl | refine And.intro ?_ ?_)), ?_, rfl⟩
          (repeat' (first | exact trivial | exact rfl | exact congrArg (SV.int .i64) (Int.natCast_succ _).symm | exact congrArg (SV.int .u64) (Int.natCast_succ _).symm | refine And.intro ?_ ?_))
          exact congrArg (SV.int .i64) bs.symm
        · intro hx
          have hx2 : ¬ m < h.at' i + h.takes true i := by simpa [ei, hg2, HD.takes] using hx
          rw [if_neg (fun h => hx2 h.2), Int.add_zero] at bs
          (repeat' (first | exact trivial | exact fun _ => rfl | exact rfl | refine And.intro ?_ ?_))
          all_goals first | (first | omega | exact u0 (by omega) | exact u1 (by omega) | exact u1 ⟨by omega, by omega⟩ | exact un (by omega) | exact fun hh => hh | exact fun hh => absurd hh (by decide) | exact fun hh => congrArg not hh | exact fun hh => Bool.noConfusion (show true = false from hh) | exact fun hh => Bool.noConfusion (show false = true from hh)) | skip
          refine ⟨i + 1, hlt, by omega, ?_⟩
          refine ent_tau [0, 1, 2] ⟨by (repeat' (first | exact trivial | exact rfl | exact fun _ _ => rfl | exact Or.inl rfl | refine And.intro ?_ ?_)), ?_, rfl⟩
          (repeat' (first | exact trivial | exact rfl | exact congrArg (SV.int .i64) (Int.natCast_succ _).symm | exact congrArg (SV.int .u64) (Int.natCast_succ _).symm | refine And.intro ?_ ?_))
          exact congrArg (SV.int .i64) bs.symm
      · have hg2 : ¬ h.at' i ≤ m := by simpa [gB, wB, ei] using hg
        rw [if_neg (fun h => hg2 h.1), Int.add_zero] at bs
        (repeat' (first | exact trivial | exact fun _ => rfl | exact rfl | refine And.intro ?_ ?_))
        all_goals first | (first | omega | exact u0 (by omega) | exact u1 (by omega) | exact u1 ⟨by omega, by omega⟩ | exact un (by omega) | exact fun hh => hh | exact fun hh => absurd hh (by decide) | exact fun hh => congrArg not hh | exact fun hh => Bool.noConfusion (show true = false from hh) | exact fun hh => Bool.noConfusion (show false = true from hh)) | exact fun hh => absurd (hg.symm.trans hh) (by decide) | exact fun hh => absurd (hh.symm.trans hg) (by decide) | skip
        all_goals intro hx
        all_goals first | (exfalso; revert hx; simp [ei, hg2]; done) | skip
        (repeat' (first | exact trivial | exact fun _ => rfl | exact rfl | refine And.intro ?_ ?_))
        all_goals first | (first | omega | exact u0 (by omega) | exact u1 (by omega) | exact u1 ⟨by omega, by omega⟩ | exact un (by omega) | exact fun hh => hh | exact fun hh => absurd hh (by decide) | exact fun hh => congrArg not hh | exact fun hh => Bool.noConfusion (show true = false from hh) | exact fun hh => Bool.noConfusion (show false = true from hh)) | skip
        refine ⟨i + 1, hlt, by omega, ?_⟩
        refine ent_tau [0, 1, 2] ⟨by (repeat' (first | exact trivial | exact rfl | exact fun _ _ => rfl | exact Or.inl rfl | refine And.intro ?_ ?_)), ?_, rfl⟩
        (repeat' (first | exact trivial | exact rfl | exact congrArg (SV.int .i64) (Int.natCast_succ _).symm | exact congrArg (SV.int .u64) (Int.natCast_succ _).symm | refine And.intro ?_ ?_))
        exact congrArg (SV.int .i64) bs.symm
    · have e : i = h.n := by
        have := of_decide_eq_false hc
        omega
      subst e
      (repeat' (first | exact trivial | exact fun _ => rfl | exact rfl | refine And.intro ?_ ?_))
      exact ent_tau [0, 1, 2] ⟨by (repeat' (first | exact trivial | exact rfl | exact fun _ _ => rfl | exact Or.inl rfl | refine And.intro ?_ ?_)), by (repeat' (first | exact trivial | exact rfl | exact congrArg (SV.int .i64) (Int.natCast_succ _).symm | exact congrArg (SV.int .u64) (Int.natCast_succ _).symm | refine And.intro ?_ ?_)), rfl⟩
  | false =>
    refine callR (E := E) E_ok Try.func63 rfl ?_
    (repeat' (first | exact trivial | exact fun _ => rfl | exact rfl | refine And.intro ?_ ?_))
    refine loopP E_ok [0, 1, 2, 9, 10] (fun i : Nat => [(4, .int .i64 (bz h false m i)), (11, .int .i64 i)]) (fun _ H => H) (fun i => i ≤ h.n) (fun i => h.n - i) 0 (Nat.zero_le _) ?_ ?_
    · exact ent_tau [0, 1, 2] ⟨by (repeat' (first | exact trivial | exact rfl | exact fun _ _ => rfl | exact Or.inl rfl | refine And.intro ?_ ?_)), by (repeat' (first | exact trivial | exact rfl | exact congrArg (SV.int .i64) (Int.natCast_succ _).symm | exact congrArg (SV.int .u64) (Int.natCast_succ _).symm | refine And.intro ?_ ?_)), rfl⟩
    rintro i hi
    have ei := z1 i
    refine And.intro ?_ (And.intro (fun hc => ?_) (fun hc => ?_))
    · (repeat' (first | exact trivial | exact fun _ => rfl | exact rfl | refine And.intro ?_ ?_))
    · have hlt : i < h.n := by
        have := of_decide_eq_true hc
        omega
      have mi := hv.2.2 (0 + ((i : Nat) : Int).toNat) (by omega)
      unfold HD.okMv at mi
      have hb := bz_le h false m i
      have bs : bz h false m (i + 1) = bz h false m i + if h.at' i ≤ m ∧ m < h.at' i + h.takes false i then 1 else 0 := rfl
      have ts := HD.takes_le hv false hlt
      (repeat' (first | exact trivial | exact fun _ => rfl | exact rfl | refine And.intro ?_ ?_))
      all_goals first | (first | omega | exact u0 (by omega) | exact u1 (by omega) | exact u1 ⟨by omega, by omega⟩ | exact un (by omega) | exact fun hh => hh | exact fun hh => absurd hh (by decide) | exact fun hh => congrArg not hh | exact fun hh => Bool.noConfusion (show true = false from hh) | exact fun hh => Bool.noConfusion (show false = true from hh)) | skip
      refine drawP E_ok [1, 2, 3] pl63_4 (by kernel_rfl) ?_
      refine And.intro (And.intro ?_ (And.intro (fun hg => ?_) (fun hg => ?_))) trivial
      · (repeat' (first | exact trivial | exact fun _ => rfl | exact rfl | refine And.intro ?_ ?_))
        all_goals (first | omega | exact u0 (by omega) | exact u1 (by omega) | exact u1 ⟨by omega, by omega⟩ | exact un (by omega) | exact fun hh => hh | exact fun hh => absurd hh (by decide) | exact fun hh => congrArg not hh | exact fun hh => Bool.noConfusion (show true = false from hh) | exact fun hh => Bool.noConfusion (show false = true from hh))
      · have hg2 : h.at' i ≤ m := by simpa [gB, wB, ei] using hg
        refine (t121 _ _ _ _).use [] ?_ trivial rfl
        (repeat' (first | exact trivial | exact fun _ => rfl | exact rfl | refine And.intro ?_ ?_))
        all_goals first | (first | omega | exact u0 (by omega) | exact u1 (by omega) | exact u1 ⟨by omega, by omega⟩ | exact un (by omega) | exact fun hh => hh | exact fun hh => absurd hh (by decide) | exact fun hh => congrArg not hh | exact fun hh => Bool.noConfusion (show true = false from hh) | exact fun hh => Bool.noConfusion (show false = true from hh)) | exact fun _ => hg | exact fun _ _ => hg | (intro _; exact hg) | skip
        · intro hx
          have hx2 : m < h.at' i + h.takes false i := by simpa [ei, hg2, HD.takes] using hx
          rw [if_pos ⟨hg2, hx2⟩] at bs
          (repeat' (first | exact trivial | exact fun _ => rfl | exact rfl | refine And.intro ?_ ?_))
          all_goals first | (first | omega | exact u0 (by omega) | exact u1 (by omega) | exact u1 ⟨by omega, by omega⟩ | exact un (by omega) | exact fun hh => hh | exact fun hh => absurd hh (by decide) | exact fun hh => congrArg not hh | exact fun hh => Bool.noConfusion (show true = false from hh) | exact fun hh => Bool.noConfusion (show false = true from hh)) | skip
          refine ⟨i + 1, hlt, by omega, ?_⟩
          refine ent_tau [0, 1, 2] ⟨by (repeat' (first | exact trivial | exact rfl | exact fun _ _ => rfl | exact Or.inl rfl | refine And.intro ?_ ?_)), ?_, rfl⟩
          (repeat' (first | exact trivial | exact rfl | exact congrArg (SV.int .i64) (Int.natCast_succ _).symm | exact congrArg (SV.int .u64) (Int.natCast_succ _).symm | refine And.intro ?_ ?_))
          exact congrArg (SV.int .i64) bs.symm
        · intro hx
          have hx2 : ¬ m < h.at' i + h.takes false i := by simpa [ei, hg2, HD.takes] using hx
          rw [if_neg (fun h => hx2 h.2), Int.add_zero] at bs
          (repeat' (first | exact trivial | exact fun _ => rfl | exact rfl | refine And.intro ?_ ?_))
          all_goals first | (first | omega | exact u0 (by omega) | exact u1 (by omega) | exact u1 ⟨by omega, by omega⟩ | exact un (by omega) | exact fun hh => hh | exact fun hh => absurd hh (by decide) | exact fun hh => congrArg not hh | exact fun hh => Bool.noConfusion (show true = false from hh) | exact fun hh => Bool.noConfusion (show false = true from hh)) | skip
          refine ⟨i + 1, hlt, by omega, ?_⟩
          refine ent_tau [0, 1, 2] ⟨by (repeat' (first | exact trivial | exact rfl | exact fun _ _ => rfl | exact Or.inl rfl | refine And.intro ?_ ?_)), ?_, rfl⟩
          (repeat' (first | exact trivial | exact rfl | exact congrArg (SV.int .i64) (Int.natCast_succ _).symm | exact congrArg (SV.int .u64) (Int.natCast_succ _).symm | refine And.intro ?_ ?_))
          exact congrArg (SV.int .i64) bs.symm
      · have hg2 : ¬ h.at' i ≤ m := by simpa [gB, wB, ei] using hg
        rw [if_neg (fun h => hg2 h.1), Int.add_zero] at bs
        (repeat' (first | exact trivial | exact fun _ => rfl | exact rfl | refine And.intro ?_ ?_))
        all_goals first | (first | omega | exact u0 (by omega) | exact u1 (by omega) | exact u1 ⟨by omega, by omega⟩ | exact un (by omega) | exact fun hh => hh | exact fun hh => absurd hh (by decide) | exact fun hh => congrArg not hh | exact fun hh => Bool.noConfusion (show true = false from hh) | exact fun hh => Bool.noConfusion (show false = true from hh)) | exact fun hh => absurd (hg.symm.trans hh) (by decide) | exact fun hh => absurd (hh.symm.trans hg) (by decide) | skip
        all_goals intro hx
        all_goals first | (exfalso; revert hx; simp [ei, hg2]; done) | skip
        (repeat' (first | exact trivial | exact fun _ => rfl | exact rfl | refine And.intro ?_ ?_))
        all_goals first | (first | omega | exact u0 (by omega) | exact u1 (by omega) | exact u1 ⟨by omega, by omega⟩ | exact un (by omega) | exact fun hh => hh | exact fun hh => absurd hh (by decide) | exact fun hh => congrArg not hh | exact fun hh => Bool.noConfusion (show true = false from hh) | exact fun hh => Bool.noConfusion (show false = true from hh)) | skip
        refine ⟨i + 1, hlt, by omega, ?_⟩
        refine ent_tau [0, 1, 2] ⟨by (repeat' (first | exact trivial | exact rfl | exact fun _ _ => rfl | exact Or.inl rfl | refine And.intro ?_ ?_)), ?_, rfl⟩
        (repeat' (first | exact trivial | exact rfl | exact congrArg (SV.int .i64) (Int.natCast_succ _).symm | exact congrArg (SV.int .u64) (Int.natCast_succ _).symm | refine And.intro ?_ ?_))
        exact congrArg (SV.int .i64) bs.symm
    · have e : i = h.n := by
        have := of_decide_eq_false hc
        omega
      subst e
      (repeat' (first | exact trivial | exact fun _ => rfl | exact rfl | refine And.intro ?_ ?_))
      exact ent_tau [0, 1, 2] ⟨by (repeat' (first | exact trivial | exact rfl | exact fun _ _ => rfl | exact Or.inl rfl | refine And.intro ?_ ?_)), by (repeat' (first | exact trivial | exact rfl | exact congrArg (SV.int .i64) (Int.natCast_succ _).symm | exact congrArg (SV.int .u64) (Int.natCast_succ _).symm | refine And.intro ?_ ?_)), rfl⟩
theorem t22 (h : HD) (m : Int) : CallP Try.prog 22 [HD.A h, .int .i64 m] (HD.H h) (Ret (.tup [.agg [.int .i64 (HD.bus h m).1, .int .i64 (HD.bus h m).2.1], .int .i64 (HD.bus h m).2.2]) (HD.H h)) := by
  obtain ⟨c, hc⟩ : ∃ c, inB m 0 220 = c := ⟨_, rfl⟩
  have c47 := t47_1 h m 61 (.inl rfl) c fun hv => by
    rw [← hc]
    exact t61 h m
  obtain ⟨r, hr⟩ : ∃ r, HD.bus h m = r := ⟨_, rfl⟩
  rw [hr]
  refine callDR (E := E) E_ok Try.func22 rfl (g := 46) (k1 := 5) (k2 := 2) Try.func46 isrec46 rfl ?_
  (repeat' (first | exact trivial | exact fun _ => rfl | exact rfl | refine And.intro ?_ ?_))
  refine CallP.frameH c47 [0, 2] (by (repeat' (first | exact trivial | exact rfl | exact fun _ _ => rfl | exact fun _ _ _ _ => rfl | exact Or.inl rfl | exact Or.inr rfl | refine And.intro ?_ ?_))) rfl ?_
  rintro ce h' (⟨hv, hc1, rfl, rfl⟩ | ⟨hv, rfl, rfl⟩ | ⟨hv, hc1, rfl, rfl⟩)
  · refine ⟨rfl, ?_⟩
    rw [hc1] at hc
    have er : HD.bus h m = (bz h false m h.n, bz h true m h.n, 0) := by
      unfold HD.bus
      rw [if_pos hv, if_pos hc]
    rw [hr] at er
    subst er
    have hm := inB_iff.1 hc
    (repeat' (first | exact trivial | exact fun _ => rfl | exact rfl | refine And.intro ?_ ?_))
    refine (t63 h hv false m hm).use [0, 5, 2] ?_ (by (repeat' (first | exact trivial | exact rfl | exact fun _ _ => rfl | exact fun _ _ _ _ => rfl | exact Or.inl rfl | exact Or.inr rfl | refine And.intro ?_ ?_))) rfl
    (repeat' (first | exact trivial | exact fun _ => rfl | exact rfl | refine And.intro ?_ ?_))
    refine (t63 h hv true m hm).use [0, 5, 2] ?_ (by (repeat' (first | exact trivial | exact rfl | exact fun _ _ => rfl | exact fun _ _ _ _ => rfl | exact Or.inl rfl | exact Or.inr rfl | refine And.intro ?_ ?_))) rfl
    (repeat' (first | exact trivial | exact fun _ => rfl | exact rfl | refine And.intro ?_ ?_))
    all_goals first | (first | omega | exact u0 (by omega) | exact u1 (by omega) | exact u1 ⟨by omega, by omega⟩ | exact un (by omega) | exact fun hh => hh | exact fun hh => absurd hh (by decide) | exact fun hh => congrArg not hh | exact fun hh => Bool.noConfusion (show true = false from hh) | exact fun hh => Bool.noConfusion (show false = true from hh)) | skip
    intro _
    (repeat' (first | exact trivial | exact fun _ => rfl | exact rfl | refine And.intro ?_ ?_))
    all_goals first | (first | omega | exact u0 (by omega) | exact u1 (by omega) | exact u1 ⟨by omega, by omega⟩ | exact un (by omega) | exact fun hh => hh | exact fun hh => absurd hh (by decide) | exact fun hh => congrArg not hh | exact fun hh => Bool.noConfusion (show true = false from hh) | exact fun hh => Bool.noConfusion (show false = true from hh)) | skip
    refine ⟨_, _, ⟨rfl, rfl⟩, ?_⟩
    exact ent_tau [0] ⟨by (repeat' (first | exact trivial | exact rfl | exact fun _ _ => rfl | exact Or.inl rfl | refine And.intro ?_ ?_)), by (repeat' (first | exact trivial | exact rfl | exact congrArg (SV.int .i64) (Int.natCast_succ _).symm | exact congrArg (SV.int .u64) (Int.natCast_succ _).symm | refine And.intro ?_ ?_)), rfl⟩
  · refine ⟨rfl, ?_⟩
    have er : HD.bus h m = (0, 0, 1) := if_neg hv
    rw [hr] at er
    subst er
    (repeat' (first | exact trivial | exact fun _ => rfl | exact rfl | refine And.intro ?_ ?_))
    all_goals first | (first | omega | exact u0 (by omega) | exact u1 (by omega) | exact u1 ⟨by omega, by omega⟩ | exact un (by omega) | exact fun hh => hh | exact fun hh => absurd hh (by decide) | exact fun hh => congrArg not hh | exact fun hh => Bool.noConfusion (show true = false from hh) | exact fun hh => Bool.noConfusion (show false = true from hh)) | skip
    intro _
    (repeat' (first | exact trivial | exact fun _ => rfl | exact rfl | refine And.intro ?_ ?_))
    all_goals first | (first | omega | exact u0 (by omega) | exact u1 (by omega) | exact u1 ⟨by omega, by omega⟩ | exact un (by omega) | exact fun hh => hh | exact fun hh => absurd hh (by decide) | exact fun hh => congrArg not hh | exact fun hh => Bool.noConfusion (show true = false from hh) | exact fun hh => Bool.noConfusion (show false = true from hh)) | skip
    intro _
    (repeat' (first | exact trivial | exact fun _ => rfl | exact rfl | refine And.intro ?_ ?_))
    all_goals first | (first | omega | exact u0 (by omega) | exact u1 (by omega) | exact u1 ⟨by omega, by omega⟩ | exact un (by omega) | exact fun hh => hh | exact fun hh => absurd hh (by decide) | exact fun hh => congrArg not hh | exact fun hh => Bool.noConfusion (show true = false from hh) | exact fun hh => Bool.noConfusion (show false = true from hh)) | skip
    refine ⟨_, _, ⟨rfl, rfl⟩, ?_⟩
    exact ent_tau [0] ⟨by (repeat' (first | exact trivial | exact rfl | exact fun _ _ => rfl | exact Or.inl rfl | refine And.intro ?_ ?_)), by (repeat' (first | exact trivial | exact rfl | exact congrArg (SV.int .i64) (Int.natCast_succ _).symm | exact congrArg (SV.int .u64) (Int.natCast_succ _).symm | refine And.intro ?_ ?_)), rfl⟩
  · refine ⟨rfl, ?_⟩
    have er : HD.bus h m = (0, 0, 2) := by
      unfold HD.bus
      rw [if_pos hv, if_neg]
      intro h1
      rw [h1, hc1] at hc
      cases hc
    rw [hr] at er
    subst er
    (repeat' (first | exact trivial | exact fun _ => rfl | exact rfl | refine And.intro ?_ ?_))
    all_goals first | (first | omega | exact u0 (by omega) | exact u1 (by omega) | exact u1 ⟨by omega, by omega⟩ | exact un (by omega) | exact fun hh => hh | exact fun hh => absurd hh (by decide) | exact fun hh => congrArg not hh | exact fun hh => Bool.noConfusion (show true = false from hh) | exact fun hh => Bool.noConfusion (show false = true from hh)) | skip
    intro _
    (repeat' (first | exact trivial | exact fun _ => rfl | exact rfl | refine And.intro ?_ ?_))
    all_goals first | (first | omega | exact u0 (by omega) | exact u1 (by omega) | exact u1 ⟨by omega, by omega⟩ | exact un (by omega) | exact fun hh => hh | exact fun hh => absurd hh (by decide) | exact fun hh => congrArg not hh | exact fun hh => Bool.noConfusion (show true = false from hh) | exact fun hh => Bool.noConfusion (show false = true from hh)) | skip
    intro _
    (repeat' (first | exact trivial | exact fun _ => rfl | exact rfl | refine And.intro ?_ ?_))
    all_goals first | (first | omega | exact u0 (by omega) | exact u1 (by omega) | exact u1 ⟨by omega, by omega⟩ | exact un (by omega) | exact fun hh => hh | exact fun hh => absurd hh (by decide) | exact fun hh => congrArg not hh | exact fun hh => Bool.noConfusion (show true = false from hh) | exact fun hh => Bool.noConfusion (show false = true from hh)) | skip
    refine ⟨_, _, ⟨rfl, rfl⟩, ?_⟩
    exact ent_tau [0] ⟨by (repeat' (first | exact trivial | exact rfl | exact fun _ _ => rfl | exact Or.inl rfl | refine And.intro ?_ ?_)), by (repeat' (first | exact trivial | exact rfl | exact congrArg (SV.int .i64) (Int.natCast_succ _).symm | exact congrArg (SV.int .u64) (Int.natCast_succ _).symm | refine And.intro ?_ ?_)), rfl⟩
end Go.Proofs.Ytgofhjihkinknaa
