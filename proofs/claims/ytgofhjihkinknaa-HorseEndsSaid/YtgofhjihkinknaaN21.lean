/-
  Parts: Pd.
-/
import Derived.Test.YtgofhjihkinknaaN18
set_option linter.unusedVariables false
/-
  Contracts: what is asked of a set of moves.
-/
namespace Go.Proofs.Ytgofhjihkinknaa
open Go Go.Sy Kuhn
set_option linter.unusedSimpArgs false
set_option maxRecDepth 100000
set_option maxHeartbeats 4000000
attribute [local irreducible] CallP CodeP Ent YieldP
attribute [local irreducible] HD.ch maskO

/-- No two of a set's first moves hang together. -/
def lone (h : HD) (s : Bool) (S : Nat) : Nat → Bool
  | 0 => true
  | i + 1 => lone h s S i && !(S.testBit i && !decide (sdiff S (2 ^ i) &&& h.ch s i = 0))
theorem lone_bad {h : HD} {s : Bool} {S i : Nat} : ∀ {n : Nat}, i < n → S.testBit i = true → ¬ (sdiff S (2 ^ i) &&& h.ch s i = 0) → lone h s S n = false
  | 0, hi, _, _ => absurd hi (Nat.not_lt_zero _)
  | n + 1, hi, h1, h2 => by
    simp only [lone]
    rcases Nat.lt_succ_iff_lt_or_eq.1 hi with c | rfl
    · rw [lone_bad c h1 h2]
      rfl
    · rw [h1, decide_eq_false h2]
      cases lone h s S i <;> rfl
theorem t74 (h : HD) (hn : h.n ≤ 7) (s : Bool) (S : Nat) (hS : S < 128) : CallP Try.prog 74 [.int .u64 S, .ptr 1 0, .ptr 2 0] (HD.H h ++ [some (.roc (bc h)), some (.roc (chI fun j => (h.ch s j : Nat)))])
    (Ret (.bool (lone h s S h.n)) (HD.H h ++ [some (.roc (bc h)), some (.roc (chI fun j => (h.ch s j : Nat)))])) := by
  obtain ⟨r, hr⟩ : ∃ r, lone h s S h.n = r := ⟨_, rfl⟩
  rw [hr]
  refine callR (E := E) E_ok Try.func74 rfl ?_
  (repeat' (first | exact trivial | exact fun _ => rfl | exact rfl | refine And.intro ?_ ?_))
  all_goals first | (first | omega | exact u0 (by omega) | exact u1 (by omega) | exact u1 ⟨by omega, by omega⟩ | exact un (by omega) | exact fun hh => hh | exact fun hh => absurd hh (by decide) | exact fun hh => congrArg not hh | exact fun hh => Bool.noConfusion (show true = false from hh) | exact fun hh => Bool.noConfusion (show false = true from hh)) | skip
  refine loopP E_ok [0, 1, 2, 9] (fun i : Nat => [(10, .int .i64 i)]) (fun _ H => H) (fun i => i ≤ h.n ∧ lone h s S i = true) (fun i => h.n - i) 0 ⟨Nat.zero_le _, rfl⟩ ?_ ?_
  · exact ent_tau [0, 1, 2] ⟨by (repeat' (first | exact trivial | exact rfl | exact fun _ _ => rfl | exact Or.inl rfl | refine And.intro ?_ ?_)), by (repeat' (first | exact trivial | exact rfl | exact congrArg (SV.int .i64) (Int.natCast_succ _).symm | exact congrArg (SV.int .u64) (Int.natCast_succ _).symm | refine And.intro ?_ ?_)), rfl⟩
  rintro i ⟨hi, hl⟩
  refine And.intro ?_ (And.intro (fun hc => ?_) (fun hc => ?_))
  · (repeat' (first | exact trivial | exact fun _ => rfl | exact rfl | refine And.intro ?_ ?_))
  · have hlt : i < h.n := by
      have := of_decide_eq_true hc
      omega
    have pk := pow_int i
    have p2 := pow_lt7 (k := i) (by omega)
    have pk0 : (0 : Int) ≤ 1 * 2 ^ ((i : Nat) : Int).toNat := by rw [pk]; exact Int.natCast_nonneg _
    obtain ⟨b1, hb1⟩ : ∃ b, S.testBit i = b := ⟨_, rfl⟩
    have c1 : CallP Try.prog 51 [.int .u64 S, .int .i64 i] [] (Ret (.bool b1) []) := by
      rw [← hb1]
      exact t51 S (Nat.lt_trans hS (by decide)) i ⟨by omega, by omega⟩
    have c75 : CallP Try.prog 75 [.int .u64 S, .int .u64 (1 * 2 ^ ((i : Nat) : Int).toNat)] [] (Ret (.int .u64 (sdiff S (2 ^ i) : Nat)) []) := by
      rw [pk]
      exact t75 S (2 ^ i)
    have hsd : sdiff S (2 ^ i) < 2 ^ 64 := sdiff_lt (n := 64) (Nat.lt_trans hS (by decide))
    have hch : h.ch s i < 2 ^ 64 := Nat.lt_trans (HD.ch_lt hn s i) (by decide)
    have hget : [((h.ch s 0 : Nat) : Int), (h.ch s 1 : Nat), (h.ch s 2 : Nat), (h.ch s 3 : Nat), (h.ch s 4 : Nat), (h.ch s 5 : Nat), (h.ch s 6 : Nat)].getD ((i : Nat) : Int).toNat 0 = (h.ch s i : Nat) := by
      rw [Int.toNat_natCast]
      exact get7 (fun j => ((h.ch s j : Nat) : Int)) i (by omega)
    have hand : bitOp .and .u64 ((sdiff S (2 ^ i) : Nat) : Int) ([((h.ch s 0 : Nat) : Int), (h.ch s 1 : Nat), (h.ch s 2 : Nat), (h.ch s 3 : Nat), (h.ch s 4 : Nat), (h.ch s 5 : Nat), (h.ch s 6 : Nat)].getD ((i : Nat) : Int).toNat 0) = ((sdiff S (2 ^ i) &&& h.ch s i : Nat) : Int) := by
      rw [hget]
      exact and_nat hsd hch
    have ls : lone h s S (i + 1) = (lone h s S i && !(S.testBit i && !decide (sdiff S (2 ^ i) &&& h.ch s i = 0))) := rfl
    refine And.intro trivial ?_
    refine drawP E_ok [] pl74_4 (by kernel_rfl) ?_
    refine And.intro (And.intro ?_ ?_) trivial
    · (repeat' (first | exact trivial | exact fun _ => rfl | exact rfl | refine And.intro ?_ ?_))
    refine c1.use [] ?_ trivial rfl
    cases b1 with
    | true =>
      (repeat' (first | exact trivial | exact fun _ => rfl | exact rfl | refine And.intro ?_ ?_))
      all_goals first | (first | omega | exact u0 (by omega) | exact u1 (by omega) | exact u1 ⟨by omega, by omega⟩ | exact un (by omega) | exact fun hh => hh | exact fun hh => absurd hh (by decide) | exact fun hh => congrArg not hh | exact fun hh => Bool.noConfusion (show true = false from hh) | exact fun hh => Bool.noConfusion (show false = true from hh)) | exact fun _ => pk0 | (intro _; rw [pk]; omega) | exact u1 (show ((i : Nat) : Int) < 64 by omega) | exact u1 ⟨pk0, by rw [pk]; omega⟩ | skip
      intro hg
      refine c75.use [] ?_ trivial rfl
      (repeat' (first | exact trivial | exact fun _ => rfl | exact rfl | refine And.intro ?_ ?_))
      all_goals first | (first | omega | exact u0 (by omega) | exact u1 (by omega) | exact u1 ⟨by omega, by omega⟩ | exact un (by omega) | exact fun hh => hh | exact fun hh => absurd hh (by decide) | exact fun hh => congrArg not hh | exact fun hh => Bool.noConfusion (show true = false from hh) | exact fun hh => Bool.noConfusion (show false = true from hh)) | exact fun _ => hg | exact fun _ _ => hg | skip
      · intro hx
        have hx2 : (!decide (bitOp .and .u64 ((sdiff S (2 ^ i) : Nat) : Int) ([((h.ch s 0 : Nat) : Int), (h.ch s 1 : Nat), (h.ch s 2 : Nat), (h.ch s 3 : Nat), (h.ch s 4 : Nat), (h.ch s 5 : Nat), (h.ch s 6 : Nat)].getD ((i : Nat) : Int).toNat 0) = 0)) = true := hx
        rw [hand] at hx2
        have hbad : ¬ (sdiff S (2 ^ i) &&& h.ch s i = 0) := by
          intro e
          rw [e] at hx2
          simp at hx2
        rw [lone_bad hlt hb1 hbad] at hr
        subst hr
        (repeat' (first | exact trivial | exact fun _ => rfl | exact rfl | refine And.intro ?_ ?_))
        all_goals first | (first | omega | exact u0 (by omega) | exact u1 (by omega) | exact u1 ⟨by omega, by omega⟩ | exact un (by omega) | exact fun hh => hh | exact fun hh => absurd hh (by decide) | exact fun hh => congrArg not hh | exact fun hh => Bool.noConfusion (show true = false from hh) | exact fun hh => Bool.noConfusion (show false = true from hh)) | skip
        exact ent_tau [0, 1, 2] ⟨by (repeat' (first | exact trivial | exact rfl | exact fun _ _ => rfl | exact Or.inl rfl | refine And.intro ?_ ?_)), by (repeat' (first | exact trivial | exact rfl | exact congrArg (SV.int .i64) (Int.natCast_succ _).symm | exact congrArg (SV.int .u64) (Int.natCast_succ _).symm | refine And.intro ?_ ?_)), rfl⟩
      · intro hx
        have hx2 : (!decide (bitOp .and .u64 ((sdiff S (2 ^ i) : Nat) : Int) ([((h.ch s 0 : Nat) : Int), (h.ch s 1 : Nat), (h.ch s 2 : Nat), (h.ch s 3 : Nat), (h.ch s 4 : Nat), (h.ch s 5 : Nat), (h.ch s 6 : Nat)].getD ((i : Nat) : Int).toNat 0) = 0)) = false := hx
        rw [hand] at hx2
        have hgood : sdiff S (2 ^ i) &&& h.ch s i = 0 := by
          have : decide (((sdiff S (2 ^ i) &&& h.ch s i : Nat) : Int) = 0) = true := by
            cases c : decide (((sdiff S (2 ^ i) &&& h.ch s i : Nat) : Int) = 0) with
            | true => rfl
            | false =>
              rw [c] at hx2
              cases hx2
          have := of_decide_eq_true this
          omega
        (repeat' (first | exact trivial | exact fun _ => rfl | exact rfl | refine And.intro ?_ ?_))
        all_goals first | (first | omega | exact u0 (by omega) | exact u1 (by omega) | exact u1 ⟨by omega, by omega⟩ | exact un (by omega) | exact fun hh => hh | exact fun hh => absurd hh (by decide) | exact fun hh => congrArg not hh | exact fun hh => Bool.noConfusion (show true = false from hh) | exact fun hh => Bool.noConfusion (show false = true from hh)) | skip
        refine ⟨i + 1, ⟨hlt, by rw [ls, hl, decide_eq_true hgood, hb1]; rfl⟩, by omega, ?_⟩
        exact ent_tau [0, 1, 2] ⟨by (repeat' (first | exact trivial | exact rfl | exact fun _ _ => rfl | exact Or.inl rfl | refine And.intro ?_ ?_)), by (repeat' (first | exact trivial | exact rfl | exact congrArg (SV.int .i64) (Int.natCast_succ _).symm | exact congrArg (SV.int .u64) (Int.natCast_succ _).symm | refine And.intro ?_ ?_)), rfl⟩
    | false =>
      (repeat' (first | exact trivial | exact fun _ => rfl | exact rfl | refine And.intro ?_ ?_))
      all_goals first | (first | omega | exact u0 (by omega) | exact u1 (by omega) | exact u1 ⟨by omega, by omega⟩ | exact un (by omega) | exact fun hh => hh | exact fun hh => absurd hh (by decide) | exact fun hh => congrArg not hh | exact fun hh => Bool.noConfusion (show true = false from hh) | exact fun hh => Bool.noConfusion (show false = true from hh)) | skip
      intro _
      (repeat' (first | exact trivial | exact fun _ => rfl | exact rfl | refine And.intro ?_ ?_))
      all_goals first | (first | omega | exact u0 (by omega) | exact u1 (by omega) | exact u1 ⟨by omega, by omega⟩ | exact un (by omega) | exact fun hh => hh | exact fun hh => absurd hh (by decide) | exact fun hh => congrArg not hh | exact fun hh => Bool.noConfusion (show true = false from hh) | exact fun hh => Bool.noConfusion (show false = true from hh)) | skip
      all_goals first | exact fun hx => (Bool.false_ne_true hx).elim | skip
      intro _
      (repeat' (first | exact trivial | exact fun _ => rfl | exact rfl | refine And.intro ?_ ?_))
      all_goals first | (first | omega | exact u0 (by omega) | exact u1 (by omega) | exact u1 ⟨by omega, by omega⟩ | exact un (by omega) | exact fun hh => hh | exact fun hh => absurd hh (by decide) | exact fun hh => congrArg not hh | exact fun hh => Bool.noConfusion (show true = false from hh) | exact fun hh => Bool.noConfusion (show false = true from hh)) | skip
      refine ⟨i + 1, ⟨hlt, by rw [ls, hl, hb1]; rfl⟩, by omega, ?_⟩
      exact ent_tau [0, 1, 2] ⟨by (repeat' (first | exact trivial | exact rfl | exact fun _ _ => rfl | exact Or.inl rfl | refine And.intro ?_ ?_)), by (repeat' (first | exact trivial | exact rfl | exact congrArg (SV.int .i64) (Int.natCast_succ _).symm | exact congrArg (SV.int .u64) (Int.natCast_succ _).symm | refine And.intro ?_ ?_)), rfl⟩
  · have e : i = h.n := by
      have := of_decide_eq_false hc
      omega
    subst e
    rw [hl] at hr
    subst hr
    (repeat' (first | exact trivial | exact fun _ => rfl | exact rfl | refine And.intro ?_ ?_))
    exact ent_tau [0, 1, 2] ⟨by (repeat' (first | exact trivial | exact rfl | exact fun _ _ => rfl | exact Or.inl rfl | refine And.intro ?_ ?_)), by (repeat' (first | exact trivial | exact rfl | exact congrArg (SV.int .i64) (Int.natCast_succ _).symm | exact congrArg (SV.int .u64) (Int.natCast_succ _).symm | refine And.intro ?_ ?_)), rfl⟩
theorem t78 (h : HD) (hv : h.Valid) (s : Bool) (m : Int) (S : Nat) : CallP Try.prog 78 [.int .u64 S, .ptr 2 0, .ptr 1 0, .ptr 3 0] (HD.H h ++ [some (.roc (bc h)), some (.roc (chI fun j => (h.ch s j : Nat))), some (.roc [.int .i64 m])])
    (Ret (.bool (decide ((h.need s (fun i => (sdiff h.every S).testBit i) : Int) ≤ m))) (HD.H h ++ [some (.roc (bc h)), some (.roc (chI fun j => (h.ch s j : Nat))), some (.roc [.int .i64 m])])) := by
  have hn := hv.2.1
  have hse : sdiff h.every S < 2 ^ 7 := sdiff_lt (HD.every_lt hn)
  have c66 := t66 h hv s (sdiff h.every S) hse (fun i hi => by
    by_cases h64 : i < 64
    · rw [sdiff_bit h64, HD.every_bit] at hi
      simp only [Bool.and_eq_true, decide_eq_true_eq] at hi
      exact hi.1
    · rw [Nat.testBit_lt_two_pow (Nat.lt_of_lt_of_le hse (Nat.pow_le_pow_right (by omega) (by omega)))] at hi
      cases hi)
  refine callR (E := E) E_ok Try.func78 rfl ?_
  (repeat' (first | exact trivial | exact fun _ => rfl | exact rfl | refine And.intro ?_ ?_))
  refine drawP E_ok [] pl78_1 (by kernel_rfl) ?_
  refine And.intro (And.intro ?_ ?_) trivial
  · (repeat' (first | exact trivial | exact fun _ => rfl | exact rfl | refine And.intro ?_ ?_))
  refine (t67 h hn).use [0] ?_ (by (repeat' (first | exact trivial | exact rfl | exact fun _ _ => rfl | exact fun _ _ _ _ => rfl | exact Or.inl rfl | exact Or.inr rfl | refine And.intro ?_ ?_))) rfl
  refine And.intro (And.intro ?_ ?_) trivial
  · (repeat' (first | exact trivial | exact fun _ => rfl | exact rfl | refine And.intro ?_ ?_))
  refine (t75 h.every S).use [] ?_ trivial rfl
  refine And.intro (And.intro ?_ ?_) trivial
  · (repeat' (first | exact trivial | exact fun _ => rfl | exact rfl | refine And.intro ?_ ?_))
  refine c66.use [] ?_ trivial rfl
  (repeat' (first | exact trivial | exact fun _ => rfl | exact rfl | refine And.intro ?_ ?_))
  exact ent_tau [0, 1, 2, 3] ⟨by (repeat' (first | exact trivial | exact rfl | exact fun _ _ => rfl | exact Or.inl rfl | refine And.intro ?_ ?_)), by (repeat' (first | exact trivial | exact rfl | exact congrArg (SV.int .i64) (Int.natCast_succ _).symm | exact congrArg (SV.int .u64) (Int.natCast_succ _).symm | refine And.intro ?_ ?_)), rfl⟩
end Go.Proofs.Ytgofhjihkinknaa
