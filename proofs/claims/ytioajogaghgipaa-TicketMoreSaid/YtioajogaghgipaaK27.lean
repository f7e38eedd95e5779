/-
  Parts: C2, C3, C4, Dd, T1.
-/
import Derived.Test.YtioajogaghgipaaK21
import Derived.Test.YtioajogaghgipaaK23
import Derived.Test.YtioajogaghgipaaK25
import Derived.Test.YtioajogaghgipaaK19
set_option linter.unusedVariables false
/-
  The document's answer: small functions; are tickets valid.
-/
namespace Go.Proofs.Ytioajogaghgipaa
open Go Go.Sy Tic
set_option linter.unusedSimpArgs false
set_option maxRecDepth 100000
set_option maxHeartbeats 4000000
attribute [local irreducible] CallP CodeP Ent YieldP
set_option maxHeartbeats 16000000

theorem t96 (lo hi : Int) : CallP Try.prog 96 [.agg [.int .i64 lo, .int .i64 hi]] [] (Ret (.bool (spanB lo hi)) []) := by
  refine callR (E := E) E_ok Try.func96 rfl ?_
  (repeat' (first | exact ap | refine And.intro ?_ ?_))
  all_goals first | exact g1 | exact g1f | exact g2 | exact g2f | exact gn | skip
  all_goals first | (intro hh; simp [gB, wB, Bool.and_eq_true] at hh; exact (inR_iff _).2 ⟨by omega, by omega⟩) | skip
  refine ent_tau [] ⟨by (repeat' (first | exact fp | refine And.intro ?_ ?_)), ⟨rfl, ?_, trivial⟩, rfl⟩
  refine congrArg SV.bool ?_
  unfold spanB
  cases decide (0 ≤ lo) <;> cases decide (lo ≤ hi) <;> cases decide (hi ≤ 240) <;> rfl
theorem t76 (t : TK) (k : Int) (hh : InR .i64 (t.huts - 1)) : CallP Try.prog 76 [TA t, .int .i64 k] (TH t) (Ret (.bool (inI k 0 (t.huts - 1))) (TH t)) := by
  refine callR (E := E) E_ok Try.func76 rfl ?_
  (repeat' (first | exact ap | refine And.intro ?_ ?_))
  all_goals first | exact u0 hh | exact hh | exact hh.1 | exact hh.2 | skip
  refine (t95 _ _ _).use [] ?_ trivial rfl
  (repeat' (first | exact ap | refine And.intro ?_ ?_))
  exact ent_tau [0] ⟨by (repeat' (first | exact fp | refine And.intro ?_ ?_)), by (repeat' (first | exact tm | refine And.intro ?_ ?_)), rfl⟩
theorem t39 (t : TK) : CallP Try.prog 39 [TA t] (TH t) (Ret (.bool (decide (40 < t.n))) (TH t)) := by
  refine callR (E := E) E_ok Try.func39 rfl ?_
  (repeat' (first | exact ap | refine And.intro ?_ ?_))
  refine ent_tau [0] ⟨by (repeat' (first | exact fp | refine And.intro ?_ ?_)), ⟨rfl, ?_, trivial⟩, rfl⟩
  exact congrArg SV.bool (decide_eq_decide.2 ⟨fun h => by omega, fun h => by omega⟩)
open Classical in
noncomputable def vb (t : TK) : Bool := decide t.Valid
open Classical in
theorem vb_iff {t : TK} : vb t = true ↔ t.Valid := by unfold vb; exact decide_eq_true_iff
open Classical in
theorem vb_no {t : TK} (h : ¬ t.Valid) : vb t = false := by unfold vb; exact decide_eq_false h
theorem vb_yes {t : TK} (h : t.Valid) : vb t = true := vb_iff.2 h
theorem t40 (t : TK) (hn : t.n ≤ 1000000) : CallP Try.prog 40 [TA t] (TH t) (Ret (.bool (vb t)) (TH t)) := by
  have c0 := t95 t.huts 1 4
  obtain ⟨b0, e0⟩ : ∃ b, inI t.huts 1 4 = b := ⟨_, rfl⟩
  rw [e0] at c0
  refine callR (E := E) E_ok Try.func40 rfl ?_
  (repeat' (first | exact ap | refine And.intro ?_ ?_))
  refine c0.use [] ?_ trivial rfl
  cases b0 with
  | false =>
    have hnv : ¬ t.Valid := fun hv => by rw [inI_iff.2 hv.1] at e0; cases e0
    rw [vb_no hnv]
    all_goals (repeat' (first | exact ap | refine And.intro ?_ ?_))
    all_goals first | exact gd | skip
    all_goals intro h1
    all_goals first | (exfalso; revert h1; simp [gB, wB]; done) | skip
    (repeat' (first | exact ap | refine And.intro ?_ ?_))
    exact ent_tau [0] ⟨by (repeat' (first | exact fp | refine And.intro ?_ ?_)), by (repeat' (first | exact tm | refine And.intro ?_ ?_)), rfl⟩
  | true =>
    have h4 := inI_iff.1 e0
    by_cases h5 : t.n ≤ 5
    · have e5 : decide (((t.n : Nat) : Int) > 5) = false := decide_eq_false (by omega)
      (repeat' (first | exact ap | refine And.intro ?_ ?_))
      all_goals first | exact g1 | exact g1f | exact g2 | exact g2f | exact gn | exact gi | ((with_reducible show under _ _); first | exact fun hh => hh | exact u1 (lt64 (by omega)) | exact u0 (lt64 (by omega)) | exact u0 (by omega) | exact u1 (by omega)) | skip
      all_goals (repeat' (first | exact ap | refine And.intro ?_ ?_))
      all_goals first | exact gd | skip
      all_goals intro h1
      all_goals first | (exfalso; revert h1; simp [gB, wB, e5]; done) | skip
      (repeat' (first | exact ap | refine And.intro ?_ ?_))
      refine loopP E_ok [1] (fun i : Nat => [(3, .int .i64 i)]) (fun _ _ => TH t ++ [some (.cells (tb t))]) (fun i => i ≤ t.n ∧ ∀ j, j < i → okB t j = true) (fun i => t.n - i) 0 ⟨Nat.zero_le _, fun j hj => absurd hj (Nat.not_lt_zero j)⟩ ?_ ?_
      · exact ent_tau [0, 1] ⟨by (repeat' (first | exact fp | refine And.intro ?_ ?_)), by (repeat' (first | exact tm | refine And.intro ?_ ?_)), rfl⟩
      rintro i ⟨hi, hall⟩
      refine And.intro ?_ (And.intro (fun hc => ?_) (fun hc => ?_))
      · (repeat' (first | exact ap | refine And.intro ?_ ?_))
      · have hlt : i < t.n := by
          have := of_decide_eq_true hc
          omega
        have ei := z1 i
        obtain ⟨b1, e1⟩ : ∃ x, inI (t.hut (0 + ((i : Nat) : Int).toNat)) 0 (t.huts - 1) = x := ⟨_, rfl⟩
        obtain ⟨b2, e2⟩ : ∃ x, spanB (t.bl (0 + ((i : Nat) : Int).toNat)) (t.bh (0 + ((i : Nat) : Int).toNat)) = x := ⟨_, rfl⟩
        obtain ⟨b3, e3⟩ : ∃ x, spanB (t.dl (0 + ((i : Nat) : Int).toNat)) (t.dh (0 + ((i : Nat) : Int).toNat)) = x := ⟨_, rfl⟩
        have c1 := t76 t (t.hut (0 + ((i : Nat) : Int).toNat)) ((inR_iff _).2 ⟨by omega, by omega⟩)
        have c2 := t96 (t.bl (0 + ((i : Nat) : Int).toNat)) (t.bh (0 + ((i : Nat) : Int).toNat))
        have c3 := t96 (t.dl (0 + ((i : Nat) : Int).toNat)) (t.dh (0 + ((i : Nat) : Int).toNat))
        rw [e1] at c1
        rw [e2] at c2
        rw [e3] at c3
        have hok : okB t i = (b1 && (b2 && b3)) := by
          unfold okB
          rw [← e1, ← e2, ← e3, ei]
        have hbad : (b1 && (b2 && b3)) = false → vb t = false := fun q => vb_no fun hv => by
          have := okB_iff.2 (hv.2.2 _ hlt)
          rw [hok, q] at this
          cases this
        (repeat' (first | exact ap | refine And.intro ?_ ?_))
        all_goals first | exact om | skip
        refine c1.use [0] ?_ (by (repeat' (first | exact fp | refine And.intro ?_ ?_))) rfl
        cases b1 with
        | false =>
          rw [hbad rfl]
          all_goals (repeat' (first | exact ap | refine And.intro ?_ ?_))
          all_goals first | exact gd | skip
          all_goals intro q1
          all_goals first | (exfalso; revert q1; simp [gB, wB]; done) | skip
          all_goals (repeat' (first | exact ap | refine And.intro ?_ ?_))
          all_goals first | exact gd | skip
          all_goals intro q2
          all_goals first | (exfalso; revert q2; simp [gB, wB]; done) | skip
          (repeat' (first | exact ap | refine And.intro ?_ ?_))
          all_goals first | exact g1 | exact g1f | exact g2 | exact g2f | exact gn | exact gi | ((with_reducible show under _ _); first | exact fun hh => hh | exact u1 (lt64 (by omega)) | exact u0 (lt64 (by omega)) | exact u0 (by omega) | exact u1 (by omega)) | skip
          all_goals (repeat' (first | exact ap | refine And.intro ?_ ?_))
          all_goals first | exact gd | skip
          all_goals intro q3
          all_goals first | (exfalso; revert q3; simp [gB, wB]; done) | skip
          (repeat' (first | exact ap | refine And.intro ?_ ?_))
          exact ent_tau [0] ⟨by (repeat' (first | exact fp | refine And.intro ?_ ?_)), by (repeat' (first | exact tm | refine And.intro ?_ ?_)), rfl⟩
        | true =>
          all_goals (repeat' (first | exact ap | refine And.intro ?_ ?_))
          all_goals first | exact gd | skip
          all_goals intro q1
          all_goals first | (exfalso; revert q1; simp [gB, wB]; done) | skip
          refine c2.use [] ?_ trivial rfl
          cases b2 with
          | false =>
            rw [hbad rfl]
            all_goals (repeat' (first | exact ap | refine And.intro ?_ ?_))
            all_goals first | exact gd | skip
            all_goals intro q2
            all_goals first | (exfalso; revert q2; simp [gB, wB]; done) | skip
            (repeat' (first | exact ap | refine And.intro ?_ ?_))
            all_goals first | exact g1 | exact g1f | exact g2 | exact g2f | exact gn | exact gi | ((with_reducible show under _ _); first | exact fun hh => hh | exact u1 (lt64 (by omega)) | exact u0 (lt64 (by omega)) | exact u0 (by omega) | exact u1 (by omega)) | skip
            all_goals (repeat' (first | exact ap | refine And.intro ?_ ?_))
            all_goals first | exact gd | skip
            all_goals intro q3
            all_goals first | (exfalso; revert q3; simp [gB, wB]; done) | skip
            (repeat' (first | exact ap | refine And.intro ?_ ?_))
            exact ent_tau [0] ⟨by (repeat' (first | exact fp | refine And.intro ?_ ?_)), by (repeat' (first | exact tm | refine And.intro ?_ ?_)), rfl⟩
          | true =>
            all_goals (repeat' (first | exact ap | refine And.intro ?_ ?_))
            all_goals first | exact gd | skip
            all_goals intro q2
            all_goals first | (exfalso; revert q2; simp [gB, wB]; done) | skip
            refine c3.use [] ?_ trivial rfl
            cases b3 with
            | false =>
              rw [hbad rfl]
              (repeat' (first | exact ap | refine And.intro ?_ ?_))
              all_goals first | exact g1 | exact g1f | exact g2 | exact g2f | exact gn | exact gi | ((with_reducible show under _ _); first | exact fun hh => hh | exact u1 (lt64 (by omega)) | exact u0 (lt64 (by omega)) | exact u0 (by omega) | exact u1 (by omega)) | skip
              all_goals (repeat' (first | exact ap | refine And.intro ?_ ?_))
              all_goals first | exact gd | skip
              all_goals intro q3
              all_goals first | (exfalso; revert q3; simp [gB, wB]; done) | skip
              (repeat' (first | exact ap | refine And.intro ?_ ?_))
              exact ent_tau [0] ⟨by (repeat' (first | exact fp | refine And.intro ?_ ?_)), by (repeat' (first | exact tm | refine And.intro ?_ ?_)), rfl⟩
            | true =>
              (repeat' (first | exact ap | refine And.intro ?_ ?_))
              all_goals first | exact g1 | exact g1f | exact g2 | exact g2f | exact gn | exact gi | ((with_reducible show under _ _); first | exact fun hh => hh | exact u1 (lt64 (by omega)) | exact u0 (lt64 (by omega)) | exact u0 (by omega) | exact u1 (by omega)) | skip
              all_goals (repeat' (first | exact ap | refine And.intro ?_ ?_))
              all_goals first | exact gd | skip
              all_goals intro q3
              all_goals first | (exfalso; revert q3; simp [gB, wB]; done) | skip
              (repeat' (first | exact ap | refine And.intro ?_ ?_))
              all_goals first | exact om | skip
              refine ⟨i + 1, ⟨hlt, fun j hj => ?_⟩, by omega, ?_⟩
              · rcases Nat.lt_succ_iff_lt_or_eq.1 hj with d | rfl
                · exact hall j d
                · exact hok
              exact ent_tau [0, 1] ⟨by (repeat' (first | exact fp | refine And.intro ?_ ?_)), by (repeat' (first | exact tm | refine And.intro ?_ ?_)), rfl⟩
      · have e : i = t.n := by
          have := of_decide_eq_false hc
          omega
        subst e
        rw [vb_yes ⟨h4, h5, fun j hj => okB_iff.1 (hall j hj)⟩]
        (repeat' (first | exact ap | refine And.intro ?_ ?_))
        exact ent_tau [0] ⟨by (repeat' (first | exact fp | refine And.intro ?_ ?_)), by (repeat' (first | exact tm | refine And.intro ?_ ?_)), rfl⟩
    · have hnv : ¬ t.Valid := fun hv => h5 hv.2.1
      have e5 : decide (((t.n : Nat) : Int) > 5) = true := decide_eq_true (by omega)
      rw [vb_no hnv]
      (repeat' (first | exact ap | refine And.intro ?_ ?_))
      all_goals first | exact g1 | exact g1f | exact g2 | exact g2f | exact gn | exact gi | ((with_reducible show under _ _); first | exact fun hh => hh | exact u1 (lt64 (by omega)) | exact u0 (lt64 (by omega)) | exact u0 (by omega) | exact u1 (by omega)) | skip
      all_goals (repeat' (first | exact ap | refine And.intro ?_ ?_))
      all_goals first | exact gd | skip
      all_goals intro h1
      all_goals first | (exfalso; revert h1; simp [gB, wB, e5]; done) | skip
      (repeat' (first | exact ap | refine And.intro ?_ ?_))
      exact ent_tau [0] ⟨by (repeat' (first | exact fp | refine And.intro ?_ ?_)), by (repeat' (first | exact tm | refine And.intro ?_ ?_)), rfl⟩
end Go.Proofs.Ytioajogaghgipaa
/-
  The document's answer: powers, sets, some of the tickets.
-/
namespace Go.Proofs.Ytioajogaghgipaa
open Go Go.Sy Tic
set_option linter.unusedSimpArgs false
set_option maxRecDepth 100000
set_option maxHeartbeats 4000000
attribute [local irreducible] CallP CodeP Ent YieldP
set_option maxHeartbeats 16000000

theorem pow_lt62 {n : Nat} (h : n ≤ 61) : 2 ^ n < 2 ^ 62 := Nat.pow_lt_pow_right (by omega) (by omega)
theorem t64 (n : Nat) (hn : n ≤ 61) : CallP Try.prog 64 [.int .i64 n] [] (Ret (.int .i64 (2 ^ n : Nat)) []) := by
  refine callR (E := E) E_ok Try.func64 rfl ?_
  (repeat' (first | exact ap | refine And.intro ?_ ?_))
  refine loopP E_ok [0] (fun i : Nat => [(3, .int .i64 (2 ^ i : Nat)), (4, .int .i64 i)]) (fun _ H => H) (fun i => i ≤ n) (fun i => n - i) 0 (Nat.zero_le _) ?_ ?_
  · exact ent_tau [] ⟨by (repeat' (first | exact fp | refine And.intro ?_ ?_)), by (repeat' (first | exact tm | refine And.intro ?_ ?_)), rfl⟩
  rintro i hi
  refine And.intro ?_ (And.intro (fun hc => ?_) (fun hc => ?_))
  · (repeat' (first | exact ap | refine And.intro ?_ ?_))
  · have hlt : i < n := by
      have := of_decide_eq_true hc
      omega
    have p1 := pow_lt62 (n := i) (by omega)
    have p2 : 2 ^ (i + 1) = 2 * 2 ^ i := by rw [Nat.pow_succ]; omega
    have p3 : (2 : Int) * ((2 ^ i : Nat) : Int) = ((2 ^ (i + 1) : Nat) : Int) := by rw [p2]; exact (Int.natCast_mul 2 _).symm
    have p4 : (2 : Int) * ((2 ^ i : Nat) : Int) ≤ 9223372036854775807 := by rw [p3, p2]; omega
    have p5 : -9223372036854775808 ≤ (2 : Int) * ((2 ^ i : Nat) : Int) := by rw [p3]; exact Int.le_trans (by decide) (Int.natCast_nonneg _)
    (repeat' (first | exact ap | refine And.intro ?_ ?_))
    all_goals first | exact om | skip
    all_goals first | exact p4 | exact p5 | skip
    refine ⟨i + 1, hlt, by omega, ?_⟩
    refine ent_tau [] ⟨by (repeat' (first | exact fp | refine And.intro ?_ ?_)), ?_, rfl⟩
    (repeat' (first | exact tm | refine And.intro ?_ ?_))
    all_goals exact congrArg (SV.int .i64) p3
  · have e : i = n := by
      have := of_decide_eq_false hc
      omega
    subst e
    (repeat' (first | exact ap | refine And.intro ?_ ?_))
    exact ent_tau [] ⟨by (repeat' (first | exact fp | refine And.intro ?_ ?_)), by (repeat' (first | exact tm | refine And.intro ?_ ?_)), rfl⟩
theorem has_quo {S n : Nat} : decide ((((S : Nat) : Int).tdiv ((2 ^ n : Nat) : Int)).tmod 2 = 1) = S.testBit n := by
  have e1 : ((S : Nat) : Int).tdiv ((2 ^ n : Nat) : Int) = ((S / 2 ^ n : Nat) : Int) := by
    rw [Int.tdiv_eq_ediv_of_nonneg (Int.natCast_nonneg _)]
    exact (Int.natCast_ediv _ _).symm
  have e2 : (((S / 2 ^ n : Nat) : Int)).tmod 2 = ((S / 2 ^ n % 2 : Nat) : Int) := by
    rw [Int.tmod_eq_emod_of_nonneg (Int.natCast_nonneg _)]
    rfl
  rw [e1, e2, Nat.testBit_eq_decide_div_mod_eq]
  exact decide_eq_decide.2 ⟨fun h => by omega, fun h => by omega⟩
theorem t73 (S n : Nat) (hn : n ≤ 61) (hS : S < 2 ^ 62) : CallP Try.prog 73 [.int .i64 S, .int .i64 n] [] (Ret (.bool (S.testBit n)) []) := by
  have c := t64 n hn
  have p1 := pow_lt62 hn
  have p0 := Nat.pow_pos (n := n) (show 0 < 2 by omega)
  have e1 : ((S : Nat) : Int).tdiv ((2 ^ n : Nat) : Int) = ((S / 2 ^ n : Nat) : Int) := by
    rw [Int.tdiv_eq_ediv_of_nonneg (Int.natCast_nonneg _)]
    exact (Int.natCast_ediv _ _).symm
  have e2 : S / 2 ^ n ≤ S := Nat.div_le_self _ _
  have d1 : ((2 ^ n : Nat) : Int) ≠ 0 := by omega
  have d2 : -9223372036854775808 ≤ ((S : Nat) : Int).tdiv ((2 ^ n : Nat) : Int) := by rw [e1]; exact Int.le_trans (by decide) (Int.natCast_nonneg _)
  have d3 : ((S : Nat) : Int).tdiv ((2 ^ n : Nat) : Int) ≤ 9223372036854775807 := by rw [e1]; omega
  have e3 : (((S / 2 ^ n : Nat) : Int)).tmod 2 = ((S / 2 ^ n % 2 : Nat) : Int) := by
    rw [Int.tmod_eq_emod_of_nonneg (Int.natCast_nonneg _)]
    rfl
  have d4 : -9223372036854775808 ≤ (((S : Nat) : Int).tdiv ((2 ^ n : Nat) : Int)).tmod 2 := by rw [e1, e3]; omega
  have d5 : (((S : Nat) : Int).tdiv ((2 ^ n : Nat) : Int)).tmod 2 ≤ 9223372036854775807 := by rw [e1, e3]; omega
  refine callR (E := E) E_ok Try.func73 rfl ?_
  (repeat' (first | exact ap | refine And.intro ?_ ?_))
  refine c.use [] ?_ trivial rfl
  (repeat' (first | exact ap | refine And.intro ?_ ?_))
  all_goals first | exact om | skip
  all_goals first | exact u0 d1 | exact d1 | exact d2 | exact d3 | exact d4 | exact d5 | skip
  refine ent_tau [] ⟨by (repeat' (first | exact fp | refine And.intro ?_ ?_)), ⟨rfl, ?_, trivial⟩, rfl⟩
  exact congrArg SV.bool has_quo
theorem pop_half : ∀ S : Fin 32, TK.pop S = S.val % 2 + TK.pop (S.val / 2) := by decide +kernel
theorem pop_step {m : Nat} (h : m < 32) : TK.pop m = m % 2 + TK.pop (m / 2) := pop_half ⟨m, h⟩
theorem pop_zero : TK.pop 0 = 0 := by decide +kernel
theorem t38 (S : Nat) (hS : S < 32) : CallP Try.prog 38 [.int .i64 S] [] (Ret (.int .i64 (TK.pop S : Nat)) []) := by
  refine callR (E := E) E_ok Try.func38 rfl ?_
  (repeat' (first | exact ap | refine And.intro ?_ ?_))
  refine loopP E_ok [] (fun g : Nat × Nat => [(0, .int .i64 g.1), (3, .int .i64 g.2)]) (fun _ H => H) (fun g => g.1 < 32 ∧ g.2 + TK.pop g.1 = TK.pop S) (fun g => g.1) (S, 0) ⟨hS, Nat.zero_add _⟩ ?_ ?_
  · exact ent_tau [] ⟨by (repeat' (first | exact fp | refine And.intro ?_ ?_)), by (repeat' (first | exact tm | refine And.intro ?_ ?_)), rfl⟩
  rintro ⟨m, j⟩ ⟨hm, hj⟩
  simp only at hm hj
  have hp := pop_step hm
  have h7 := TK.pop_le5 S
  refine And.intro ?_ (And.intro (fun hc => ?_) (fun hc => ?_))
  · (repeat' (first | exact ap | refine And.intro ?_ ?_))
  · have hm0 : 0 < m := by
      have := of_decide_eq_true hc
      omega
    have e1 : ((m : Nat) : Int).tmod 2 = ((m % 2 : Nat) : Int) := by
      rw [Int.tmod_eq_emod_of_nonneg (by omega)]
      rfl
    have e2 : ((m : Nat) : Int).tdiv 2 = ((m / 2 : Nat) : Int) := by
      rw [Int.tdiv_eq_ediv_of_nonneg (by omega)]
      rfl
    (repeat' (first | exact ap | refine And.intro ?_ ?_))
    all_goals first | exact om | (rw [e1]; omega) | (rw [e2]; omega) | skip
    refine ⟨(m / 2, j + m % 2), ⟨by simp only; omega, by simp only; omega⟩, by simp only; omega, ?_⟩
    refine ent_tau [] ⟨by (repeat' (first | exact fp | refine And.intro ?_ ?_)), ?_, rfl⟩
    (repeat' (first | exact trivial | exact rfl | exact congrArg (SV.int .i64) e2 | exact congrArg (SV.int .i64) (by rw [e1]; exact (Int.natCast_add _ _).symm) | refine And.intro ?_ ?_))
  · have e : m = 0 := by
      have := of_decide_eq_false hc
      omega
    subst e
    have e2 : j = TK.pop S := by rw [← hj, pop_zero]; rfl
    (repeat' (first | exact ap | refine And.intro ?_ ?_))
    refine ent_tau [] ⟨by (repeat' (first | exact fp | refine And.intro ?_ ?_)), ⟨rfl, ?_, trivial⟩, rfl⟩
    exact congrArg (fun z : Nat => SV.int .i64 z) e2
theorem only_n' (t : TK) (S : Nat) : (t.only S).n = (TK.pickL S t.n).length := rfl
/-- What comes of it: no tickets at all, or some. -/
def K44 (t : TK) (S : Nat) : CE → SHeap → Prop := fun ce h' =>
  ((t.only S).n = 0 ∧ ce = .ret (.agg [.int .i64 t.huts, .snil]) ∧ h' = TH t) ∨
  (0 < (t.only S).n ∧ ∃ c, ((t.only S).n ≤ c ∧ c ≤ 9223372036854775807) ∧ ce = .ret (.agg [.int .i64 t.huts, .slice 1 5 0 (t.only S).n c]) ∧ h' = TH t ++ [some (.arr 5 (t.only S).n c (TF (t.only S)))])
theorem app_row0 (t : TK) {l : List Nat} {i j : Nat} (hj : j = i) (hl : l = [i]) : ∀ q, q < 0 + 1 → getOf 5 (splice (repL 1 [SV.int .i64 0, SV.int .i64 0, SV.int .i64 0, SV.int .i64 0, SV.int .i64 0]) (0 * 5) (TF t j)) (0 + q) = TF t (l.getD q 0) := by
  subst hj hl
  intro q hq
  obtain rfl : q = 0 := by omega
  rfl
theorem app_row (t : TK) {l l' : List Nat} {k i j : Nat} (hj : j = i) (hk : k + 1 = l.length) (hl : l' = l ++ [i]) : ∀ q, q < k + 1 + 1 → selL (decide (q < k + 1)) (TF t (l.getD q 0)) (getOf 5 (splice (repL 1 [SV.int .i64 0, SV.int .i64 0, SV.int .i64 0, SV.int .i64 0, SV.int .i64 0]) (0 * 5) (TF t j)) (0 + (q - (k + 1)))) = TF t (l'.getD q 0) := by
  subst hj hl
  intro q hq
  by_cases c : q < k + 1
  · rw [decide_eq_true c, selL_true, List.getD_eq_getElem?_getD, List.getD_eq_getElem?_getD, List.getElem?_append_left (by omega)]
  · obtain rfl : q = k + 1 := by omega
    rw [decide_eq_false c, selL_false, Nat.sub_self, List.getD_eq_getElem?_getD, List.getElem?_append_right (by omega), hk, Nat.sub_self]
    rfl
def pl44_6s : Plan := .eager 0 <| .eager 2 <| .eager 3 <| .eager 4 <| .eager 5 <| .eager 6 <| .alt 1 (.alt 7 (.alt 8 (.eager 9 <| .alt 10 (.done) .no) .no) .no) (.alt 7 (.alt 1 (.alt 8 (.eager 9 <| .alt 10 (.done) .no) .no) .no) .no)
theorem t44 (t : TK) (hn : t.n ≤ 5) (S : Nat) (hS : S < 2 ^ 62) : CallP Try.prog 44 [TA t, .int .i64 S] (TH t) (K44 t S) := by
  refine callK (E := E) E_ok Try.func44 rfl ?_
  (repeat' (first | exact ap | refine And.intro ?_ ?_))
  refine loopP E_ok [1, 2, 4, 5] (fun g : Nat × Nat × Nat => [(6, .int .i64 g.1)]) (fun g _ => match g.2.1 with
      | 0 => TH t ++ [some (.cells (tb t)), some (.cells [.int .i64 0, .snil]), some (.cells [.int .i64 t.huts, .snil])]
      | k + 1 => TH t ++ [some (.cells (tb t)), some (.cells [.int .i64 0, .snil]), some (.cells [.int .i64 t.huts, .slice 4 5 0 (k + 1) g.2.2]), some (.arr 5 (k + 1) g.2.2 (fun q => TF t ((TK.pickL S g.1).getD q 0)))]) (fun g => g.1 ≤ t.n ∧ g.2.1 = (TK.pickL S g.1).length ∧ (0 < g.2.1 → g.2.1 ≤ g.2.2 ∧ g.2.2 ≤ 9223372036854775807)) (fun g => t.n - g.1) (0, 0, 0) ⟨Nat.zero_le _, rfl, fun h => absurd h (Nat.lt_irrefl 0)⟩ ?_ ?_
  · exact ent_tau [0, 1, 2, 3] ⟨by (repeat' (first | exact fp | refine And.intro ?_ ?_)), by (repeat' (first | exact tm | refine And.intro ?_ ?_)), rfl⟩
  rintro ⟨i, m, c⟩ ⟨hi, hm, hc⟩
  simp only at hi hm hc
  have hml := pickL_len S i
  cases m with
  | zero =>
    refine And.intro ?_ (And.intro (fun hlt => ?_) (fun hlt => ?_))
    · (repeat' (first | exact ap | refine And.intro ?_ ?_))
    · have hlt' : i < t.n := by
        have := of_decide_eq_true hlt
        simp only at this
        omega
      have ei := z1 i
      have c73 := t73 S i (by omega) hS
      cases hb : S.testBit i with
      | false =>
        rw [hb] at c73
        (repeat' (first | exact ap | refine And.intro ?_ ?_))
        all_goals first | exact om | skip
        refine c73.use [] ?_ trivial rfl
        all_goals (repeat' (first | exact ap | refine And.intro ?_ ?_))
        all_goals first | exact gd | skip
        all_goals intro h1
        all_goals first | exact absurd h1 (by decide) | (cases h1; done) | skip
        (repeat' (first | exact ap | refine And.intro ?_ ?_))
        all_goals first | exact om | skip
        refine ⟨(i + 1, 0, c), ⟨hlt', by rw [pickL_no hb]; exact hm, hc⟩, by simp only; omega, ?_⟩
        exact ent_tau [0, 1, 2, 3] ⟨by (repeat' (first | exact fp | refine And.intro ?_ ?_)), by (repeat' (first | exact tm | refine And.intro ?_ ?_)), rfl⟩
      | true =>
        have hp := pickL_yes hb
        have hnil : TK.pickL S i = [] := List.length_eq_zero_iff.1 hm.symm
        rw [hb] at c73
        (repeat' (first | exact ap | refine And.intro ?_ ?_))
        all_goals first | exact om | skip
        refine c73.use [] ?_ trivial rfl
        all_goals (repeat' (first | exact ap | refine And.intro ?_ ?_))
        all_goals first | exact gd | skip
        all_goals intro h1
        all_goals first | exact absurd h1 (by decide) | (cases h1; done) | skip
        (repeat' (first | exact ap | refine And.intro ?_ ?_))
        refine drawP E_ok [1] pl44_6s (by kernel_rfl) ?_
        (repeat' (first | exact ap | refine And.intro ?_ ?_))
        all_goals first | exact om | skip
        all_goals first | exact one1 rfl | (show 1 * 40 ≤ 140737488355328; decide) | skip
        all_goals intro c' hc1 hc2
        all_goals (repeat' (first | exact ap | refine And.intro ?_ ?_))
        all_goals first | exact om | skip
        all_goals refine ⟨(i + 1, 0 + 1, c'), ⟨hlt', by rw [hp, hnil]; rfl, fun _ => ⟨hc1, hc2⟩⟩, by simp only; omega, ?_⟩
        all_goals refine ent_tau [0, 1, 2, 3, 5] ⟨?_, by (repeat' (first | exact tm | refine And.intro ?_ ?_)), rfl⟩
        all_goals (repeat' (first | exact fp | refine And.intro ?_ ?_))
        all_goals exact app_row0 t (by omega) (by rw [hp, hnil]; rfl)
    · have e : i = t.n := by
        have := of_decide_eq_false hlt
        simp only at this
        omega
      subst e
      (repeat' (first | exact ap | refine And.intro ?_ ?_))
      refine ⟨_, _, .inl ⟨hm.symm, rfl, rfl⟩, ?_⟩
      exact ent_tau [0] ⟨by (repeat' (first | exact fp | refine And.intro ?_ ?_)), by (repeat' (first | exact tm | refine And.intro ?_ ?_)), rfl⟩
  | succ k =>
    refine And.intro ?_ (And.intro (fun hlt => ?_) (fun hlt => ?_))
    · (repeat' (first | exact ap | refine And.intro ?_ ?_))
    · have hlt' : i < t.n := by
        have := of_decide_eq_true hlt
        simp only at this
        omega
      have ei := z1 i
      have c73 := t73 S i (by omega) hS
      obtain ⟨hc1, hc2⟩ := hc (Nat.succ_pos k)
      cases hb : S.testBit i with
      | false =>
        have hp := pickL_no hb
        rw [hb] at c73
        (repeat' (first | exact ap | refine And.intro ?_ ?_))
        all_goals first | exact om | skip
        refine c73.use [] ?_ trivial rfl
        all_goals (repeat' (first | exact ap | refine And.intro ?_ ?_))
        all_goals first | exact gd | skip
        all_goals intro h1
        all_goals first | exact absurd h1 (by decide) | (cases h1; done) | skip
        (repeat' (first | exact ap | refine And.intro ?_ ?_))
        all_goals first | exact om | skip
        refine ⟨(i + 1, k + 1, c), ⟨hlt', by rw [hp]; exact hm, hc⟩, by simp only; omega, ?_⟩
        rw [hp]
        exact ent_tau [0, 1, 2, 3, 4] ⟨by (repeat' (first | exact fp | refine And.intro ?_ ?_)), by (repeat' (first | exact tm | refine And.intro ?_ ?_)), rfl⟩
      | true =>
        have hp := pickL_yes hb
        rw [hb] at c73
        (repeat' (first | exact ap | refine And.intro ?_ ?_))
        all_goals first | exact om | skip
        refine c73.use [] ?_ trivial rfl
        all_goals (repeat' (first | exact ap | refine And.intro ?_ ?_))
        all_goals first | exact gd | skip
        all_goals intro h1
        all_goals first | exact absurd h1 (by decide) | (cases h1; done) | skip
        (repeat' (first | exact ap | refine And.intro ?_ ?_))
        refine drawP E_ok [1] pl44_6s (by kernel_rfl) ?_
        (repeat' (first | exact ap | refine And.intro ?_ ?_))
        all_goals first | exact om | skip
        all_goals first | exact one1 rfl | exact hc1 | exact hc2 | (show (k + 1 + 1) * 40 ≤ 140737488355328; omega) | (show (k + 1) * 40 ≤ 140737488355328; omega) | (simp only; omega) | skip
        all_goals intro c' hc1 hc2
        all_goals (repeat' (first | exact ap | refine And.intro ?_ ?_))
        all_goals first | exact om | skip
        all_goals refine ⟨(i + 1, k + 1 + 1, c'), ⟨hlt', by rw [hp, List.length_append, ← hm]; rfl, fun _ => ⟨hc1, hc2⟩⟩, by simp only; omega, ?_⟩
        all_goals refine ent_tau [0, 1, 2, 3, 6] ⟨?_, by (repeat' (first | exact tm | refine And.intro ?_ ?_)), rfl⟩
        all_goals (repeat' (first | exact fp | refine And.intro ?_ ?_))
        all_goals exact app_row t (by omega) hm hp
    · have e : i = t.n := by
        have := of_decide_eq_false hlt
        simp only at this
        omega
      subst e
      (repeat' (first | exact ap | refine And.intro ?_ ?_))
      refine ⟨_, _, .inr ⟨by rw [only_n', ← hm]; exact Nat.succ_pos k, c, by rw [only_n', ← hm]; exact hc (Nat.succ_pos k), rfl, rfl⟩, ?_⟩
      rw [only_n', ← hm]
      exact ent_tau [0, 4] ⟨by (repeat' (first | exact fp | refine And.intro ?_ ?_)), by (repeat' (first | exact tm | refine And.intro ?_ ?_)), rfl⟩
end Go.Proofs.Ytioajogaghgipaa
/-
  TicketClash: sets as signed numbers; do some tickets clash.
-/
namespace Go.Proofs.Ytioajogaghgipaa
open Go Go.Sy Tic
set_option linter.unusedSimpArgs false
set_option maxRecDepth 100000
set_option maxHeartbeats 4000000
attribute [local irreducible] CallP CodeP Ent YieldP
set_option maxHeartbeats 16000000

/-- The first set without the second one. -/
def sdiff (a b : Nat) : Nat := (BitVec.ofNat 64 a &&& ~~~BitVec.ofNat 64 b).toNat
theorem sdiff_bit {a b i : Nat} (hi : i < 64) : (sdiff a b).testBit i = (a.testBit i && !b.testBit i) := by
  have e : (sdiff a b).testBit i = (BitVec.ofNat 64 a &&& ~~~BitVec.ofNat 64 b).getLsbD i := rfl
  rw [e, BitVec.getLsbD_and, BitVec.getLsbD_not, BitVec.getLsbD_ofNat, BitVec.getLsbD_ofNat]
  simp [hi]
theorem sdiff_lt {a b n : Nat} (ha : a < 2 ^ n) : sdiff a b < 2 ^ n := by
  refine Nat.lt_pow_two_of_testBit _ fun i hi => ?_
  by_cases h : i < 64
  · rw [sdiff_bit h, Nat.testBit_lt_two_pow (Nat.lt_of_lt_of_le ha (Nat.pow_le_pow_right (by omega) hi))]
    rfl
  · have e : sdiff a b < 2 ^ 64 := (BitVec.ofNat 64 a &&& ~~~BitVec.ofNat 64 b).isLt
    exact Nat.testBit_lt_two_pow (Nat.lt_of_lt_of_le e (Nat.pow_le_pow_right (by omega) (by omega)))
theorem has64 {S n : Nat} (hS : S < 2 ^ 63) : decide (bitOp .and .i64 ((S : Int).fdiv (2 ^ n)) 1 = 1) = S.testBit n := by
  have e : (S : Int).fdiv (2 ^ n) = ((S / 2 ^ n : Nat) : Int) := by
    rw [Int.fdiv_eq_ediv_of_nonneg _ (by have := Nat.pow_pos (n := n) (show 0 < 2 by omega); exact_mod_cast Nat.zero_le _)]
    norm_cast
  have h1 : S / 2 ^ n < 2 ^ 63 := Nat.lt_of_le_of_lt (Nat.div_le_self _ _) hS
  have e2 := and64 (a := S / 2 ^ n) (b := 1) h1 (by decide)
  rw [e]
  have e3 : bitOp .and .i64 ((S / 2 ^ n : Nat) : Int) 1 = ((S / 2 ^ n &&& 1 : Nat) : Int) := e2
  rw [e3, Nat.and_one_is_mod, Nat.testBit_eq_decide_div_mod_eq]
  congr 1
  simp only [eq_iff_iff]
  omega
theorem has0 {S n : Nat} (hS : S < 2 ^ 63) : decide (bitOp .and .i64 ((S : Int).fdiv (2 ^ n)) 1 = 0) = !S.testBit n := by
  have e : (S : Int).fdiv (2 ^ n) = ((S / 2 ^ n : Nat) : Int) := by
    rw [Int.fdiv_eq_ediv_of_nonneg _ (by have := Nat.pow_pos (n := n) (show 0 < 2 by omega); exact_mod_cast Nat.zero_le _)]
    norm_cast
  have h1 : S / 2 ^ n < 2 ^ 63 := Nat.lt_of_le_of_lt (Nat.div_le_self _ _) hS
  have e2 := and64 (a := S / 2 ^ n) (b := 1) h1 (by decide)
  rw [e]
  have e3 : bitOp .and .i64 ((S / 2 ^ n : Nat) : Int) 1 = ((S / 2 ^ n &&& 1 : Nat) : Int) := e2
  rw [e3, Nat.and_one_is_mod, Nat.testBit_eq_decide_div_mod_eq]
  by_cases c : S / 2 ^ n % 2 = 1
  · rw [decide_eq_true c, decide_eq_false (by omega)]
    rfl
  · rw [decide_eq_false c, decide_eq_true (by omega)]
    rfl
theorem shr_zero {S n : Nat} (hS : S < 2 ^ n) : (S : Int).fdiv (2 ^ n) = 0 := by
  have e : (S : Int).fdiv (2 ^ n) = ((S / 2 ^ n : Nat) : Int) := by
    rw [Int.fdiv_eq_ediv_of_nonneg _ (by have := Nat.pow_pos (n := n) (show 0 < 2 by omega); exact_mod_cast Nat.zero_le _)]
    norm_cast
  rw [e, Nat.div_eq_of_lt hS]
  rfl
theorem andNot64 {a b : Nat} (ha : a < 2 ^ 63) : bitOp .andNot .i64 (a : Int) (b : Int) = ((sdiff a b : Nat) : Int) := by
  show IntKind.wrap .i64 ((BitVec.ofInt 64 (a : Int) &&& ~~~BitVec.ofInt 64 (b : Int)).toNat : Int) = _
  rw [ofInt_nat, ofInt_nat]
  exact wrap64 _ (sdiff_lt ha)

theorem go_bc (t : TK) (b : Bool) (c : Nat) : ∀ (r : Nat) (L : List (Int × Int)), ({ t with b := b, cap := c } : TK).go r L = t.go r L
  | 0, _ => rfl
  | r + 1, L => by
    rw [TK.go, TK.go]
    refine congrArg (fun f => List.flatMap f (t.prs L.length)) (funext fun p => ?_)
    show (match t.fits L p with | true => ({ t with b := b, cap := c } : TK).go r (L ++ [p]) | false => []) = _
    rw [go_bc t b c r]
    cases t.fits L p <;> rfl
theorem trs_bc (t : TK) (b : Bool) (c : Nat) : ({ t with b := b, cap := c } : TK).trs = t.trs := by
  unfold TK.trs TK.trl
  rw [go_bc]
theorem valid_bc {t : TK} (b : Bool) (c : Nat) (hv : t.Valid) : ({ t with b := b, cap := c } : TK).Valid := hv
/-- Do these tickets clash? -/
theorem wai_e {t : TK} (hv : t.Valid) : decide ((spT t t.waits).2.2 = 10) = t.trs.isEmpty := by
  unfold spT
  rw [if_neg (by simpa using hv)]
  cases h : t.trs with
  | nil => rw [if_pos rfl]; rfl
  | cons x l => rw [if_neg (by simp)]; rfl
theorem t43 (t : TK) (hv : t.Valid) (S : Nat) (hS : S < 2 ^ 62) : CallP Try.prog 43 [.int .i64 S, .ptr 1 0] (HB t) (Ret (.bool (!t.can S)) (HB t)) := by
  have hn := hv.2.1
  have h4 := hv.1
  have c44 := t44 t hn S hS
  have hT := only_valid hv S
  have hu : (t.only S).huts = t.huts := rfl
  have hcan : (!t.can S) = (t.only S).trs.isEmpty := by unfold TK.can; rw [Bool.not_not]
  refine CallP.mono (K := fun ce h' => ce = .ret (.bool (!t.can S)) ∧ h' = HB t) ?_ (fun ce h' h => h)
  refine callK (E := E) E_ok Try.func43 rfl ?_
  (repeat' (first | exact ap | refine And.intro ?_ ?_))
  refine CallP.frameH c44 [0] (by (repeat' (first | exact fp | refine And.intro ?_ ?_))) rfl ?_
  rintro ce h' (⟨h0, rfl, rfl⟩ | ⟨h0, c, hc, rfl, rfl⟩)
  · refine ⟨rfl, ?_⟩
    have c24 := t24 { t.only S with b := false, cap := 0 } (by show (t.only S).n ≤ _; omega) ⟨by show _ ≤ t.huts; omega, by show t.huts ≤ _; omega⟩
    have he := wai_e (valid_bc false 0 hT)
    rw [trs_bc, ← hcan] at he
    obtain ⟨w, hw⟩ : ∃ w, spT { t.only S with b := false, cap := 0 } (TK.waits { t.only S with b := false, cap := 0 }) = w := ⟨_, rfl⟩
    rw [hw] at c24 he
    (repeat' (first | exact ap | refine And.intro ?_ ?_))
    refine CallP.argsD (args' := [.agg [.int .i64 t.huts, .osl false 2 5 (t.only S).n 0]]) (fun η => by rw [h0]; simp [denL, den]) ?_
    refine CallP.pre (entAlias (i := 0) rfl 5 (TF (t.only S))) ?_
    refine c24.use [2] ?_ (by (repeat' (first | exact fp | refine And.intro ?_ ?_)); all_goals exact h0.symm) rfl
    (repeat' (first | exact ap | refine And.intro ?_ ?_))
    refine ⟨.ret (.bool (!t.can S)), HB t, ⟨rfl, rfl⟩, ?_⟩
    exact ent_tau [0, 1] ⟨by (repeat' (first | exact fp | refine And.intro ?_ ?_)), ⟨rfl, congrArg SV.bool he, trivial⟩, rfl⟩
  · refine ⟨rfl, ?_⟩
    have c24 := t24 { t.only S with b := true, cap := c } (by show (t.only S).n ≤ _; have := hT.2.1; omega) ⟨by show _ ≤ t.huts; omega, by show t.huts ≤ _; omega⟩
    have he := wai_e (valid_bc true c hT)
    rw [trs_bc, ← hcan] at he
    obtain ⟨w, hw⟩ : ∃ w, spT { t.only S with b := true, cap := c } (TK.waits { t.only S with b := true, cap := c }) = w := ⟨_, rfl⟩
    rw [hw] at c24 he
    (repeat' (first | exact ap | refine And.intro ?_ ?_))
    refine CallP.argsD (args' := [.agg [.int .i64 t.huts, .osl true 2 5 (t.only S).n c]]) (fun η => by simp [denL, den]) ?_
    refine c24.use [2] ?_ (by (repeat' (first | exact fp | refine And.intro ?_ ?_))) rfl
    (repeat' (first | exact ap | refine And.intro ?_ ?_))
    refine ⟨.ret (.bool (!t.can S)), HB t, ⟨rfl, rfl⟩, ?_⟩
    exact ent_tau [0, 1] ⟨by (repeat' (first | exact fp | refine And.intro ?_ ?_)), ⟨rfl, congrArg SV.bool he, trivial⟩, rfl⟩
end Go.Proofs.Ytioajogaghgipaa
/-
  What settles duties, by their form.
-/
namespace Go.Proofs.Ytioajogaghgipaa
open Go Go.Sy Tic

theorem aq {P : Prop} (h : P := by first | with_reducible exact trivial | ((with_reducible show _ = _); exact rfl) | ((with_reducible show ∀ _, _ = _); exact fun _ => rfl) | ((with_reducible show under _ _); first | exact trivial | exact rfl | exact fun _ => rfl)) : P := h
theorem dd {P : Prop} (h : P := by first
  | ((with_reducible show under _ _); first | exact g1 | exact g1f | exact g2 | exact g2f | exact gn | exact fun hh => hh | exact u1 (lt64 (by omega)) | exact u0 (lt64 (by omega)) | exact u0 (by omega) | exact u1 (by omega) | exact u1 ⟨by omega, by omega⟩ | exact un (by omega) | exact fun hh => absurd hh (by decide) | exact fun hh => congrArg not hh | exact fun hh => Bool.noConfusion (show true = false from hh) | exact fun hh => Bool.noConfusion (show false = true from hh))
  | ((with_reducible show (_ : Int) ≤ _); omega)
  | ((with_reducible show (_ : Int) < _); omega)
  | ((with_reducible show (_ : Nat) ≤ _); omega)
  | ((with_reducible show (_ : Nat) < _); omega)
  | ((with_reducible show Nat.lt _ _); omega)
  | ((with_reducible show Nat.le _ _); omega)
  | ((with_reducible show ¬ _); omega)
  | ((with_reducible show _ ≠ _); omega)) : P := h
end Go.Proofs.Ytioajogaghgipaa
/-
  TicketTurns.
-/
namespace Go.Proofs.Ytioajogaghgipaa
open Go Go.Sy Tic
set_option linter.unusedSimpArgs false
set_option maxRecDepth 100000
set_option maxHeartbeats 4000000
attribute [local irreducible] CallP CodeP Ent YieldP
set_option maxHeartbeats 16000000

theorem cnt_yes {p : Nat → Bool} {n : Nat} (h : p n = true) : cntN p (n + 1) = cntN p n + 1 := by rw [cntN, h]
theorem cnt_no {p : Nat → Bool} {n : Nat} (h : p n = false) : cntN p (n + 1) = cntN p n := by rw [cntN, h]; rfl
/-- How many of the first tickets are never, or not always, in turn. -/
def leaN (t : TK) (j : Nat) : Nat := cntN (fun i => decide (t.turn i = 0)) j
def mosN (t : TK) (j : Nat) : Nat := cntN (fun i => !decide (t.turn i = 2)) j
/-- Whom the first tickets surely pass over. -/
def ovF (t : TK) (j k : Nat) : Nat := bif decide (k < j) then t.surely k else 0
theorem ovF_is {t : TK} {j k : Nat} (h : k < j) : ovF t j k = t.surely k := by
  unfold ovF
  rw [decide_eq_true h]
  rfl
theorem row_ov {t : TK} {j ix : Nat} (hix : ix = j) (k : Nat) : selL (decide (k = ix)) (splice [SV.int .i64 (ovF t j ix : Nat)] 0 [SV.int .i64 (t.surely j : Nat)]) [SV.int .i64 (ovF t j k : Nat)] = [SV.int .i64 (ovF t (j + 1) k : Nat)] := by
  subst hix
  by_cases c : k = ix
  · rw [decide_eq_true c, selL_true, c, ovF_is (Nat.lt_succ_self ix)]
    rfl
  · rw [decide_eq_false c, selL_false]
    have e : decide (k < ix + 1) = decide (k < ix) := decide_eq_decide.2 (by omega)
    unfold ovF
    rw [e]
theorem pow5 {n : Nat} (h : n ≤ 5) : 2 ^ n ≤ 2 ^ 5 := Nat.pow_le_pow_right (by decide) h

theorem sp_lt {S : Nat} (h : S < 2 ^ 5) : S < 2 ^ 63 := Nat.lt_of_lt_of_le h (by decide)
theorem sure_per {t : TK} (hne : t.trs ≠ []) (hn : t.n ≤ 5) (i : Nat) : sdiff (t.surely i) (t.perhaps i) = 0 := by
  refine Nat.eq_of_testBit_eq fun o => ?_
  rw [Nat.zero_testBit]
  by_cases h : o < 64
  · rw [sdiff_bit h]
    cases hs : (t.surely i).testBit o with
    | false => rfl
    | true => rw [TK.surely_perhaps hne hs]; rfl
  · have hl := sdiff_lt (b := t.perhaps i) (TK.surely_lt (t := t) i)
    exact Nat.testBit_lt_two_pow (Nat.lt_of_lt_of_le hl (Nat.pow_le_pow_right (by decide) (by omega)))
theorem lea_yes {t : TK} {i : Nat} (h : decide (t.turn i = 0) = true) : ((leaN t i : Nat) : Int) + 1 = ((leaN t (i + 1) : Nat) : Int) := by
  unfold leaN
  rw [cnt_yes h]
  rfl
theorem lea_no {t : TK} {i : Nat} (h : decide (t.turn i = 0) = false) : ((leaN t i : Nat) : Int) = ((leaN t (i + 1) : Nat) : Int) := by
  unfold leaN
  rw [cnt_no h]
theorem mos_yes {t : TK} {i : Nat} (h : (!decide (t.turn i = 2)) = true) : ((mosN t i : Nat) : Int) + 1 = ((mosN t (i + 1) : Nat) : Int) := by
  unfold mosN
  rw [cnt_yes (p := fun i => !decide (t.turn i = 2)) h]
  rfl
theorem mos_no {t : TK} {i : Nat} (h : (!decide (t.turn i = 2)) = false) : ((mosN t i : Nat) : Int) = ((mosN t (i + 1) : Nat) : Int) := by
  unfold mosN
  rw [cnt_no (p := fun i => !decide (t.turn i = 2)) h]
def H8 (t : TK) (j : Nat) : SHeap := TH t ++ [some (.cells (tb t)), some (.cells [.int .i64 t.wrong.1, .int .i64 t.wrong.2]), some (.arr 1 t.n t.n fun k => [.int .i64 (ovF t j k : Nat)])]
noncomputable def T8 (m : Int) : Tm := mkT [] [(2, .ptr 1 0), (4, .bool false), (5, .int .i64 m)] 0 (List.replicate 278 none)
noncomputable def T8b (t : TK) : Tm := mkT [] [(2, .ptr 1 0), (6, .ptr 2 0), (11, .int .i64 (leaN t t.n : Nat)), (12, .int .i64 (mosN t t.n : Nat)), (13, .slice 3 1 0 t.n t.n)] 0 (List.replicate 278 none)
theorem seg8b (t : TK) (hv : t.Valid) (hne : t.trs ≠ []) : CodeP Try.prog none 1 (sufC Try.f8 11) ⟨T8b t, H8 t t.n, []⟩ (KRet E Try.f8 1 (.bool true) (TH t)) := by
  have hn := hv.2.1
  have q1 : decide (t.wrong.1 ≥ ((leaN t t.n : Nat) : Int)) = true := decide_eq_true (TK.odd_least hne)
  have q2 : decide (t.wrong.2 ≤ ((mosN t t.n : Nat) : Int)) = true := decide_eq_true (TK.odd_most hne)
  have q3 : decide (t.wrong.1 ≤ t.wrong.2) = true := decide_eq_true (TK.wrong_le hne)
  refine codeP_XK E_ok 100 ?_
  (repeat' (first | exact aq | refine And.intro ?_ ?_ | exact trivial))
  refine loopP E_ok [2, 6, 11, 12, 13, 229] (fun i : Nat => [(230, .int .i64 i)]) (fun _ _ => H8 t t.n) (fun i => i ≤ t.n) (fun i => t.n - i) 0 (Nat.zero_le _) ?_ ?_
  · exact ent_tau [0, 1, 2, 3] ⟨by (repeat' (first | exact fp | refine And.intro ?_ ?_)), by (repeat' (first | exact tm | refine And.intro ?_ ?_)), rfl⟩
  rintro i hi
  refine And.intro ?_ (And.intro (fun hlt => ?_) (fun hlt => ?_))
  · (repeat' (first | exact aq | refine And.intro ?_ ?_ | exact trivial))
  · have hlt' : i < t.n := by
      have := of_decide_eq_true hlt
      omega
    have ei := z1 i
    (repeat' (first | exact aq | refine And.intro ?_ ?_ | exact trivial))
    refine loopP E_ok [2, 6, 11, 12, 13, 27, 229, 230, 234] (fun o : Nat => [(235, .int .i64 o)]) (fun _ _ => H8 t t.n) (fun o => o ≤ t.n) (fun o => t.n - o) 0 (Nat.zero_le _) ?_ ?_
    · exact ent_tau [0, 1, 2, 3] ⟨by (repeat' (first | exact fp | refine And.intro ?_ ?_)), by (repeat' (first | exact tm | refine And.intro ?_ ?_)), rfl⟩
    rintro o ho
    refine And.intro ?_ (And.intro (fun hlo => ?_) (fun hlo => ?_))
    · (repeat' (first | exact aq | refine And.intro ?_ ?_ | exact trivial))
    · have hlo' : o < t.n := by
        have := of_decide_eq_true hlo
        omega
      have eo := z1 o
      (repeat' (first | exact aq | refine And.intro ?_ ?_ | exact trivial))
      all_goals first | exact dd | skip
      · intro hx
        exfalso
        have s1 := sp_lt (Nat.lt_of_lt_of_le (TK.surely_lt (t := t) i) (pow5 hn))
        have s2 := sp_lt (Nat.lt_of_lt_of_le (TK.surely_lt (t := t) o) (pow5 hn))
        rw [ei, eo] at hx
        simp only [Int.toNat_natCast, ovF_is hlt', ovF_is hlo', has64 s1, has64 s2] at hx
        simp at hx
        have q := TK.surely_asym hne hx.1
        rw [q] at hx
        exact Bool.noConfusion hx.2
      intro hx
      clear hx
      (repeat' (first | exact aq | refine And.intro ?_ ?_ | exact trivial))
      all_goals first | exact dd | skip
      refine ⟨o + 1, hlo', by omega, ?_⟩
      exact ent_tau [0, 1, 2, 3] ⟨by (repeat' (first | exact fp | refine And.intro ?_ ?_)), by (repeat' (first | exact tm | refine And.intro ?_ ?_)), rfl⟩
    · (repeat' (first | exact aq | refine And.intro ?_ ?_ | exact trivial))
      all_goals first | exact dd | skip
      refine ⟨i + 1, hlt', by omega, ?_⟩
      exact ent_tau [0, 1, 2, 3] ⟨by (repeat' (first | exact fp | refine And.intro ?_ ?_)), by (repeat' (first | exact tm | refine And.intro ?_ ?_)), rfl⟩
  · (repeat' (first | exact aq | refine And.intro ?_ ?_ | exact trivial))
    all_goals first | exact dd | skip
    all_goals intro hg
    all_goals first | (exfalso; rw [q1, q2, q3] at hg; exact absurd hg (by decide)) | skip
    refine t13.use [] ?_ trivial rfl
    (repeat' (first | exact aq | refine And.intro ?_ ?_ | exact trivial))
    all_goals first | exact dd | skip
    all_goals first | ((with_reducible show under _ _); exact fun _ => hg) | skip
    refine ent_tau [0] ⟨by (repeat' (first | exact fp | refine And.intro ?_ ?_)), ⟨rfl, ?_, trivial⟩, rfl⟩
    refine congrArg SV.bool ?_
    rw [q1, q2, q3]
    rfl
theorem seg8 (t : TK) (hv : t.Valid) (m : Int) (hm : 0 ≤ m ∧ m ≤ 240) : CodeP Try.prog none 1 (sufC Try.f8 3) ⟨T8 m, TH t ++ [some (.cells (tb t))], []⟩ (KRet E Try.f8 1 (.bool true) (TH t)) := by
  have hn := hv.2.1
  have h4 := hv.1
  have hI : InR .i64 t.huts := ⟨by omega, by omega⟩
  have c28 := t28 t (by omega) hI
  have c20 := t20 t (by omega) hI m
  by_cases hne : t.trs = []
  · have e28 : spT t t.wrong = (0, 0, 10) := by unfold spT; rw [if_neg (by simpa using hv), if_pos hne]
    have e20 : whoT t m = (0, false, 10) := by unfold whoT; rw [if_neg (by simpa using hv), if_neg (by rw [inI_iff.2 hm]; decide), if_pos hne]
    rw [e28] at c28
    rw [e20] at c20
    dsimp only at c28 c20
    refine codeP_XK E_ok 8 ?_
    (repeat' (first | exact aq | refine And.intro ?_ ?_ | exact trivial))
    refine c28.use [0] ?_ (by (repeat' (first | exact fp | refine And.intro ?_ ?_))) rfl
    (repeat' (first | exact aq | refine And.intro ?_ ?_ | exact trivial))
    refine c20.use [0] ?_ (by (repeat' (first | exact fp | refine And.intro ?_ ?_))) rfl
    all_goals (repeat' (first | exact aq | refine And.intro ?_ ?_ | exact trivial))
    all_goals first | exact dd | skip
    all_goals intro h1
    all_goals first | exact absurd h1 (by decide) | skip
    all_goals (repeat' (first | exact aq | refine And.intro ?_ ?_ | exact trivial))
    all_goals first | exact dd | skip
    all_goals intro h2
    all_goals first | exact absurd h2 (by decide) | skip
    (repeat' (first | exact aq | refine And.intro ?_ ?_ | exact trivial))
    all_goals first | exact dd | skip
    all_goals intro hg
    all_goals first | exact absurd hg (by decide) | skip
    refine t13.use [] ?_ trivial rfl
    (repeat' (first | exact aq | refine And.intro ?_ ?_ | exact trivial))
    all_goals first | exact dd | skip
    exact ent_tau [0] ⟨by (repeat' (first | exact fp | refine And.intro ?_ ?_)), by (repeat' (first | exact tm | refine And.intro ?_ ?_)), rfl⟩
  · rw [sp_is hv hne] at c28
    rw [who_is hv hne m hm] at c20
    have w1 := TK.whose_lt (t := t) m
    have p5 := pow5 hn
    have w2 : t.whose m < 2 ^ 63 := Nat.lt_of_lt_of_le w1 (Nat.le_trans p5 (by decide))
    have wsh : ((t.whose m : Nat) : Int).fdiv (2 ^ ((t.n : Nat) : Int).toNat) = 0 := by
      rw [Int.toNat_natCast]
      exact shr_zero w1
    have wsh2 : ((t.whose m : Nat) : Int).fdiv (2 ^ t.n) = 0 := shr_zero w1
    have wneg : ¬ ((t.whose m : Nat) : Int) < 0 := by omega
    have wsome := TK.whose_some hne m
    obtain ⟨nb, hnb⟩ : ∃ nb, t.nobody m = nb := ⟨_, rfl⟩
    rw [hnb] at c20 wsome
    dsimp only at c28 c20
    refine codeP_XK E_ok 8 ?_
    (repeat' (first | exact aq | refine And.intro ?_ ?_ | exact trivial))
    refine c28.use [0] ?_ (by (repeat' (first | exact fp | refine And.intro ?_ ?_))) rfl
    (repeat' (first | exact aq | refine And.intro ?_ ?_ | exact trivial))
    refine c20.use [0] ?_ (by (repeat' (first | exact fp | refine And.intro ?_ ?_))) rfl
    all_goals (repeat' (first | exact aq | refine And.intro ?_ ?_ | exact trivial))
    all_goals first | exact dd | skip
    all_goals intro h1
    all_goals first | exact absurd h1 (by decide) | skip
    all_goals (repeat' (first | exact aq | refine And.intro ?_ ?_ | exact trivial))
    all_goals first | exact dd | skip
    all_goals intro h2
    all_goals first | exact absurd h2 (by decide) | skip
    (repeat' (first | exact aq | refine And.intro ?_ ?_ | exact trivial))
    all_goals first | exact dd | skip
    all_goals first | exact dd | skip
    · intro hx
      exfalso
      revert hx
      simp [wsh2, wneg]
      intro hz
      rcases wsome with c | c
      · exact absurd hz c
      · exact c
    intro hx
    clear hx
    (repeat' (first | exact aq | refine And.intro ?_ ?_ | exact trivial))
    all_goals first | ((with_reducible show (_ : Int) ≤ _); first | omega | (show (8 : Int) * t.n ≤ 281474976710656; omega)) | skip
    refine loopP E_ok [2, 5, 6, 8, 13, 99] (fun i : Nat => [(11, .int .i64 (leaN t i : Nat)), (12, .int .i64 (mosN t i : Nat)), (100, .int .i64 i)]) (fun i _ => H8 t i) (fun i => i ≤ t.n) (fun i => t.n - i) 0 (Nat.zero_le _) ?_ ?_
    · exact ent_tau [0, 1, 2, 3] ⟨by (repeat' (first | exact fp | refine And.intro ?_ ?_)), by (repeat' (first | exact tm | refine And.intro ?_ ?_)), rfl⟩
    rintro i hi
    refine And.intro ?_ (And.intro (fun hlt => ?_) (fun hlt => ?_))
    · (repeat' (first | exact aq | refine And.intro ?_ ?_ | exact trivial))
    · have hlt' : i < t.n := by
        have := of_decide_eq_true hlt
        omega
      have ei := z1 i
      have hl1 : leaN t i ≤ i := cntN_le _ _
      have hl2 : mosN t i ≤ i := cntN_le _ _
      have c16 := t16 t (by omega) hI i
      rw [turn_is hv hne i hlt'] at c16
      have c18 := t18 t (by omega) hI i
      rw [pas_is hv hne i hlt'] at c18
      have c14 := t14 t (by omega) hI i
      rw [min_is hv hne i hlt'] at c14
      dsimp only at c16 c18 c14
      (repeat' (first | exact aq | refine And.intro ?_ ?_ | exact trivial))
      refine c16.use [0] ?_ (by (repeat' (first | exact fp | refine And.intro ?_ ?_))) rfl
      (repeat' (first | exact aq | refine And.intro ?_ ?_ | exact trivial))
      refine c18.use [0] ?_ (by (repeat' (first | exact fp | refine And.intro ?_ ?_))) rfl
      (repeat' (first | exact aq | refine And.intro ?_ ?_ | exact trivial))
      refine c14.use [0] ?_ (by (repeat' (first | exact fp | refine And.intro ?_ ?_))) rfl
      (repeat' (first | exact aq | refine And.intro ?_ ?_ | exact trivial))
      all_goals first | exact dd | skip
      · intro hx
        exfalso
        clear c14 c16 c18
        have q3 := TK.perhaps_self (t := t) i
        have q4 := sure_per hne hn i
        have q5 := sp_lt (Nat.lt_of_lt_of_le (TK.perhaps_lt (t := t) i) (pow5 hn))
        have q6 := sp_lt (Nat.lt_of_lt_of_le (TK.surely_lt (t := t) i) (pow5 hn))
        simp only [Int.toNat_natCast, has64 q5, andNot64 q6, q4, q3] at hx
        revert hx
        simp
        exact ⟨TK.turn_two hne, TK.turn_zero hne⟩
      intro hx
      clear hx c16 c18 c14
      (repeat' (first | exact aq | refine And.intro ?_ ?_ | exact trivial))
      all_goals first | exact dd | skip
      all_goals intro hc1
      all_goals (repeat' (first | exact aq | refine And.intro ?_ ?_ | exact trivial))
      all_goals first | exact dd | skip
      all_goals intro hc2
      all_goals first | (exfalso; have g1 := of_decide_eq_true hc1; simp [g1] at hc2; done) | skip
      all_goals (repeat' (first | exact aq | refine And.intro ?_ ?_ | exact trivial))
      all_goals first | exact dd | skip
      all_goals intro hx
      all_goals first
        | (exfalso
           clear hc1 hc2
           simp only [Int.toNat_natCast, has64 w2] at hx
           simp at hx
           have q := TK.whose_waits hne hx.1
           omega)
        | skip
      all_goals clear hx
      all_goals (repeat' (first | exact aq | refine And.intro ?_ ?_ | exact trivial))
      all_goals refine loopP E_ok [2, 5, 6, 8, 11, 12, 13, 14, 17, 20, 21, 99, 100, 192] (fun o : Nat => [(193, .int .i64 o)]) (fun _ _ => H8 t (i + 1) ++ [some (.cells [.int .i64 (t.bought i).1, .int .i64 (t.bought i).2]), some (.cells [.int .i64 (t.door i).1, .int .i64 (t.door i).2])]) (fun o => o ≤ t.n) (fun o => t.n - o) 0 (Nat.zero_le _) ?_ ?_
      all_goals first | (refine ent_tau [0, 1, 2, 3, 4, 5] ⟨?_, by (repeat' (first | exact tm | refine And.intro ?_ ?_)), rfl⟩; (repeat' (first | exact fp | refine And.intro ?_ ?_)); exact fun k _ => row_ov ei k) | skip
      all_goals
        rintro o ho
        refine And.intro ?_ (And.intro (fun hlo => ?_) (fun hlo => ?_))
        · (repeat' (first | exact aq | refine And.intro ?_ ?_ | exact trivial))
        · have hlo' : o < t.n := by
            have := of_decide_eq_true hlo
            omega
          have c14 := t14 t (by omega) hI o
          rw [min_is hv hne o hlo'] at c14
          dsimp only at c14
          (repeat' (first | exact aq | refine And.intro ?_ ?_ | exact trivial))
          refine c14.use [0] ?_ (by (repeat' (first | exact fp | refine And.intro ?_ ?_))) rfl
          (repeat' (first | exact aq | refine And.intro ?_ ?_ | exact trivial))
          all_goals first | exact dd | skip
          · intro hx
            exfalso
            clear c14
            have q6 := sp_lt (Nat.lt_of_lt_of_le (TK.surely_lt (t := t) i) (pow5 hn))
            simp only [Int.toNat_natCast, has64 q6] at hx
            simp at hx
            have q := TK.surely_minutes hne hx.1
            omega
          intro hx
          clear hx c14
          (repeat' (first | exact aq | refine And.intro ?_ ?_ | exact trivial))
          all_goals first | exact dd | skip
          refine ⟨o + 1, hlo', by omega, ?_⟩
          exact ent_tau [0, 1, 2, 3, 4, 5] ⟨by (repeat' (first | exact fp | refine And.intro ?_ ?_)), by (repeat' (first | exact tm | refine And.intro ?_ ?_)), rfl⟩
        · (repeat' (first | exact aq | refine And.intro ?_ ?_ | exact trivial))
          all_goals first | exact dd | skip
          refine ⟨i + 1, hlt', by omega, ?_⟩
          refine ent_tau [0, 1, 2, 3] ⟨by (repeat' (first | exact fp | refine And.intro ?_ ?_)), ?_, rfl⟩
          (repeat' (first | exact tm | refine And.intro ?_ ?_))
          all_goals first | exact congrArg (SV.int .i64) (lea_yes hc1) | exact congrArg (SV.int .i64) (lea_no hc1) | exact congrArg (SV.int .i64) (mos_yes hc2) | exact congrArg (SV.int .i64) (mos_no hc2)
    · have e : i = t.n := by
        have := of_decide_eq_false hlt
        omega
      subst e
      (repeat' (first | exact aq | refine And.intro ?_ ?_ | exact trivial))
      refine CodeP.part (seg8b t hv hne) ?_
      exact ent_tau [0, 1, 2, 3] ⟨by (repeat' (first | exact fp | refine And.intro ?_ ?_)), by (repeat' (first | exact tm | refine And.intro ?_ ?_)), rfl⟩
theorem t8 (t : TK) (hh : InR .i64 t.huts) (hl : t.n ≤ 9223372036854775807) (a : Int) (ha : 0 ≤ a ∧ a ≤ 255) : CallP Try.prog 8 [TA t, .int .u8 a] (TH t) (Ret (.bool true) (TH t)) := by
  have c39 := t39 t
  by_cases h40 : 40 < t.n
  · rw [decide_eq_true h40] at c39
    refine callR (E := E) E_ok Try.func8 rfl ?_
    (repeat' (first | exact aq | refine And.intro ?_ ?_ | exact trivial))
    refine c39.use [0] ?_ (by (repeat' (first | exact fp | refine And.intro ?_ ?_))) rfl
    all_goals (repeat' (first | exact aq | refine And.intro ?_ ?_ | exact trivial))
    all_goals first | exact dd | skip
    all_goals intro h1
    all_goals first | exact absurd h1 (by decide) | skip
    (repeat' (first | exact aq | refine And.intro ?_ ?_ | exact trivial))
    all_goals first | exact dd | skip
    all_goals (repeat' (first | exact aq | refine And.intro ?_ ?_ | exact trivial))
    all_goals first | exact dd | skip
    all_goals intro h2
    all_goals first | exact absurd h2 (by decide) | skip
    (repeat' (first | exact aq | refine And.intro ?_ ?_ | exact trivial))
    refine t13.use [] ?_ trivial rfl
    (repeat' (first | exact aq | refine And.intro ?_ ?_ | exact trivial))
    exact ent_tau [0] ⟨by (repeat' (first | exact fp | refine And.intro ?_ ?_)), by (repeat' (first | exact tm | refine And.intro ?_ ?_)), rfl⟩
  · rw [decide_eq_false h40] at c39
    have c40 := t40 t (by omega)
    obtain ⟨v, hv⟩ : ∃ v, vb t = v := ⟨_, rfl⟩
    rw [hv] at c40
    cases v with
    | false =>
      refine callR (E := E) E_ok Try.func8 rfl ?_
      (repeat' (first | exact aq | refine And.intro ?_ ?_ | exact trivial))
      refine c39.use [0] ?_ (by (repeat' (first | exact fp | refine And.intro ?_ ?_))) rfl
      all_goals (repeat' (first | exact aq | refine And.intro ?_ ?_ | exact trivial))
      all_goals first | exact dd | skip
      all_goals intro h1
      all_goals first | exact absurd h1 (by decide) | skip
      refine c40.use [0] ?_ (by (repeat' (first | exact fp | refine And.intro ?_ ?_))) rfl
      all_goals (repeat' (first | exact aq | refine And.intro ?_ ?_ | exact trivial))
      all_goals first | exact dd | skip
      all_goals intro h2
      all_goals first | exact absurd h2 (by decide) | skip
      (repeat' (first | exact aq | refine And.intro ?_ ?_ | exact trivial))
      all_goals first | exact dd | skip
      refine t13.use [] ?_ trivial rfl
      (repeat' (first | exact aq | refine And.intro ?_ ?_ | exact trivial))
      exact ent_tau [0] ⟨by (repeat' (first | exact fp | refine And.intro ?_ ?_)), by (repeat' (first | exact tm | refine And.intro ?_ ?_)), rfl⟩
    | true =>
      have hv := vb_iff.1 hv
      have hn := hv.2.1
      obtain ⟨m, hm⟩ : ∃ m : Int, (a.tmod 241) = m := ⟨_, rfl⟩
      have hm0 : 0 ≤ m ∧ m ≤ 240 := by rw [← hm, Int.tmod_eq_emod_of_nonneg ha.1]; omega
      refine callRK (E := E) E_ok 3 Try.func8 rfl ?_
      (repeat' (first | exact aq | refine And.intro ?_ ?_ | exact trivial))
      refine c39.use [0] ?_ (by (repeat' (first | exact fp | refine And.intro ?_ ?_))) rfl
      all_goals (repeat' (first | exact aq | refine And.intro ?_ ?_ | exact trivial))
      all_goals first | exact dd | skip
      all_goals intro h1
      all_goals first | exact absurd h1 (by decide) | skip
      refine c40.use [0] ?_ (by (repeat' (first | exact fp | refine And.intro ?_ ?_))) rfl
      all_goals (repeat' (first | exact aq | refine And.intro ?_ ?_ | exact trivial))
      all_goals first | exact dd | skip
      all_goals intro h2
      all_goals first | exact absurd h2 (by decide) | skip
      (repeat' (first | exact aq | refine And.intro ?_ ?_ | exact trivial))
      all_goals first | exact dd | skip
      all_goals first | exact dd | skip
      refine CodeP.pre ?_ (seg8 t hv m hm0)
      refine ent_tau [0, 1] ⟨by (repeat' (first | exact fp | refine And.intro ?_ ?_)), ?_, rfl⟩
      (repeat' (first | exact tm | refine And.intro ?_ ?_))
      all_goals exact congrArg (SV.int .i64) hm
end Go.Proofs.Ytioajogaghgipaa
