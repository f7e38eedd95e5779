/-
  Parts: Po, Pq, Uc.
-/
import Derived.Test.YtgofhjihkinknaaK25
import Derived.Test.YtgofhjihkinknaaK15
set_option linter.unusedVariables false
/-
  Contracts of the document's answer: what is valid, and what can follow what.
-/
namespace Go.Proofs.Ytgofhjihkinknaa
open Go Go.Sy Kuhn
set_option linter.unusedSimpArgs false
set_option maxRecDepth 100000
set_option maxHeartbeats 4000000
attribute [local irreducible] CallP CodeP Ent YieldP
attribute [local irreducible] HD.ch maskO

open Classical in
/-- Are horses valid? -/
noncomputable def vb (h : HD) : Bool := decide h.Valid
theorem vb_iff {h : HD} : vb h = true ↔ h.Valid := by
  unfold vb
  exact @decide_eq_true_iff _ (Classical.propDecidable _)
theorem vb_yes {h : HD} (hv : h.Valid) : vb h = true := vb_iff.2 hv
theorem vb_no {h : HD} (hv : ¬ h.Valid) : vb h = false := by
  cases c : vb h with
  | false => rfl
  | true => exact absurd (vb_iff.1 c) hv
theorem t37 (h : HD) : CallP Try.prog 37 [HD.A h] (HD.H h) (Ret (.bool (vb h)) (HD.H h)) := by
  obtain ⟨r, hr⟩ : ∃ r, vb h = r := ⟨_, rfl⟩
  rw [hr]
  obtain ⟨b0, hb0⟩ : ∃ b0, inB h.pace 0 3 = b0 := ⟨_, rfl⟩
  have c0 := t64 h.pace 0 3
  rw [hb0] at c0
  refine callR (E := E) E_ok Try.func37 rfl ?_
  (repeat' (first | exact trivial | exact fun _ => rfl | exact rfl | refine And.intro ?_ ?_))
  refine c0.use [] ?_ trivial rfl
  cases b0 with
  | false =>
    have hv : ¬ h.Valid := fun hv => by
      rw [inB_iff.2 hv.1] at hb0
      cases hb0
    rw [vb_no hv] at hr
    subst hr
    (repeat' (first | exact trivial | exact fun _ => rfl | exact rfl | refine And.intro ?_ ?_))
    all_goals first | (first | omega | exact u0 (by omega) | exact u1 (by omega) | exact u1 ⟨by omega, by omega⟩ | exact un (by omega) | exact fun hh => hh | exact fun hh => absurd hh (by decide) | exact fun hh => congrArg not hh | exact fun hh => Bool.noConfusion (show true = false from hh) | exact fun hh => Bool.noConfusion (show false = true from hh)) | skip
    intro _
    (repeat' (first | exact trivial | exact fun _ => rfl | exact rfl | refine And.intro ?_ ?_))
    exact ent_tau [0] ⟨by (repeat' (first | exact trivial | exact rfl | exact fun _ _ => rfl | exact fun _ _ _ _ => rfl | exact Or.inl rfl | exact Or.inr rfl | refine And.intro ?_ ?_)), by (repeat' (first | exact trivial | exact rfl | exact congrArg (SV.int .i64) (Int.natCast_succ _).symm | exact congrArg (SV.int .u64) (Int.natCast_succ _).symm | refine And.intro ?_ ?_)), rfl⟩
  | true =>
    have hp := inB_iff.1 hb0
    (repeat' (first | exact trivial | exact fun _ => rfl | exact rfl | refine And.intro ?_ ?_))
    all_goals first | (first | omega | exact u0 (by omega) | exact u1 (by omega) | exact u1 ⟨by omega, by omega⟩ | exact un (by omega) | exact fun hh => hh | exact fun hh => absurd hh (by decide) | exact fun hh => congrArg not hh | exact fun hh => Bool.noConfusion (show true = false from hh) | exact fun hh => Bool.noConfusion (show false = true from hh)) | skip
    · intro hx
      have hv : ¬ h.Valid := fun hv => by
        have := hv.2.1
        have hx2 : decide ((h.n : Int) > 7) = true := hx
        have := of_decide_eq_true hx2
        omega
      rw [vb_no hv] at hr
      subst hr
      (repeat' (first | exact trivial | exact fun _ => rfl | exact rfl | refine And.intro ?_ ?_))
      exact ent_tau [0] ⟨by (repeat' (first | exact trivial | exact rfl | exact fun _ _ => rfl | exact fun _ _ _ _ => rfl | exact Or.inl rfl | exact Or.inr rfl | refine And.intro ?_ ?_)), by (repeat' (first | exact trivial | exact rfl | exact congrArg (SV.int .i64) (Int.natCast_succ _).symm | exact congrArg (SV.int .u64) (Int.natCast_succ _).symm | refine And.intro ?_ ?_)), rfl⟩
    intro hx
    have hn7 : h.n ≤ 7 := by
      have hx2 : decide ((h.n : Int) > 7) = false := hx
      have := of_decide_eq_false hx2
      omega
    (repeat' (first | exact trivial | exact fun _ => rfl | exact rfl | refine And.intro ?_ ?_))
    refine loopP E_ok [1] (fun i : Nat => [(3, .int .i64 i)]) (fun _ H => H) (fun i => i ≤ h.n ∧ ∀ k, k < i → h.okMv k) (fun i => h.n - i) 0 ⟨Nat.zero_le _, fun k hk => absurd hk (Nat.not_lt_zero k)⟩ ?_ ?_
    · exact ent_tau [0, 1] ⟨by (repeat' (first | exact trivial | exact rfl | exact fun _ _ => rfl | exact fun _ _ _ _ => rfl | exact Or.inl rfl | exact Or.inr rfl | refine And.intro ?_ ?_)), by (repeat' (first | exact trivial | exact rfl | exact congrArg (SV.int .i64) (Int.natCast_succ _).symm | exact congrArg (SV.int .u64) (Int.natCast_succ _).symm | refine And.intro ?_ ?_)), rfl⟩
    rintro i ⟨hi, hall⟩
    have ei := z1 i
    refine And.intro ?_ (And.intro (fun hlt => ?_) (fun hlt => ?_))
    · (repeat' (first | exact trivial | exact fun _ => rfl | exact rfl | refine And.intro ?_ ?_))
    · have hlt' : i < h.n := by
        have := of_decide_eq_true hlt
        omega
      obtain ⟨b1, hb1⟩ : ∃ b1, inB (h.at' (0 + ((i : Nat) : Int).toNat)) 0 200 = b1 := ⟨_, rfl⟩
      have c1 := t64 (h.at' (0 + ((i : Nat) : Int).toNat)) 0 200
      rw [hb1] at c1
      obtain ⟨b2, hb2⟩ : ∃ b2, inB (h.pl (0 + ((i : Nat) : Int).toNat)) 0 30 = b2 := ⟨_, rfl⟩
      have c2 := t64 (h.pl (0 + ((i : Nat) : Int).toNat)) 0 30
      rw [hb2] at c2
      rw [ei] at hb1 hb2
      (repeat' (first | exact trivial | exact fun _ => rfl | exact rfl | refine And.intro ?_ ?_))
      all_goals first | (first | omega | exact u0 (by omega) | exact u1 (by omega) | exact u1 ⟨by omega, by omega⟩ | exact un (by omega) | exact fun hh => hh | exact fun hh => absurd hh (by decide) | exact fun hh => congrArg not hh | exact fun hh => Bool.noConfusion (show true = false from hh) | exact fun hh => Bool.noConfusion (show false = true from hh)) | skip
      refine c1.use [] ?_ trivial rfl
      cases b1 with
      | false =>
        have hv : ¬ h.Valid := fun hv => by
          rw [inB_iff.2 (hv.2.2 i hlt').1] at hb1
          cases hb1
        rw [vb_no hv] at hr
        subst hr
        (repeat' (first | exact trivial | exact fun _ => rfl | exact rfl | refine And.intro ?_ ?_))
        all_goals first | (first | omega | exact u0 (by omega) | exact u1 (by omega) | exact u1 ⟨by omega, by omega⟩ | exact un (by omega) | exact fun hh => hh | exact fun hh => absurd hh (by decide) | exact fun hh => congrArg not hh | exact fun hh => Bool.noConfusion (show true = false from hh) | exact fun hh => Bool.noConfusion (show false = true from hh)) | skip
        intro _
        (repeat' (first | exact trivial | exact fun _ => rfl | exact rfl | refine And.intro ?_ ?_))
        all_goals first | (first | omega | exact u0 (by omega) | exact u1 (by omega) | exact u1 ⟨by omega, by omega⟩ | exact un (by omega) | exact fun hh => hh | exact fun hh => absurd hh (by decide) | exact fun hh => congrArg not hh | exact fun hh => Bool.noConfusion (show true = false from hh) | exact fun hh => Bool.noConfusion (show false = true from hh)) | skip
        intro _
        (repeat' (first | exact trivial | exact fun _ => rfl | exact rfl | refine And.intro ?_ ?_))
        exact ent_tau [0] ⟨by (repeat' (first | exact trivial | exact rfl | exact fun _ _ => rfl | exact fun _ _ _ _ => rfl | exact Or.inl rfl | exact Or.inr rfl | refine And.intro ?_ ?_)), by (repeat' (first | exact trivial | exact rfl | exact congrArg (SV.int .i64) (Int.natCast_succ _).symm | exact congrArg (SV.int .u64) (Int.natCast_succ _).symm | refine And.intro ?_ ?_)), rfl⟩
      | true =>
        (repeat' (first | exact trivial | exact fun _ => rfl | exact rfl | refine And.intro ?_ ?_))
        all_goals first | (first | omega | exact u0 (by omega) | exact u1 (by omega) | exact u1 ⟨by omega, by omega⟩ | exact un (by omega) | exact fun hh => hh | exact fun hh => absurd hh (by decide) | exact fun hh => congrArg not hh | exact fun hh => Bool.noConfusion (show true = false from hh) | exact fun hh => Bool.noConfusion (show false = true from hh)) | skip
        intro _
        refine c2.use [] ?_ trivial rfl
        cases b2 with
        | false =>
          have hv : ¬ h.Valid := fun hv => by
            rw [inB_iff.2 (hv.2.2 i hlt').2.1] at hb2
            cases hb2
          rw [vb_no hv] at hr
          subst hr
          (repeat' (first | exact trivial | exact fun _ => rfl | exact rfl | refine And.intro ?_ ?_))
          all_goals first | (first | omega | exact u0 (by omega) | exact u1 (by omega) | exact u1 ⟨by omega, by omega⟩ | exact un (by omega) | exact fun hh => hh | exact fun hh => absurd hh (by decide) | exact fun hh => congrArg not hh | exact fun hh => Bool.noConfusion (show true = false from hh) | exact fun hh => Bool.noConfusion (show false = true from hh)) | skip
          all_goals intro _
          (repeat' (first | exact trivial | exact fun _ => rfl | exact rfl | refine And.intro ?_ ?_))
          exact ent_tau [0] ⟨by (repeat' (first | exact trivial | exact rfl | exact fun _ _ => rfl | exact fun _ _ _ _ => rfl | exact Or.inl rfl | exact Or.inr rfl | refine And.intro ?_ ?_)), by (repeat' (first | exact trivial | exact rfl | exact congrArg (SV.int .i64) (Int.natCast_succ _).symm | exact congrArg (SV.int .u64) (Int.natCast_succ _).symm | refine And.intro ?_ ?_)), rfl⟩
        | true =>
          (repeat' (first | exact trivial | exact fun _ => rfl | exact rfl | refine And.intro ?_ ?_))
          all_goals first | (first | omega | exact u0 (by omega) | exact u1 (by omega) | exact u1 ⟨by omega, by omega⟩ | exact un (by omega) | exact fun hh => hh | exact fun hh => absurd hh (by decide) | exact fun hh => congrArg not hh | exact fun hh => Bool.noConfusion (show true = false from hh) | exact fun hh => Bool.noConfusion (show false = true from hh)) | skip
          · intro hx
            have hv : ¬ h.Valid := fun hv => by
              have m := (hv.2.2 i hlt').2.2
              have hx2 : (bif (bif decide (h.lo (0 + ((i : Nat) : Int).toNat) < 1) then true else decide (h.lo (0 + ((i : Nat) : Int).toNat) > h.hi (0 + ((i : Nat) : Int).toNat))) then true else decide (h.hi (0 + ((i : Nat) : Int).toNat) > 20)) = true := hx
              rw [ei, decide_eq_false (by omega), decide_eq_false (by omega), decide_eq_false (by omega)] at hx2
              cases hx2
            rw [vb_no hv] at hr
            subst hr
            (repeat' (first | exact trivial | exact fun _ => rfl | exact rfl | refine And.intro ?_ ?_))
            exact ent_tau [0] ⟨by (repeat' (first | exact trivial | exact rfl | exact fun _ _ => rfl | exact fun _ _ _ _ => rfl | exact Or.inl rfl | exact Or.inr rfl | refine And.intro ?_ ?_)), by (repeat' (first | exact trivial | exact rfl | exact congrArg (SV.int .i64) (Int.natCast_succ _).symm | exact congrArg (SV.int .u64) (Int.natCast_succ _).symm | refine And.intro ?_ ?_)), rfl⟩
          · intro hx
            have hx2 : (bif (bif decide (h.lo (0 + ((i : Nat) : Int).toNat) < 1) then true else decide (h.lo (0 + ((i : Nat) : Int).toNat) > h.hi (0 + ((i : Nat) : Int).toNat))) then true else decide (h.hi (0 + ((i : Nat) : Int).toNat) > 20)) = false := hx
            rw [ei] at hx2
            have ho : h.okMv i := by
              refine ⟨inB_iff.1 hb1, inB_iff.1 hb2, ?_⟩
              by_cases a1 : h.lo i < 1
              · rw [decide_eq_true a1] at hx2
                cases hx2
              · by_cases a2 : h.lo i > h.hi i
                · rw [decide_eq_false a1, decide_eq_true a2] at hx2
                  cases hx2
                · by_cases a3 : h.hi i > 20
                  · rw [decide_eq_false a1, decide_eq_false a2, decide_eq_true a3] at hx2
                    cases hx2
                  · omega
            (repeat' (first | exact trivial | exact fun _ => rfl | exact rfl | refine And.intro ?_ ?_))
            all_goals first | (first | omega | exact u0 (by omega) | exact u1 (by omega) | exact u1 ⟨by omega, by omega⟩ | exact un (by omega) | exact fun hh => hh | exact fun hh => absurd hh (by decide) | exact fun hh => congrArg not hh | exact fun hh => Bool.noConfusion (show true = false from hh) | exact fun hh => Bool.noConfusion (show false = true from hh)) | skip
            refine ⟨i + 1, ⟨hlt', fun k hk => ?_⟩, by omega, ?_⟩
            · by_cases c : k = i
              · rw [c]
                exact ho
              · exact hall k (by omega)
            exact ent_tau [0, 1] ⟨by (repeat' (first | exact trivial | exact rfl | exact fun _ _ => rfl | exact fun _ _ _ _ => rfl | exact Or.inl rfl | exact Or.inr rfl | refine And.intro ?_ ?_)), by (repeat' (first | exact trivial | exact rfl | exact congrArg (SV.int .i64) (Int.natCast_succ _).symm | exact congrArg (SV.int .u64) (Int.natCast_succ _).symm | refine And.intro ?_ ?_)), rfl⟩
    · have e : i = h.n := by
        have := of_decide_eq_false hlt
        omega
      subst e
      rw [vb_yes ⟨hp, hn7, hall⟩] at hr
      subst hr
      (repeat' (first | exact trivial | exact fun _ => rfl | exact rfl | refine And.intro ?_ ?_))
      exact ent_tau [0] ⟨by (repeat' (first | exact trivial | exact rfl | exact fun _ _ => rfl | exact fun _ _ _ _ => rfl | exact Or.inl rfl | exact Or.inr rfl | refine And.intro ?_ ?_)), by (repeat' (first | exact trivial | exact rfl | exact congrArg (SV.int .i64) (Int.natCast_succ _).symm | exact congrArg (SV.int .u64) (Int.natCast_succ _).symm | refine And.intro ?_ ?_)), rfl⟩
end Go.Proofs.Ytgofhjihkinknaa
/-
  Contracts of the document's answer: errors, plans, what can follow what.
-/
namespace Go.Proofs.Ytgofhjihkinknaa
open Go Go.Sy Kuhn
set_option linter.unusedSimpArgs false
set_option maxRecDepth 100000
set_option maxHeartbeats 4000000
attribute [local irreducible] CallP CodeP Ent YieldP
attribute [local irreducible] HD.ch maskO

/-- The error of what is asked of horses. -/
def errB : Bool → Bool → Int
  | true, true => 0
  | true, false => 2
  | false, _ => 1
theorem t52 (h : HD) (b : Bool) : CallP Try.prog 52 [HD.A h, .bool b] (HD.H h) (Ret (.int .i64 (errB (vb h) b)) (HD.H h)) := by
  obtain ⟨v, hv⟩ : ∃ v, vb h = v := ⟨_, rfl⟩
  have c37 := t37 h
  rw [hv] at c37 ⊢
  refine callR (E := E) E_ok Try.func52 rfl ?_
  (repeat' (first | exact trivial | exact fun _ => rfl | exact rfl | refine And.intro ?_ ?_))
  refine c37.use [0] ?_ (by (repeat' (first | exact trivial | exact rfl | exact fun _ _ => rfl | exact fun _ _ _ _ => rfl | exact Or.inl rfl | exact Or.inr rfl | refine And.intro ?_ ?_))) rfl
  cases v
  · (repeat' (first | exact trivial | exact fun _ => rfl | exact rfl | refine And.intro ?_ ?_))
    all_goals first | (first | omega | exact u0 (by omega) | exact u1 (by omega) | exact u1 ⟨by omega, by omega⟩ | exact un (by omega) | exact fun hh => hh | exact fun hh => absurd hh (by decide) | exact fun hh => congrArg not hh | exact fun hh => Bool.noConfusion (show true = false from hh) | exact fun hh => Bool.noConfusion (show false = true from hh)) | skip
    intro _
    (repeat' (first | exact trivial | exact fun _ => rfl | exact rfl | refine And.intro ?_ ?_))
    exact ent_tau [0] ⟨by (repeat' (first | exact trivial | exact rfl | exact fun _ _ => rfl | exact fun _ _ _ _ => rfl | exact Or.inl rfl | exact Or.inr rfl | refine And.intro ?_ ?_)), by (repeat' (first | exact trivial | exact rfl | exact congrArg (SV.int .i64) (Int.natCast_succ _).symm | exact congrArg (SV.int .u64) (Int.natCast_succ _).symm | refine And.intro ?_ ?_)), rfl⟩
  · cases b
    all_goals (repeat' (first | exact trivial | exact fun _ => rfl | exact rfl | refine And.intro ?_ ?_))
    all_goals all_goals first | (first | omega | exact u0 (by omega) | exact u1 (by omega) | exact u1 ⟨by omega, by omega⟩ | exact un (by omega) | exact fun hh => hh | exact fun hh => absurd hh (by decide) | exact fun hh => congrArg not hh | exact fun hh => Bool.noConfusion (show true = false from hh) | exact fun hh => Bool.noConfusion (show false = true from hh)) | skip
    all_goals intro _
    all_goals (repeat' (first | exact trivial | exact fun _ => rfl | exact rfl | refine And.intro ?_ ?_))
    all_goals all_goals first | (first | omega | exact u0 (by omega) | exact u1 (by omega) | exact u1 ⟨by omega, by omega⟩ | exact un (by omega) | exact fun hh => hh | exact fun hh => absurd hh (by decide) | exact fun hh => congrArg not hh | exact fun hh => Bool.noConfusion (show true = false from hh) | exact fun hh => Bool.noConfusion (show false = true from hh)) | skip
    all_goals intro _
    all_goals (repeat' (first | exact trivial | exact fun _ => rfl | exact rfl | refine And.intro ?_ ?_))
    all_goals exact ent_tau [0] ⟨by (repeat' (first | exact trivial | exact rfl | exact fun _ _ => rfl | exact fun _ _ _ _ => rfl | exact Or.inl rfl | exact Or.inr rfl | refine And.intro ?_ ?_)), by (repeat' (first | exact trivial | exact rfl | exact congrArg (SV.int .i64) (Int.natCast_succ _).symm | exact congrArg (SV.int .u64) (Int.natCast_succ _).symm | refine And.intro ?_ ?_)), rfl⟩
theorem t83 (h : HD) (hv : h.Valid) (i k : Nat) (hi : i < h.n) (hk : k < h.n) : CallP Try.prog 83 [HD.A h, .int .i64 i, .int .i64 k] (HD.H h) (Ret (.int .i64 (h.pace * h.dist i k)) (HD.H h)) := by
  have hn := hv.2.1
  have ei := z1 i
  have ek := z1 k
  have mi := hv.2.2 i hi
  have mk := hv.2.2 k hk
  unfold HD.okMv at mi mk
  have w0 := HD.walk_nonneg hv i k
  have w1 := HD.walk_le hv hi hk
  have key : ∀ a b : Int, (if b > a then b else a) = max a b := fun a b => by split <;> omega
  have kD : max (h.pl i - h.pl k) (0 - (h.pl i - h.pl k)) = h.dist i k := by
    unfold HD.dist
    omega
  refine callR (E := E) E_ok Try.func83 rfl ?_
  (repeat' (first | exact trivial | exact fun _ => rfl | exact rfl | refine And.intro ?_ ?_))
  refine drawP E_ok [1] pl83_1 (by kernel_rfl) ?_
  (repeat' (first | exact trivial | exact fun _ => rfl | exact rfl | refine And.intro ?_ ?_))
  all_goals first | (first | omega | exact u0 (by omega) | exact u1 (by omega) | exact u1 ⟨by omega, by omega⟩ | exact un (by omega) | exact fun hh => hh | exact fun hh => absurd hh (by decide) | exact fun hh => congrArg not hh | exact fun hh => Bool.noConfusion (show true = false from hh) | exact fun hh => Bool.noConfusion (show false = true from hh)) | skip
  all_goals first | (first | omega | exact u0 (by omega) | exact u1 (by omega) | exact u1 ⟨by omega, by omega⟩ | exact un (by omega) | exact fun hh => hh | exact fun hh => absurd hh (by decide) | exact fun hh => congrArg not hh | exact fun hh => Bool.noConfusion (show true = false from hh) | exact fun hh => Bool.noConfusion (show false = true from hh)) | (simp only [ei, ek, key, kD]; (first | omega | exact u0 (by omega) | exact u1 (by omega) | exact u1 ⟨by omega, by omega⟩ | exact un (by omega) | exact fun hh => hh | exact fun hh => absurd hh (by decide) | exact fun hh => congrArg not hh | exact fun hh => Bool.noConfusion (show true = false from hh) | exact fun hh => Bool.noConfusion (show false = true from hh))) | skip
  all_goals refine ent_tau [0] ⟨by (repeat' (first | exact trivial | exact rfl | exact fun _ _ => rfl | exact Or.inl rfl | refine And.intro ?_ ?_)), ⟨rfl, ?_, trivial⟩, rfl⟩
  all_goals refine congrArg (SV.int .i64) ?_
  all_goals simp only [ei, ek, key, kD]
theorem t54 (h : HD) (hv : h.Valid) (s : Bool) (i k : Nat) (hi : i < h.n) (hk : k < h.n) : CallP Try.prog 54 [HD.A h, .int .i64 i, .int .i64 k, .bool s] (HD.H h) (Ret (.bool (h.can s i k)) (HD.H h)) := by
  have hn := hv.2.1
  have ei := z1 i
  have ek := z1 k
  have mi := hv.2.2 i hi
  have mk := hv.2.2 k hk
  unfold HD.okMv at mi mk
  have w0 := HD.walk_nonneg hv i k
  have w1 := HD.walk_le hv hi hk
  have c83 := t83 h hv i k hi hk
  cases s
  all_goals refine callR (E := E) E_ok Try.func54 rfl ?_
  all_goals (repeat' (first | exact trivial | exact fun _ => rfl | exact rfl | refine And.intro ?_ ?_))
  all_goals first | (first | omega | exact u0 (by omega) | exact u1 (by omega) | exact u1 ⟨by omega, by omega⟩ | exact un (by omega) | exact fun hh => hh | exact fun hh => absurd hh (by decide) | exact fun hh => congrArg not hh | exact fun hh => Bool.noConfusion (show true = false from hh) | exact fun hh => Bool.noConfusion (show false = true from hh)) | (simp only [ei, ek]; (first | omega | exact u0 (by omega) | exact u1 (by omega) | exact u1 ⟨by omega, by omega⟩ | exact un (by omega) | exact fun hh => hh | exact fun hh => absurd hh (by decide) | exact fun hh => congrArg not hh | exact fun hh => Bool.noConfusion (show true = false from hh) | exact fun hh => Bool.noConfusion (show false = true from hh))) | skip
  all_goals try intro _
  all_goals (repeat' (first | exact trivial | exact fun _ => rfl | exact rfl | refine And.intro ?_ ?_))
  all_goals first | (first | omega | exact u0 (by omega) | exact u1 (by omega) | exact u1 ⟨by omega, by omega⟩ | exact un (by omega) | exact fun hh => hh | exact fun hh => absurd hh (by decide) | exact fun hh => congrArg not hh | exact fun hh => Bool.noConfusion (show true = false from hh) | exact fun hh => Bool.noConfusion (show false = true from hh)) | (simp only [ei, ek]; (first | omega | exact u0 (by omega) | exact u1 (by omega) | exact u1 ⟨by omega, by omega⟩ | exact un (by omega) | exact fun hh => hh | exact fun hh => absurd hh (by decide) | exact fun hh => congrArg not hh | exact fun hh => Bool.noConfusion (show true = false from hh) | exact fun hh => Bool.noConfusion (show false = true from hh))) | skip
  all_goals refine drawP E_ok [1] pl54_4 (by kernel_rfl) ?_
  all_goals (repeat' (first | exact trivial | exact fun _ => rfl | exact rfl | refine And.intro ?_ ?_))
  all_goals first | (first | omega | exact u0 (by omega) | exact u1 (by omega) | exact u1 ⟨by omega, by omega⟩ | exact un (by omega) | exact fun hh => hh | exact fun hh => absurd hh (by decide) | exact fun hh => congrArg not hh | exact fun hh => Bool.noConfusion (show true = false from hh) | exact fun hh => Bool.noConfusion (show false = true from hh)) | (simp only [ei, ek]; (first | omega | exact u0 (by omega) | exact u1 (by omega) | exact u1 ⟨by omega, by omega⟩ | exact un (by omega) | exact fun hh => hh | exact fun hh => absurd hh (by decide) | exact fun hh => congrArg not hh | exact fun hh => Bool.noConfusion (show true = false from hh) | exact fun hh => Bool.noConfusion (show false = true from hh))) | skip
  all_goals refine c83.use [0] ?_ (by (repeat' (first | exact trivial | exact rfl | exact fun _ _ => rfl | exact fun _ _ _ _ => rfl | exact Or.inl rfl | exact Or.inr rfl | refine And.intro ?_ ?_))) rfl
  all_goals (repeat' (first | exact trivial | exact fun _ => rfl | exact rfl | refine And.intro ?_ ?_))
  all_goals first | (first | omega | exact u0 (by omega) | exact u1 (by omega) | exact u1 ⟨by omega, by omega⟩ | exact un (by omega) | exact fun hh => hh | exact fun hh => absurd hh (by decide) | exact fun hh => congrArg not hh | exact fun hh => Bool.noConfusion (show true = false from hh) | exact fun hh => Bool.noConfusion (show false = true from hh)) | (simp only [ei, ek]; (first | omega | exact u0 (by omega) | exact u1 (by omega) | exact u1 ⟨by omega, by omega⟩ | exact un (by omega) | exact fun hh => hh | exact fun hh => absurd hh (by decide) | exact fun hh => congrArg not hh | exact fun hh => Bool.noConfusion (show true = false from hh) | exact fun hh => Bool.noConfusion (show false = true from hh))) | skip
  all_goals refine ent_tau [0] ⟨by (repeat' (first | exact trivial | exact rfl | exact fun _ _ => rfl | exact Or.inl rfl | refine And.intro ?_ ?_)), ⟨rfl, ?_, trivial⟩, rfl⟩
  all_goals refine congrArg SV.bool ?_
  all_goals simp only [ei, ek]
  all_goals rfl
theorem t58 (h : HD) (hv : h.Valid) (s : Bool) (i k : Nat) (hi : i < h.n) (hk : k < h.n) : CallP Try.prog 58 [HD.A h, .int .i64 i, .int .i64 k, .bool s] (HD.H h) (Ret (.bool (h.apart s i k)) (HD.H h)) := by
  have c1 := t54 h hv s i k hi hk
  have c2 := t54 h hv s k i hk hi
  obtain ⟨r, hr⟩ : ∃ r, h.apart s i k = r := ⟨_, rfl⟩
  rw [hr]
  unfold HD.apart at hr
  obtain ⟨b, hb⟩ : ∃ b, h.can s i k = b := ⟨_, rfl⟩
  rw [hb] at c1 hr
  refine callR (E := E) E_ok Try.func58 rfl ?_
  (repeat' (first | exact trivial | exact fun _ => rfl | exact rfl | refine And.intro ?_ ?_))
  refine c1.use [0] ?_ (by (repeat' (first | exact trivial | exact rfl | exact fun _ _ => rfl | exact fun _ _ _ _ => rfl | exact Or.inl rfl | exact Or.inr rfl | refine And.intro ?_ ?_))) rfl
  cases b with
  | true =>
    have : r = false := hr.symm
    subst this
    (repeat' (first | exact trivial | exact fun _ => rfl | exact rfl | refine And.intro ?_ ?_))
    all_goals first | (first | omega | exact u0 (by omega) | exact u1 (by omega) | exact u1 ⟨by omega, by omega⟩ | exact un (by omega) | exact fun hh => hh | exact fun hh => absurd hh (by decide) | exact fun hh => congrArg not hh | exact fun hh => Bool.noConfusion (show true = false from hh) | exact fun hh => Bool.noConfusion (show false = true from hh)) | skip
    intro _
    (repeat' (first | exact trivial | exact fun _ => rfl | exact rfl | refine And.intro ?_ ?_))
    all_goals first | (first | omega | exact u0 (by omega) | exact u1 (by omega) | exact u1 ⟨by omega, by omega⟩ | exact un (by omega) | exact fun hh => hh | exact fun hh => absurd hh (by decide) | exact fun hh => congrArg not hh | exact fun hh => Bool.noConfusion (show true = false from hh) | exact fun hh => Bool.noConfusion (show false = true from hh)) | skip
    exact ent_tau [0] ⟨by (repeat' (first | exact trivial | exact rfl | exact fun _ _ => rfl | exact fun _ _ _ _ => rfl | exact Or.inl rfl | exact Or.inr rfl | refine And.intro ?_ ?_)), by (repeat' (first | exact trivial | exact rfl | exact congrArg (SV.int .i64) (Int.natCast_succ _).symm | exact congrArg (SV.int .u64) (Int.natCast_succ _).symm | refine And.intro ?_ ?_)), rfl⟩
  | false =>
    have : r = !h.can s k i := hr.symm
    subst this
    (repeat' (first | exact trivial | exact fun _ => rfl | exact rfl | refine And.intro ?_ ?_))
    all_goals first | (first | omega | exact u0 (by omega) | exact u1 (by omega) | exact u1 ⟨by omega, by omega⟩ | exact un (by omega) | exact fun hh => hh | exact fun hh => absurd hh (by decide) | exact fun hh => congrArg not hh | exact fun hh => Bool.noConfusion (show true = false from hh) | exact fun hh => Bool.noConfusion (show false = true from hh)) | skip
    intro _
    refine c2.use [0] ?_ (by (repeat' (first | exact trivial | exact rfl | exact fun _ _ => rfl | exact fun _ _ _ _ => rfl | exact Or.inl rfl | exact Or.inr rfl | refine And.intro ?_ ?_))) rfl
    (repeat' (first | exact trivial | exact fun _ => rfl | exact rfl | refine And.intro ?_ ?_))
    all_goals first | (first | omega | exact u0 (by omega) | exact u1 (by omega) | exact u1 ⟨by omega, by omega⟩ | exact un (by omega) | exact fun hh => hh | exact fun hh => absurd hh (by decide) | exact fun hh => congrArg not hh | exact fun hh => Bool.noConfusion (show true = false from hh) | exact fun hh => Bool.noConfusion (show false = true from hh)) | skip
    exact ent_tau [0] ⟨by (repeat' (first | exact trivial | exact rfl | exact fun _ _ => rfl | exact fun _ _ _ _ => rfl | exact Or.inl rfl | exact Or.inr rfl | refine And.intro ?_ ?_)), by (repeat' (first | exact trivial | exact rfl | exact congrArg (SV.int .i64) (Int.natCast_succ _).symm | exact congrArg (SV.int .u64) (Int.natCast_succ _).symm | refine And.intro ?_ ?_)), rfl⟩
end Go.Proofs.Ytgofhjihkinknaa
/-
  Contract: dipworksref02.plans, where there are plans already.
-/
namespace Go.Proofs.Ytgofhjihkinknaa
open Go Go.Sy Kuhn
set_option linter.unusedSimpArgs false
set_option maxRecDepth 100000
set_option maxHeartbeats 4000000
attribute [local irreducible] CallP CodeP Ent YieldP
attribute [local irreducible] HD.ch maskO pw

theorem fits_step {h : HD} {s : Bool} {L : List Int} {d k : Nat} {x : Int} {b : Bool} (hd : L.length = d) (hb : b = (List.range k).all fun m => !(decide (L.getD m 0 = x) && h.apart s d m)) :
    (b && !(decide (L.getD k 0 = x) && h.apart s k d)) = (List.range (k + 1)).all fun m => !(decide (L.getD m 0 = x) && h.apart s d m) := by
  rw [List.range_succ, List.all_append, ← hb, HD.apart_comm h s k d]
  simp
theorem t69a {h : HD} (hv : h.Valid) {S M : Nat} (hS : S < 128) (hM : M ≤ 7) (s : Bool) : ∀ (r d : Nat), d + r = h.n → 1 ≤ d → ∀ (cb : Nat) (L : List Int) (W : List (List Int)) (cO : Nat) (cp : Nat → Nat), L.length = d →
    (d ≤ cb ∧ cb ≤ 9223372036854775807) → (W.length ≤ cO ∧ cO ≤ 9223372036854775807) → (W ++ h.ways s S.testBit M r L).length ≤ 1000000 →
    CallP Try.prog 69 [HD.A h, .int .i64 M, .int .i64 S, .bool s, .slice 1 1 0 d cb, .slice 2 1 0 W.length cO] [some (.roa 4 h.n (HD.F h)), some (.arr 1 d cb (rowG L)), some (.arr 1 W.length cO (rowsC 3 h.n cp)), some (poolW h.n W)] (K69 h (W ++ h.ways s S.testBit M r L)) := by
  have hn7 := hv.2.1
  intro r
  induction r with
  | zero =>
    intro d hd hd1 cb L W cO cp hL hcb hcO hlen
    obtain rfl : d = h.n := by omega
    have hlen' : W.length + 1 ≤ 1000000 := by simpa [HD.ways] using hlen
    refine callK (E := E) E_ok Try.func69 rfl ?_
    refine And.intro ?_ (And.intro (fun hc => ?_) (fun hc => ?_))
    · (repeat' (first | exact trivial | exact fun _ => rfl | exact rfl | refine And.intro ?_ ?_))
    · (repeat' (first | exact trivial | exact fun _ => rfl | exact rfl | refine And.intro ?_ ?_))
      all_goals first | exact Nat.le_refl _ | exact hcO.2 | exact one1P rfl | (show _ * 24 ≤ 140737488355328; omega) | skip
      intro c hc1 hc2
      (repeat' (first | exact trivial | exact fun _ => rfl | exact rfl | refine And.intro ?_ ?_))
      refine ⟨.ret (.slice 4 1 0 (W.length + 1) c), [some (.roa 4 h.n (HD.F h)), some .dead, some .dead, some .dead, some (.arr 1 (W.length + 1) c (rowsC 5 h.n fun k => if k < W.length then cp k else cb)), some (poolW h.n (W ++ [L]))], ⟨c, fun k => if k < W.length then cp k else cb, ?_, ?_, ?_⟩, ?_⟩
      · rw [HD.ways, List.length_append, List.length_singleton]
        exact ⟨hc1, hc2⟩
      · rw [HD.ways, List.length_append, List.length_singleton]
      · rw [HD.ways, List.length_append, List.length_singleton]
      refine Ent.trans ?_ (push69 (M := W.length) (cO := cO) (go := fun k => if k < W.length then rowsC 3 h.n cp k else [.slice 1 1 0 h.n cb]) hL rfl (fun k hk => if_pos hk) (if_neg (Nat.lt_irrefl _)))
      refine ent_tau [0, 1, 2, 3, 6] ⟨?_, ?_, rfl⟩
      · (repeat' (first | exact trivial | exact rfl | exact fun _ _ => rfl | exact fun _ _ _ _ => rfl | exact Or.inl rfl | exact Or.inr rfl | refine And.intro ?_ ?_))
        exact fun k hk => sel_push hk (fun _ _ => rfl) rfl
      · (repeat' (first | exact trivial | exact rfl | exact congrArg (SV.int .i64) (Int.natCast_succ _).symm | exact congrArg (SV.int .u64) (Int.natCast_succ _).symm | refine And.intro ?_ ?_))
    · exact absurd rfl (of_decide_eq_false hc)
  | succ r ih =>
    intro d hd hd1 cb L W cO cp hL hcb hcO hlen
    have hdN : d < h.n := by omega
    have e2 : 0 + (d : Int).toNat = d := by omega
    have c76 := t76 S d hS (by omega)
    cases ho : S.testBit d with
    | false =>
      rw [ho] at c76
      rw [PW.ways_no (by rw [hL]; exact ho)] at hlen ⊢
      refine callK (E := E) E_ok Try.func69 rfl ?_
      refine And.intro ?_ (And.intro (fun hc => ?_) (fun hc => ?_))
      · (repeat' (first | exact trivial | exact fun _ => rfl | exact rfl | refine And.intro ?_ ?_))
      · exact absurd (of_decide_eq_true hc) (by omega)
      (repeat' (first | exact trivial | exact fun _ => rfl | exact rfl | refine And.intro ?_ ?_))
      refine c76.use [] ?_ trivial rfl
      all_goals (repeat' (first | exact trivial | exact fun _ => rfl | exact rfl | refine And.intro ?_ ?_))
      all_goals first | exact True.intro | omega | exact u1 (lt64 (by omega)) | exact u0 (lt64 (by omega)) | (show under _ _; simp [under, gB, wB]; done) | (show under _ _; simp [under, gB, wB]; omega) | skip
      all_goals intro hx
      all_goals first | exact absurd hx (by decide) | (cases hx; done) | skip
      (repeat' (first | exact trivial | exact fun _ => rfl | exact rfl | refine And.intro ?_ ?_))
      refine drawP E_ok [4] pl69_5 (by kernel_rfl) ?_
      all_goals (repeat' (first | exact trivial | exact fun _ => rfl | exact rfl | refine And.intro ?_ ?_))
      all_goals first | exact Nat.le_refl _ | omega | exact one1P rfl | exact (fun k _ => rfl) | (show (0 + d) * 8 ≤ 140737488355328; omega) | (show (0 + d + 1) * 8 ≤ 140737488355328; omega) | (show (0 + k) * 8 ≤ 140737488355328; omega) | (show (0 + k + 1) * 8 ≤ 140737488355328; omega) | skip
      all_goals intro c1 hc1a hc1b
      all_goals (repeat' (first | exact trivial | exact fun _ => rfl | exact rfl | refine And.intro ?_ ?_))
      all_goals first | exact Nat.le_refl _ | omega | exact one1P rfl | exact (fun k _ => rfl) | (show (0 + d) * 8 ≤ 140737488355328; omega) | (show (0 + d + 1) * 8 ≤ 140737488355328; omega) | (show (0 + k) * 8 ≤ 140737488355328; omega) | (show (0 + k + 1) * 8 ≤ 140737488355328; omega) | skip
      all_goals intro c2 hc2a hc2b
      all_goals (repeat' (first | exact trivial | exact fun _ => rfl | exact rfl | refine And.intro ?_ ?_))
      all_goals refine CallP.frameH (ih (0 + d + 1) (by omega) (by omega) c2 (L ++ [-1]) W cO cp (by simp [hL]) ⟨hc2a, hc2b⟩ hcO hlen) [0, 8, 2, 3] ?_ rfl ?_
      all_goals first | ((repeat' (first | exact trivial | exact rfl | exact fun _ _ => rfl | exact fun _ _ _ _ => rfl | exact Or.inl rfl | exact Or.inr rfl | refine And.intro ?_ ?_)); exact fun k hk => sel_app hL hk rfl) | skip
      all_goals rintro ce h' ⟨cO3, cp3, hb3, rfl, rfl⟩
      all_goals refine ⟨rfl, ?_⟩
      all_goals (repeat' (first | exact trivial | exact fun _ => rfl | exact rfl | refine And.intro ?_ ?_))
      all_goals refine ⟨.ret (.slice 4 1 0 _ cO3), [some (.roa 4 h.n (HD.F h)), some .dead, some .dead, some .dead, some (.arr 1 _ cO3 (rowsC 5 h.n cp3)), some (poolW h.n _)], ⟨cO3, cp3, hb3, rfl, rfl⟩, ?_⟩
      all_goals exact ent_tau [0, 1, 2, 3, 9, 10] ⟨by (repeat' (first | exact trivial | exact rfl | exact fun _ _ => rfl | exact fun _ _ _ _ => rfl | exact Or.inl rfl | exact Or.inr rfl | refine And.intro ?_ ?_)), by (repeat' (first | exact trivial | exact rfl | exact congrArg (SV.int .i64) (Int.natCast_succ _).symm | exact congrArg (SV.int .u64) (Int.natCast_succ _).symm | refine And.intro ?_ ?_)), rfl⟩
    | true =>
      rw [ho] at c76
      rw [PW.ways_yes (by rw [hL]; exact ho)] at hlen ⊢
      refine callK (E := E) E_ok Try.func69 rfl ?_
      refine And.intro ?_ (And.intro (fun hc => ?_) (fun hc => ?_))
      · (repeat' (first | exact trivial | exact fun _ => rfl | exact rfl | refine And.intro ?_ ?_))
      · exact absurd (of_decide_eq_true hc) (by omega)
      (repeat' (first | exact trivial | exact fun _ => rfl | exact rfl | refine And.intro ?_ ?_))
      refine c76.use [] ?_ trivial rfl
      all_goals (repeat' (first | exact trivial | exact fun _ => rfl | exact rfl | refine And.intro ?_ ?_))
      all_goals first | exact True.intro | omega | exact u1 (lt64 (by omega)) | exact u0 (lt64 (by omega)) | (show under _ _; simp [under, gB, wB]; done) | (show under _ _; simp [under, gB, wB]; omega) | skip
      all_goals intro hx
      all_goals first | exact absurd hx (by decide) | (cases hx; done) | skip
      (repeat' (first | exact trivial | exact fun _ => rfl | exact rfl | refine And.intro ?_ ?_))
      refine loopP E_ok [1, 2, 3, 4, 6, 13] (fun q : Nat × List (List Int) × Nat × (Nat → Nat) => [(5, .slice 5 1 0 q.2.1.length q.2.2.1), (14, .int .i64 q.1)])
        (fun q _ => [some (.roa 4 h.n (HD.F h)), some (.arr 1 d cb (rowG L)), some .dead, some .dead, some (.cells (bc h)), some (.arr 1 q.2.1.length q.2.2.1 (rowsC 6 h.n q.2.2.2)), some (poolW h.n q.2.1)])
        (fun q => q.1 ≤ M ∧ q.2.1 = W ++ PW.part h s S.testBit M r L q.1 ∧ q.2.1.length ≤ q.2.2.1 ∧ q.2.2.1 ≤ 9223372036854775807) (fun q => M - q.1) (0, W, cO, cp) ⟨Nat.zero_le _, by simp [PW.part_zero], hcO.1, hcO.2⟩ ?_ ?_
      · refine Ent.trans (entMove (i := 2) (T' := mkT [] [(1, .int .i64 M), (2, .int .i64 S), (3, .bool s), (4, .slice 1 1 0 d cb), (5, .slice 5 1 0 W.length cO), (6, .ptr 4 0), (13, .int .i64 d), (14, .int .i64 0)] 0 (List.replicate 84 none)) rfl rfl ?_) ?_
        · intro η e
          (repeat' (first | exact trivial | exact rfl | exact (congrArg (fun o : Option (Nat × Nat) => o.map fun a => Value.slice (some ⟨a.1, a.2 + 0 * 1, none⟩) W.length cO) e).symm | refine And.intro ?_ ?_))
        refine Ent.trans (entMoveG (j := 3) (o := 5) (go' := rowsC 6 h.n cp) rfl rfl rfl (by decide) ?_) ?_
        · intro η e k hk
          simp only [rowsC, denL, den]
          rw [← e]
          rfl
        exact ent_tau [0, 1, 2, 3, 4, 5, 6] ⟨by (repeat' (first | exact trivial | exact rfl | exact fun _ _ => rfl | exact fun _ _ _ _ => rfl | exact Or.inl rfl | exact Or.inr rfl | refine And.intro ?_ ?_)), by (repeat' (first | exact trivial | exact rfl | exact congrArg (SV.int .i64) (Int.natCast_succ _).symm | exact congrArg (SV.int .u64) (Int.natCast_succ _).symm | refine And.intro ?_ ?_)), rfl⟩
      rintro ⟨c, V, cO', cp'⟩ ⟨hc1, hV, hb1, hb2⟩
      simp only at hc1 hV hb1 hb2
      have hf : V.length ≤ 1000000 := by
        have := PW.part_le (h := h) (s := s) (ok := S.testBit) (N := M) (r := r) (L := L) hc1
        rw [hV]
        simp only [List.length_append] at hlen ⊢
        omega
      refine And.intro ?_ (And.intro (fun hcc => ?_) (fun hcc => ?_))
      · (repeat' (first | exact trivial | exact fun _ => rfl | exact rfl | refine And.intro ?_ ?_))
      · have hcc' : c < M := by
          have := of_decide_eq_true hcc
          simp only at this
          omega
        (repeat' (first | exact trivial | exact fun _ => rfl | exact rfl | refine And.intro ?_ ?_))
        refine loopP E_ok [1, 2, 3, 4, 5, 6, 13, 14] (fun g : Nat × Bool => [(15, .bool g.2), (16, .int .i64 g.1)]) (fun _ H => H) (fun g => g.1 ≤ d ∧ g.2 = (List.range g.1).all fun m => !(decide (L.getD m 0 = ((c : Nat) : Int)) && h.apart s d m)) (fun g => d - g.1) (0, true) ⟨Nat.zero_le _, rfl⟩ ?_ ?_
        · exact ent_tau [0, 1, 2, 3, 4, 5, 6] ⟨by (repeat' (first | exact trivial | exact rfl | exact fun _ _ => rfl | exact fun _ _ _ _ => rfl | exact Or.inl rfl | exact Or.inr rfl | refine And.intro ?_ ?_)), by (repeat' (first | exact trivial | exact rfl | exact congrArg (SV.int .i64) (Int.natCast_succ _).symm | exact congrArg (SV.int .u64) (Int.natCast_succ _).symm | refine And.intro ?_ ?_)), rfl⟩
        rintro ⟨k, b⟩ ⟨hk, hb⟩
        simp only at hk hb
        refine And.intro ?_ (And.intro (fun hlk => ?_) (fun hlk => ?_))
        · (repeat' (first | exact trivial | exact fun _ => rfl | exact rfl | refine And.intro ?_ ?_))
        · have hlk' : k < d := by
            have := of_decide_eq_true hlk
            simp only at this
            omega
          have ek := z1 k
          have c58 := t58 h hv s k d (by omega) hdN
          have hst := fits_step (k := k) hL hb
          obtain ⟨a, ha⟩ : ∃ a, h.apart s k d = a := ⟨_, rfl⟩
          rw [ha] at c58 hst
          obtain ⟨q, hq⟩ : ∃ q, decide (L.getD k 0 = ((c : Nat) : Int)) = q := ⟨_, rfl⟩
          rw [hq] at hst
          cases b with
          | true =>
            (repeat' (first | exact trivial | exact fun _ => rfl | exact rfl | refine And.intro ?_ ?_))
            all_goals first | exact True.intro | omega | exact u1 (lt64 (by omega)) | exact u0 (lt64 (by omega)) | (show under _ _; simp [under, gB, wB]; done) | (show under _ _; simp [under, gB, wB]; omega) | skip
            · intro hg
              refine c58.use [0] ?_ (by (repeat' (first | exact trivial | exact rfl | exact fun _ _ => rfl | exact fun _ _ _ _ => rfl | exact Or.inl rfl | exact Or.inr rfl | refine And.intro ?_ ?_))) rfl
              (repeat' (first | exact trivial | exact fun _ => rfl | exact rfl | refine And.intro ?_ ?_))
              all_goals first | exact True.intro | omega | exact u1 (lt64 (by omega)) | exact u0 (lt64 (by omega)) | (show under _ _; simp [under, gB, wB]; done) | (show under _ _; simp [under, gB, wB]; omega) | skip
              refine ⟨(k + 1, !(q && a)), ⟨hlk', hst⟩, by simp only; omega, ?_⟩
              refine ent_tau [0, 1, 2, 3, 4, 5, 6] ⟨by (repeat' (first | exact trivial | exact rfl | exact fun _ _ => rfl | exact fun _ _ _ _ => rfl | exact Or.inl rfl | exact Or.inr rfl | refine And.intro ?_ ?_)), ?_, rfl⟩
              (repeat' (first | exact trivial | exact rfl | exact congrArg (SV.int .i64) (Int.natCast_succ _).symm | exact congrArg SV.bool (by rw [ek, hq]; cases q <;> cases a <;> rfl) | refine And.intro ?_ ?_))
            · intro hg
              have hq0 : q = false := by
                rw [← hq]
                simpa [gB, wB, ek] using hg
              (repeat' (first | exact trivial | exact fun _ => rfl | exact rfl | refine And.intro ?_ ?_))
              all_goals first | exact fun hh => Bool.noConfusion (hh.symm.trans hg) | skip
              all_goals first | exact True.intro | omega | exact u1 (lt64 (by omega)) | exact u0 (lt64 (by omega)) | (show under _ _; simp [under, gB, wB]; done) | (show under _ _; simp [under, gB, wB]; omega) | skip
              refine ⟨(k + 1, !(q && a)), ⟨hlk', hst⟩, by simp only; omega, ?_⟩
              refine ent_tau [0, 1, 2, 3, 4, 5, 6] ⟨by (repeat' (first | exact trivial | exact rfl | exact fun _ _ => rfl | exact fun _ _ _ _ => rfl | exact Or.inl rfl | exact Or.inr rfl | refine And.intro ?_ ?_)), ?_, rfl⟩
              (repeat' (first | exact trivial | exact rfl | exact congrArg (SV.int .i64) (Int.natCast_succ _).symm | exact congrArg SV.bool (by rw [ek, hq, hq0]; rfl) | refine And.intro ?_ ?_))
          | false =>
            (repeat' (first | exact trivial | exact fun _ => rfl | exact rfl | refine And.intro ?_ ?_))
            all_goals first | exact True.intro | omega | exact u1 (lt64 (by omega)) | exact u0 (lt64 (by omega)) | (show under _ _; simp [under, gB, wB]; done) | (show under _ _; simp [under, gB, wB]; omega) | skip
            · intro hg
              exact absurd hg (by simp [gB, wB])
            · intro hg
              (repeat' (first | exact trivial | exact fun _ => rfl | exact rfl | refine And.intro ?_ ?_))
              all_goals first | exact fun hh => Bool.noConfusion (hh.symm.trans hg) | skip
              all_goals first | exact True.intro | omega | exact u1 (lt64 (by omega)) | exact u0 (lt64 (by omega)) | (show under _ _; simp [under, gB, wB]; done) | (show under _ _; simp [under, gB, wB]; omega) | skip
              refine ⟨(k + 1, false), ⟨hlk', hst⟩, by simp only; omega, ?_⟩
              refine ent_tau [0, 1, 2, 3, 4, 5, 6] ⟨by (repeat' (first | exact trivial | exact rfl | exact fun _ _ => rfl | exact fun _ _ _ _ => rfl | exact Or.inl rfl | exact Or.inr rfl | refine And.intro ?_ ?_)), ?_, rfl⟩
              (repeat' (first | exact trivial | exact rfl | exact congrArg (SV.int .i64) (Int.natCast_succ _).symm | exact congrArg SV.bool rfl | refine And.intro ?_ ?_))
        · have e : k = d := by
            have := of_decide_eq_false hlk
            simp only at this
            omega
          subst e
          have hfit : h.fits s L ((c : Nat) : Int) = b := by
            unfold HD.fits
            rw [hL, hb]
          cases b with
          | true =>
            have hM2 := PW.part_yes (ok := S.testBit) (N := M) (r := r) hfit
            have hV2 : V ++ h.ways s S.testBit M r (L ++ [((c : Nat) : Int)]) = W ++ PW.part h s S.testBit M r L (c + 1) := by
              rw [hM2, hV, List.append_assoc]
            (repeat' (first | exact trivial | exact fun _ => rfl | exact rfl | refine And.intro ?_ ?_))
            all_goals (repeat' (first | exact trivial | exact fun _ => rfl | exact rfl | refine And.intro ?_ ?_))
            all_goals first | exact True.intro | omega | exact u1 (lt64 (by omega)) | exact u0 (lt64 (by omega)) | (show under _ _; simp [under, gB, wB]; done) | (show under _ _; simp [under, gB, wB]; omega) | skip
            all_goals intro hx
            all_goals first | exact absurd hx (by decide) | (cases hx; done) | skip
            (repeat' (first | exact trivial | exact fun _ => rfl | exact rfl | refine And.intro ?_ ?_))
            refine drawP E_ok [4] pl69_15 (by kernel_rfl) ?_
            all_goals (repeat' (first | exact trivial | exact fun _ => rfl | exact rfl | refine And.intro ?_ ?_))
            all_goals first | exact Nat.le_refl _ | omega | exact one1P rfl | exact (fun k _ => rfl) | (show (0 + d) * 8 ≤ 140737488355328; omega) | (show (0 + d + 1) * 8 ≤ 140737488355328; omega) | (show (0 + k) * 8 ≤ 140737488355328; omega) | (show (0 + k + 1) * 8 ≤ 140737488355328; omega) | skip
            all_goals intro c1 hc1a hc1b
            all_goals (repeat' (first | exact trivial | exact fun _ => rfl | exact rfl | refine And.intro ?_ ?_))
            all_goals first | exact Nat.le_refl _ | omega | exact one1P rfl | exact (fun k _ => rfl) | (show (0 + d) * 8 ≤ 140737488355328; omega) | (show (0 + d + 1) * 8 ≤ 140737488355328; omega) | (show (0 + k) * 8 ≤ 140737488355328; omega) | (show (0 + k + 1) * 8 ≤ 140737488355328; omega) | skip
            all_goals intro c2 hc2a hc2b
            all_goals (repeat' (first | exact trivial | exact fun _ => rfl | exact rfl | refine And.intro ?_ ?_))
            all_goals refine CallP.frameH (ih (0 + k + 1) (by omega) (by omega) c2 (L ++ [((c : Nat) : Int)]) V cO' cp' (by simp [hL]) ⟨hc2a, hc2b⟩ ⟨hb1, hb2⟩ (by
                rw [hV2]
                have := PW.part_le (h := h) (s := s) (ok := S.testBit) (N := M) (r := r) (L := L) (show c + 1 ≤ M from hcc')
                simp only [List.length_append] at hlen ⊢
                omega)) [0, 10, 5, 6] ?_ rfl ?_
            all_goals first | ((repeat' (first | exact trivial | exact rfl | exact fun _ _ => rfl | exact fun _ _ _ _ => rfl | exact Or.inl rfl | exact Or.inr rfl | refine And.intro ?_ ?_)); exact fun k hk => sel_app hL hk rfl) | skip
            all_goals rintro ce h' ⟨cO3, cp3, hb3, rfl, rfl⟩
            all_goals refine ⟨rfl, ?_⟩
            all_goals (repeat' (first | exact trivial | exact fun _ => rfl | exact rfl | refine And.intro ?_ ?_))
            all_goals first | (first | omega | exact u0 (by omega) | exact u1 (by omega) | exact u1 ⟨by omega, by omega⟩ | exact un (by omega) | exact fun hh => hh | exact fun hh => absurd hh (by decide) | exact fun hh => congrArg not hh | exact fun hh => Bool.noConfusion (show true = false from hh) | exact fun hh => Bool.noConfusion (show false = true from hh)) | skip
            all_goals refine ⟨(c + 1, V ++ h.ways s S.testBit M r (L ++ [((c : Nat) : Int)]), cO3, cp3), ⟨hcc', hV2, hb3.1, hb3.2⟩, by simp only; omega, ?_⟩
            all_goals exact ent_tau [0, 1, 2, 3, 4, 11, 12] ⟨by (repeat' (first | exact trivial | exact rfl | exact fun _ _ => rfl | exact fun _ _ _ _ => rfl | exact Or.inl rfl | exact Or.inr rfl | refine And.intro ?_ ?_)), by (repeat' (first | exact trivial | exact rfl | exact congrArg (SV.int .i64) (Int.natCast_succ _).symm | exact congrArg (SV.int .u64) (Int.natCast_succ _).symm | refine And.intro ?_ ?_)), rfl⟩
          | false =>
            have hM2 := PW.part_no (ok := S.testBit) (N := M) (r := r) hfit
            (repeat' (first | exact trivial | exact fun _ => rfl | exact rfl | refine And.intro ?_ ?_))
            all_goals (repeat' (first | exact trivial | exact fun _ => rfl | exact rfl | refine And.intro ?_ ?_))
            all_goals first | exact True.intro | omega | exact u1 (lt64 (by omega)) | exact u0 (lt64 (by omega)) | (show under _ _; simp [under, gB, wB]; done) | (show under _ _; simp [under, gB, wB]; omega) | skip
            all_goals intro hx
            all_goals first | exact absurd hx (by decide) | (cases hx; done) | skip
            (repeat' (first | exact trivial | exact fun _ => rfl | exact rfl | refine And.intro ?_ ?_))
            all_goals first | (first | omega | exact u0 (by omega) | exact u1 (by omega) | exact u1 ⟨by omega, by omega⟩ | exact un (by omega) | exact fun hh => hh | exact fun hh => absurd hh (by decide) | exact fun hh => congrArg not hh | exact fun hh => Bool.noConfusion (show true = false from hh) | exact fun hh => Bool.noConfusion (show false = true from hh)) | skip
            refine ⟨(c + 1, V, cO', cp'), ⟨hcc', by rw [hM2]; exact hV, hb1, hb2⟩, by simp only; omega, ?_⟩
            exact ent_tau [0, 1, 2, 3, 4, 5, 6] ⟨by (repeat' (first | exact trivial | exact rfl | exact fun _ _ => rfl | exact fun _ _ _ _ => rfl | exact Or.inl rfl | exact Or.inr rfl | refine And.intro ?_ ?_)), by (repeat' (first | exact trivial | exact rfl | exact congrArg (SV.int .i64) (Int.natCast_succ _).symm | exact congrArg (SV.int .u64) (Int.natCast_succ _).symm | refine And.intro ?_ ?_)), rfl⟩
      · have hcn : c = M := by
          have := of_decide_eq_false hcc
          simp only at this
          omega
        subst hcn
        rw [← hV]
        (repeat' (first | exact trivial | exact fun _ => rfl | exact rfl | refine And.intro ?_ ?_))
        refine ⟨.ret (.slice 4 1 0 V.length cO'), [some (.roa 4 h.n (HD.F h)), some .dead, some .dead, some .dead, some (.arr 1 V.length cO' (rowsC 5 h.n cp')), some (poolW h.n V)], ⟨cO', cp', ⟨hb1, hb2⟩, rfl, rfl⟩, ?_⟩
        exact ent_tau [0, 1, 2, 3, 5, 6] ⟨by (repeat' (first | exact trivial | exact rfl | exact fun _ _ => rfl | exact fun _ _ _ _ => rfl | exact Or.inl rfl | exact Or.inr rfl | refine And.intro ?_ ?_)), by (repeat' (first | exact trivial | exact rfl | exact congrArg (SV.int .i64) (Int.natCast_succ _).symm | exact congrArg (SV.int .u64) (Int.natCast_succ _).symm | refine And.intro ?_ ?_)), rfl⟩
end Go.Proofs.Ytgofhjihkinknaa
