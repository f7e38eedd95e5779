/-
  Parts: Qj, Qk, Ql.
-/
import Derived.Test.YtgofhjihkinknaaK26
set_option linter.unusedVariables false
/-
  Contracts of the document's answer: Follows, Busy, which move is before another one.
-/
namespace Go.Proofs.Ytgofhjihkinknaa
open Go Go.Sy Kuhn
set_option linter.unusedSimpArgs false
set_option maxRecDepth 100000
set_option maxHeartbeats 4000000
attribute [local irreducible] CallP CodeP Ent YieldP
attribute [local irreducible] HD.ch maskO

theorem fol_no {h : HD} {a b : Int} {v i1 i2 : Bool} (hv : vb h = v) (h1 : inB a 0 (h.n - 1) = i1) (h2 : inB b 0 (h.n - 1) = i2) (hne : (v && (i1 && i2)) = false) : HD.fol h a b = (0, errB v (i1 && i2)) := by
  unfold HD.fol
  cases v with
  | false =>
    rw [if_neg fun hv' => by rw [vb_yes hv'] at hv; cases hv]
    rfl
  | true =>
    rw [if_pos (vb_iff.1 hv), h1, h2]
    cases i1 <;> cases i2 <;> first | rfl | cases hne
theorem t17 (h : HD) (hn : h.n ≤ 1000000) (a b : Int) : CallP Try.prog 17 [HD.A h, .int .i64 a, .int .i64 b] (HD.H h) (Ret (.tup [.int .i64 (HD.fol h a b).1, .int .i64 (HD.fol h a b).2]) (HD.H h)) := by
  obtain ⟨v, hv⟩ : ∃ v, vb h = v := ⟨_, rfl⟩
  obtain ⟨i1, h1⟩ : ∃ v, inB a 0 (h.n - 1) = v := ⟨_, rfl⟩
  obtain ⟨i2, h2⟩ : ∃ v, inB b 0 (h.n - 1) = v := ⟨_, rfl⟩
  have ca := t53 h a hn
  have cb := t53 h b hn
  rw [h1] at ca
  rw [h2] at cb
  have cc := t52 h (i1 && i2)
  rw [hv] at cc
  by_cases hne : (v && (i1 && i2)) = false
  · rw [fol_no hv h1 h2 hne]
    refine callR (E := E) E_ok Try.func17 rfl ?_
    (repeat' (first | exact trivial | exact fun _ => rfl | exact rfl | refine And.intro ?_ ?_))
    refine drawP E_ok [1] pl17_1 (by kernel_rfl) ?_
    (repeat' (first | exact trivial | exact fun _ => rfl | exact rfl | refine And.intro ?_ ?_))
    refine ca.use [0] ?_ (by (repeat' (first | exact trivial | exact rfl | exact fun _ _ => rfl | exact fun _ _ _ _ => rfl | exact Or.inl rfl | exact Or.inr rfl | refine And.intro ?_ ?_))) rfl
    cases i1
    · all_goals (repeat' (first | exact trivial | exact fun _ => rfl | exact rfl | refine And.intro ?_ ?_))
      all_goals first | exact True.intro | omega | exact u1 (lt64 (by omega)) | exact u0 (lt64 (by omega)) | (show under _ _; simp [under, gB, wB]; done) | (show under _ _; simp [under, gB, wB]; omega) | skip
      all_goals intro hg
      all_goals first | exact absurd hg (by decide) | skip
      cases v <;> cases i2
      all_goals (repeat' (first | exact trivial | exact fun _ => rfl | exact rfl | refine And.intro ?_ ?_))
      all_goals first | exact True.intro | omega | exact u1 (lt64 (by omega)) | exact u0 (lt64 (by omega)) | (show under _ _; simp [under, gB, wB]; done) | (show under _ _; simp [under, gB, wB]; omega) | skip
      all_goals refine cc.use [0] ?_ (by (repeat' (first | exact trivial | exact rfl | exact fun _ _ => rfl | exact fun _ _ _ _ => rfl | exact Or.inl rfl | exact Or.inr rfl | refine And.intro ?_ ?_))) rfl
      all_goals (repeat' (first | exact trivial | exact fun _ => rfl | exact rfl | refine And.intro ?_ ?_))
      all_goals first | exact True.intro | omega | exact u1 (lt64 (by omega)) | exact u0 (lt64 (by omega)) | (show under _ _; simp [under, gB, wB]; done) | (show under _ _; simp [under, gB, wB]; omega) | skip
      all_goals intro hx
      all_goals first | exact absurd hx (by decide) | skip
      all_goals (repeat' (first | exact trivial | exact fun _ => rfl | exact rfl | refine And.intro ?_ ?_))
      all_goals exact ent_tau [0] ⟨by (repeat' (first | exact trivial | exact rfl | exact fun _ _ => rfl | exact fun _ _ _ _ => rfl | exact Or.inl rfl | exact Or.inr rfl | refine And.intro ?_ ?_)), by (repeat' (first | exact trivial | exact rfl | exact congrArg (SV.int .i64) (Int.natCast_succ _).symm | exact congrArg (SV.int .u64) (Int.natCast_succ _).symm | refine And.intro ?_ ?_)), rfl⟩
    · all_goals (repeat' (first | exact trivial | exact fun _ => rfl | exact rfl | refine And.intro ?_ ?_))
      all_goals first | exact True.intro | omega | exact u1 (lt64 (by omega)) | exact u0 (lt64 (by omega)) | (show under _ _; simp [under, gB, wB]; done) | (show under _ _; simp [under, gB, wB]; omega) | skip
      all_goals intro hg
      all_goals first | exact absurd hg (by decide) | skip
      refine cb.use [0] ?_ (by (repeat' (first | exact trivial | exact rfl | exact fun _ _ => rfl | exact fun _ _ _ _ => rfl | exact Or.inl rfl | exact Or.inr rfl | refine And.intro ?_ ?_))) rfl
      cases v <;> cases i2 <;> first | cases hne | skip
      all_goals (repeat' (first | exact trivial | exact fun _ => rfl | exact rfl | refine And.intro ?_ ?_))
      all_goals refine cc.use [0] ?_ (by (repeat' (first | exact trivial | exact rfl | exact fun _ _ => rfl | exact fun _ _ _ _ => rfl | exact Or.inl rfl | exact Or.inr rfl | refine And.intro ?_ ?_))) rfl
      all_goals (repeat' (first | exact trivial | exact fun _ => rfl | exact rfl | refine And.intro ?_ ?_))
      all_goals first | exact True.intro | omega | exact u1 (lt64 (by omega)) | exact u0 (lt64 (by omega)) | (show under _ _; simp [under, gB, wB]; done) | (show under _ _; simp [under, gB, wB]; omega) | skip
      all_goals intro hx
      all_goals first | exact absurd hx (by decide) | skip
      all_goals (repeat' (first | exact trivial | exact fun _ => rfl | exact rfl | refine And.intro ?_ ?_))
      all_goals exact ent_tau [0] ⟨by (repeat' (first | exact trivial | exact rfl | exact fun _ _ => rfl | exact fun _ _ _ _ => rfl | exact Or.inl rfl | exact Or.inr rfl | refine And.intro ?_ ?_)), by (repeat' (first | exact trivial | exact rfl | exact congrArg (SV.int .i64) (Int.natCast_succ _).symm | exact congrArg (SV.int .u64) (Int.natCast_succ _).symm | refine And.intro ?_ ?_)), rfl⟩
  · have hall : v = true ∧ i1 = true ∧ i2 = true := by
      cases v <;> cases i1 <;> cases i2 <;> simp at hne ⊢
    obtain ⟨rfl, rfl, rfl⟩ := hall
    have hv' := vb_iff.1 hv
    have r1 := inB_iff.1 h1
    have r2 := inB_iff.1 h2
    obtain ⟨i, rfl⟩ : ∃ i : Nat, a = i := ⟨a.toNat, by omega⟩
    obtain ⟨k, rfl⟩ : ∃ k : Nat, b = k := ⟨b.toNat, by omega⟩
    have hi : i < h.n := by omega
    have hk : k < h.n := by omega
    rw [fol_in hv' hi hk]
    have d1 := t54 h hv' true i k hi hk
    have d2 := t54 h hv' false i k hi hk
    unfold fv
    obtain ⟨b1, e1⟩ : ∃ v, h.can true i k = v := ⟨_, rfl⟩
    obtain ⟨b2, e2⟩ : ∃ v, h.can false i k = v := ⟨_, rfl⟩
    rw [e1] at d1 ⊢
    rw [e2] at d2 ⊢
    refine callR (E := E) E_ok Try.func17 rfl ?_
    (repeat' (first | exact trivial | exact fun _ => rfl | exact rfl | refine And.intro ?_ ?_))
    refine drawP E_ok [1] pl17_1 (by kernel_rfl) ?_
    (repeat' (first | exact trivial | exact fun _ => rfl | exact rfl | refine And.intro ?_ ?_))
    refine ca.use [0] ?_ (by (repeat' (first | exact trivial | exact rfl | exact fun _ _ => rfl | exact fun _ _ _ _ => rfl | exact Or.inl rfl | exact Or.inr rfl | refine And.intro ?_ ?_))) rfl
    all_goals (repeat' (first | exact trivial | exact fun _ => rfl | exact rfl | refine And.intro ?_ ?_))
    all_goals first | exact True.intro | omega | exact u1 (lt64 (by omega)) | exact u0 (lt64 (by omega)) | (show under _ _; simp [under, gB, wB]; done) | (show under _ _; simp [under, gB, wB]; omega) | skip
    all_goals intro hg
    all_goals first | exact absurd hg (by decide) | skip
    refine cb.use [0] ?_ (by (repeat' (first | exact trivial | exact rfl | exact fun _ _ => rfl | exact fun _ _ _ _ => rfl | exact Or.inl rfl | exact Or.inr rfl | refine And.intro ?_ ?_))) rfl
    (repeat' (first | exact trivial | exact fun _ => rfl | exact rfl | refine And.intro ?_ ?_))
    refine cc.use [0] ?_ (by (repeat' (first | exact trivial | exact rfl | exact fun _ _ => rfl | exact fun _ _ _ _ => rfl | exact Or.inl rfl | exact Or.inr rfl | refine And.intro ?_ ?_))) rfl
    all_goals (repeat' (first | exact trivial | exact fun _ => rfl | exact rfl | refine And.intro ?_ ?_))
    all_goals first | exact True.intro | omega | exact u1 (lt64 (by omega)) | exact u0 (lt64 (by omega)) | (show under _ _; simp [under, gB, wB]; done) | (show under _ _; simp [under, gB, wB]; omega) | skip
    all_goals intro hx
    all_goals first | exact absurd hx (by decide) | skip
    (repeat' (first | exact trivial | exact fun _ => rfl | exact rfl | refine And.intro ?_ ?_))
    refine d1.use [0] ?_ (by (repeat' (first | exact trivial | exact rfl | exact fun _ _ => rfl | exact fun _ _ _ _ => rfl | exact Or.inl rfl | exact Or.inr rfl | refine And.intro ?_ ?_))) rfl
    cases b1
    · all_goals (repeat' (first | exact trivial | exact fun _ => rfl | exact rfl | refine And.intro ?_ ?_))
      all_goals first | exact True.intro | omega | exact u1 (lt64 (by omega)) | exact u0 (lt64 (by omega)) | (show under _ _; simp [under, gB, wB]; done) | (show under _ _; simp [under, gB, wB]; omega) | skip
      all_goals intro hx
      all_goals first | exact absurd hx (by decide) | skip
      (repeat' (first | exact trivial | exact fun _ => rfl | exact rfl | refine And.intro ?_ ?_))
      refine d2.use [0] ?_ (by (repeat' (first | exact trivial | exact rfl | exact fun _ _ => rfl | exact fun _ _ _ _ => rfl | exact Or.inl rfl | exact Or.inr rfl | refine And.intro ?_ ?_))) rfl
      cases b2
      · all_goals (repeat' (first | exact trivial | exact fun _ => rfl | exact rfl | refine And.intro ?_ ?_))
        all_goals first | exact True.intro | omega | exact u1 (lt64 (by omega)) | exact u0 (lt64 (by omega)) | (show under _ _; simp [under, gB, wB]; done) | (show under _ _; simp [under, gB, wB]; omega) | skip
        all_goals intro hx
        all_goals first | exact absurd hx (by decide) | skip
        (repeat' (first | exact trivial | exact fun _ => rfl | exact rfl | refine And.intro ?_ ?_))
        exact ent_tau [0] ⟨by (repeat' (first | exact trivial | exact rfl | exact fun _ _ => rfl | exact fun _ _ _ _ => rfl | exact Or.inl rfl | exact Or.inr rfl | refine And.intro ?_ ?_)), by (repeat' (first | exact trivial | exact rfl | exact congrArg (SV.int .i64) (Int.natCast_succ _).symm | exact congrArg (SV.int .u64) (Int.natCast_succ _).symm | refine And.intro ?_ ?_)), rfl⟩
      · all_goals (repeat' (first | exact trivial | exact fun _ => rfl | exact rfl | refine And.intro ?_ ?_))
        all_goals first | exact True.intro | omega | exact u1 (lt64 (by omega)) | exact u0 (lt64 (by omega)) | (show under _ _; simp [under, gB, wB]; done) | (show under _ _; simp [under, gB, wB]; omega) | skip
        all_goals intro hx
        all_goals first | exact absurd hx (by decide) | skip
        (repeat' (first | exact trivial | exact fun _ => rfl | exact rfl | refine And.intro ?_ ?_))
        exact ent_tau [0] ⟨by (repeat' (first | exact trivial | exact rfl | exact fun _ _ => rfl | exact fun _ _ _ _ => rfl | exact Or.inl rfl | exact Or.inr rfl | refine And.intro ?_ ?_)), by (repeat' (first | exact trivial | exact rfl | exact congrArg (SV.int .i64) (Int.natCast_succ _).symm | exact congrArg (SV.int .u64) (Int.natCast_succ _).symm | refine And.intro ?_ ?_)), rfl⟩
    · all_goals (repeat' (first | exact trivial | exact fun _ => rfl | exact rfl | refine And.intro ?_ ?_))
      all_goals first | exact True.intro | omega | exact u1 (lt64 (by omega)) | exact u0 (lt64 (by omega)) | (show under _ _; simp [under, gB, wB]; done) | (show under _ _; simp [under, gB, wB]; omega) | skip
      all_goals intro hx
      all_goals first | exact absurd hx (by decide) | skip
      (repeat' (first | exact trivial | exact fun _ => rfl | exact rfl | refine And.intro ?_ ?_))
      exact ent_tau [0] ⟨by (repeat' (first | exact trivial | exact rfl | exact fun _ _ => rfl | exact fun _ _ _ _ => rfl | exact Or.inl rfl | exact Or.inr rfl | refine And.intro ?_ ?_)), by (repeat' (first | exact trivial | exact rfl | exact congrArg (SV.int .i64) (Int.natCast_succ _).symm | exact congrArg (SV.int .u64) (Int.natCast_succ _).symm | refine And.intro ?_ ?_)), rfl⟩
def befB (h : HD) (i k : Nat) : Bool := decide (h.at' i < h.at' k) || (decide (h.at' i = h.at' k) && decide (i < k))
theorem befB_iff {h : HD} {i k : Nat} : befB h i k = true ↔ befo h.at' i k := by
  unfold befB befo
  simp
theorem t90 (h : HD) (hn : h.n ≤ 1000000) (i k : Nat) (hi : i < h.n) (hk : k < h.n) : CallP Try.prog 90 [HD.A h, .int .i64 i, .int .i64 k] (HD.H h) (Ret (.bool (befB h i k)) (HD.H h)) := by
  have ei := z1 i
  have ek := z1 k
  refine callR (E := E) E_ok Try.func90 rfl ?_
  (repeat' (first | exact trivial | exact fun _ => rfl | exact rfl | refine And.intro ?_ ?_))
  refine drawP E_ok [1] pl90_1 (by kernel_rfl) ?_
  (repeat' (first | exact trivial | exact fun _ => rfl | exact rfl | refine And.intro ?_ ?_))
  all_goals first | exact True.intro | omega | exact u1 (lt64 (by omega)) | exact u0 (lt64 (by omega)) | (show under _ _; simp [under, gB, wB]; done) | (show under _ _; simp [under, gB, wB]; omega) | skip
  refine ent_tau [0] ⟨by (repeat' (first | exact trivial | exact rfl | exact fun _ _ => rfl | exact Or.inl rfl | refine And.intro ?_ ?_)), ⟨rfl, ?_, trivial⟩, rfl⟩
  refine congrArg SV.bool ?_
  have dn : decide ((i : Int) < (k : Int)) = decide (i < k) := by simp
  rw [ei, ek, dn]
  unfold befB
  cases decide (h.at' i < h.at' k) <;> cases decide (h.at' i = h.at' k) <;> rfl
end Go.Proofs.Ytgofhjihkinknaa
/-
  Contracts of the document's answer: Check.
-/
namespace Go.Proofs.Ytgofhjihkinknaa
open Go Go.Sy Kuhn
set_option linter.unusedSimpArgs false
set_option maxRecDepth 100000
set_option maxHeartbeats 4000000
attribute [local irreducible] CallP CodeP Ent YieldP
attribute [local irreducible] HD.ch maskO

theorem chk_no {h : HD} {s : Bool} {pl : PD} {v c : Bool} (hv : vb h = v) (hc : pok h pl = c) (hne : (v && c) = false) : HD.chk h s pl = (0, 0, errB v c) := by
  apply chk_is
  cases v with
  | false => exact .inl ⟨fun hv' => Bool.noConfusion ((vb_yes hv').symm.trans hv), rfl⟩
  | true =>
    cases c with
    | true => cases hne
    | false => exact .inr (.inl ⟨vb_iff.1 hv, hc, rfl⟩)
theorem t19 (h : HD) (pl : PD) (hn : pl.n ≤ 1000000) (s : Bool) : CallP Try.prog 19 [HD.A h, .osl pl.b 1 1 pl.n pl.cap, .bool s] (HD.H h ++ [some (.roa 1 pl.n (PD.F pl))])
    (Ret (.tup [.int .i64 (HD.chk h s pl).1, .int .i64 (HD.chk h s pl).2.1, .int .i64 (HD.chk h s pl).2.2]) (HD.H h ++ [some (.roa 1 pl.n (PD.F pl))])) := by
  obtain ⟨v, hv⟩ : ∃ v, vb h = v := ⟨_, rfl⟩
  obtain ⟨c, hc⟩ : ∃ v, pok h pl = v := ⟨_, rfl⟩
  have c39 := t39 h pl hn
  rw [hc] at c39
  have c52 := t52 h c
  rw [hv] at c52
  obtain ⟨r, hr⟩ : ∃ r, HD.chk h s pl = r := ⟨_, rfl⟩
  rw [hr]
  by_cases hne : (v && c) = false
  · rw [chk_no hv hc hne] at hr
    subst hr
    refine callR (E := E) E_ok Try.func19 rfl ?_
    (repeat' (first | exact trivial | exact fun _ => rfl | exact rfl | refine And.intro ?_ ?_))
    refine drawP E_ok [2] pl19_1 (by kernel_rfl) ?_
    (repeat' (first | exact trivial | exact fun _ => rfl | exact rfl | refine And.intro ?_ ?_))
    refine c39.use [0, 1] ?_ (by (repeat' (first | exact trivial | exact rfl | exact fun _ _ => rfl | exact fun _ _ _ _ => rfl | exact Or.inl rfl | exact Or.inr rfl | refine And.intro ?_ ?_))) rfl
    cases v <;> cases c <;> first | cases hne | skip
    all_goals (repeat' (first | exact trivial | exact fun _ => rfl | exact rfl | refine And.intro ?_ ?_))
    all_goals first | exact True.intro | omega | exact u1 (lt64 (by omega)) | exact u0 (lt64 (by omega)) | (show under _ _; simp [under, gB, wB]; done) | (show under _ _; simp [under, gB, wB]; omega) | skip
    all_goals refine c52.use [0] ?_ (by (repeat' (first | exact trivial | exact rfl | exact fun _ _ => rfl | exact fun _ _ _ _ => rfl | exact Or.inl rfl | exact Or.inr rfl | refine And.intro ?_ ?_))) rfl
    all_goals (repeat' (first | exact trivial | exact fun _ => rfl | exact rfl | refine And.intro ?_ ?_))
    all_goals first | exact True.intro | omega | exact u1 (lt64 (by omega)) | exact u0 (lt64 (by omega)) | (show under _ _; simp [under, gB, wB]; done) | (show under _ _; simp [under, gB, wB]; omega) | skip
    all_goals intro hx
    all_goals first | exact absurd hx (by decide) | skip
    all_goals (repeat' (first | exact trivial | exact fun _ => rfl | exact rfl | refine And.intro ?_ ?_))
    all_goals exact ent_tau [0, 1] ⟨by (repeat' (first | exact trivial | exact rfl | exact fun _ _ => rfl | exact fun _ _ _ _ => rfl | exact Or.inl rfl | exact Or.inr rfl | refine And.intro ?_ ?_)), by (repeat' (first | exact trivial | exact rfl | exact congrArg (SV.int .i64) (Int.natCast_succ _).symm | exact congrArg (SV.int .u64) (Int.natCast_succ _).symm | refine And.intro ?_ ?_)), rfl⟩
  · have hall : v = true ∧ c = true := by
      cases v <;> cases c <;> simp at hne ⊢
    obtain ⟨rfl, rfl⟩ := hall
    have hv' := vb_iff.1 hv
    have hn7 := hv'.2.1
    have hpn : pl.n = h.n := by
      unfold pok at hc
      simp only [Bool.and_eq_true, decide_eq_true_eq] at hc
      exact hc.1
    refine callR (E := E) E_ok Try.func19 rfl ?_
    (repeat' (first | exact trivial | exact fun _ => rfl | exact rfl | refine And.intro ?_ ?_))
    refine drawP E_ok [2] pl19_1 (by kernel_rfl) ?_
    (repeat' (first | exact trivial | exact fun _ => rfl | exact rfl | refine And.intro ?_ ?_))
    refine c39.use [0, 1] ?_ (by (repeat' (first | exact trivial | exact rfl | exact fun _ _ => rfl | exact fun _ _ _ _ => rfl | exact Or.inl rfl | exact Or.inr rfl | refine And.intro ?_ ?_))) rfl
    all_goals (repeat' (first | exact trivial | exact fun _ => rfl | exact rfl | refine And.intro ?_ ?_))
    all_goals first | exact True.intro | omega | exact u1 (lt64 (by omega)) | exact u0 (lt64 (by omega)) | (show under _ _; simp [under, gB, wB]; done) | (show under _ _; simp [under, gB, wB]; omega) | skip
    refine c52.use [0] ?_ (by (repeat' (first | exact trivial | exact rfl | exact fun _ _ => rfl | exact fun _ _ _ _ => rfl | exact Or.inl rfl | exact Or.inr rfl | refine And.intro ?_ ?_))) rfl
    all_goals (repeat' (first | exact trivial | exact fun _ => rfl | exact rfl | refine And.intro ?_ ?_))
    all_goals first | exact True.intro | omega | exact u1 (lt64 (by omega)) | exact u0 (lt64 (by omega)) | (show under _ _; simp [under, gB, wB]; done) | (show under _ _; simp [under, gB, wB]; omega) | skip
    all_goals intro hx
    all_goals first | exact absurd hx (by decide) | skip
    (repeat' (first | exact trivial | exact fun _ => rfl | exact rfl | refine And.intro ?_ ?_))
    refine loopP E_ok [1, 2, 3] (fun i : Nat => [(10, .int .i64 i)]) (fun _ H => H) (fun i => i ≤ pl.n ∧ ∀ i' k', i' < i → i' < k' → k' < pl.n → ¬ twoBad h s pl i' k') (fun i => pl.n - i) 0 ⟨Nat.zero_le _, fun i' _ hk => absurd hk (Nat.not_lt_zero i')⟩ ?_ ?_
    · exact ent_tau [0, 1, 2] ⟨by (repeat' (first | exact trivial | exact rfl | exact fun _ _ => rfl | exact fun _ _ _ _ => rfl | exact Or.inl rfl | exact Or.inr rfl | refine And.intro ?_ ?_)), by (repeat' (first | exact trivial | exact rfl | exact congrArg (SV.int .i64) (Int.natCast_succ _).symm | exact congrArg (SV.int .u64) (Int.natCast_succ _).symm | refine And.intro ?_ ?_)), rfl⟩
    rintro i ⟨hi, hall⟩
    refine And.intro ?_ (And.intro (fun hlt => ?_) (fun hlt => ?_))
    · (repeat' (first | exact trivial | exact fun _ => rfl | exact rfl | refine And.intro ?_ ?_))
    · have hlt' : i < pl.n := by
        have := of_decide_eq_true hlt
        omega
      (repeat' (first | exact trivial | exact fun _ => rfl | exact rfl | refine And.intro ?_ ?_))
      all_goals first | (first | omega | exact u0 (by omega) | exact u1 (by omega) | exact u1 ⟨by omega, by omega⟩ | exact un (by omega) | exact fun hh => hh | exact fun hh => absurd hh (by decide) | exact fun hh => congrArg not hh | exact fun hh => Bool.noConfusion (show true = false from hh) | exact fun hh => Bool.noConfusion (show false = true from hh)) | skip
      refine loopP E_ok [1, 2, 3, 10] (fun k : Nat => [(11, .int .i64 k)]) (fun _ H => H) (fun k => i < k ∧ k ≤ pl.n ∧ ∀ k', i < k' → k' < k → ¬ twoBad h s pl i k') (fun k => pl.n - k) (i + 1) ⟨Nat.lt_succ_self i, hlt', fun k' a b => absurd b (by omega)⟩ ?_ ?_
      · exact ent_tau [0, 1, 2] ⟨by (repeat' (first | exact trivial | exact rfl | exact fun _ _ => rfl | exact fun _ _ _ _ => rfl | exact Or.inl rfl | exact Or.inr rfl | refine And.intro ?_ ?_)), by (repeat' (first | exact trivial | exact rfl | exact congrArg (SV.int .i64) (Int.natCast_succ _).symm | exact congrArg (SV.int .u64) (Int.natCast_succ _).symm | refine And.intro ?_ ?_)), rfl⟩
      rintro k ⟨hik, hk, hall2⟩
      refine And.intro ?_ (And.intro (fun hlk => ?_) (fun hlk => ?_))
      · (repeat' (first | exact trivial | exact fun _ => rfl | exact rfl | refine And.intro ?_ ?_))
      · have hlk' : k < pl.n := by
          have := of_decide_eq_true hlk
          omega
        have ei := z1 i
        have ek := z1 k
        obtain ⟨b, hb⟩ : ∃ b, h.apart s i k = b := ⟨_, rfl⟩
        have c58 := t58 h hv' s i k (by omega) (by omega)
        rw [hb] at c58
        (repeat' (first | exact trivial | exact fun _ => rfl | exact rfl | refine And.intro ?_ ?_))
        refine drawP E_ok [2] pl19_10 (by kernel_rfl) ?_
        (repeat' (first | exact trivial | exact fun _ => rfl | exact rfl | refine And.intro ?_ ?_))
        all_goals first | exact True.intro | omega | exact u1 (lt64 (by omega)) | exact u0 (lt64 (by omega)) | (show under _ _; simp [under, gB, wB]; done) | (show under _ _; simp [under, gB, wB]; omega) | skip
        · intro hg
          have heq : pl.p i = pl.p k := by simpa [gB, wB, ei, ek] using hg
          refine c58.use [0] ?_ (by (repeat' (first | exact trivial | exact rfl | exact fun _ _ => rfl | exact fun _ _ _ _ => rfl | exact Or.inl rfl | exact Or.inr rfl | refine And.intro ?_ ?_))) rfl
          cases b with
          | true =>
            (repeat' (first | exact trivial | exact fun _ => rfl | exact rfl | refine And.intro ?_ ?_))
            all_goals first | exact True.intro | omega | exact u1 (lt64 (by omega)) | exact u0 (lt64 (by omega)) | (show under _ _; simp [under, gB, wB]; done) | (show under _ _; simp [under, gB, wB]; omega) | skip
            · intro hx
              have er : r = ((i : Int), (k : Int), 0) := by
                rw [← hr]
                refine chk_is (.inr (.inr ⟨hv', hc, .inl ⟨i, k, ⟨hik, by omega, heq, hb⟩, fun i' k' h1 h2 h3 => ?_, rfl⟩⟩))
                rcases Nat.lt_trichotomy i' i with c | c | c
                · exact absurd h3 (hall i' k' c h1 (by omega))
                · subst c
                  by_cases d : k ≤ k'
                  · exact .inr ⟨rfl, d⟩
                  · exact absurd h3 (hall2 k' h1 (by omega))
                · exact .inl c
              clear hr
              subst er
              (repeat' (first | exact trivial | exact fun _ => rfl | exact rfl | refine And.intro ?_ ?_))
              all_goals first | exact True.intro | omega | exact u1 (lt64 (by omega)) | exact u0 (lt64 (by omega)) | (show under _ _; simp [under, gB, wB]; done) | (show under _ _; simp [under, gB, wB]; omega) | skip
              exact ent_tau [0, 1] ⟨by (repeat' (first | exact trivial | exact rfl | exact fun _ _ => rfl | exact fun _ _ _ _ => rfl | exact Or.inl rfl | exact Or.inr rfl | refine And.intro ?_ ?_)), by (repeat' (first | exact trivial | exact rfl | exact congrArg (SV.int .i64) (Int.natCast_succ _).symm | exact congrArg (SV.int .u64) (Int.natCast_succ _).symm | refine And.intro ?_ ?_)), rfl⟩
            · intro hx
              exfalso
              revert hx
              simp [ei, ek, heq]
          | false =>
            have hb2 : ¬ twoBad h s pl i k := by
              rintro ⟨_, b2⟩
              rw [hb] at b2
              cases b2
            (repeat' (first | exact trivial | exact fun _ => rfl | exact rfl | refine And.intro ?_ ?_))
            all_goals first | exact True.intro | omega | exact u1 (lt64 (by omega)) | exact u0 (lt64 (by omega)) | (show under _ _; simp [under, gB, wB]; done) | (show under _ _; simp [under, gB, wB]; omega) | skip
            · intro hx
              exfalso
              revert hx
              simp
            intro hx
            (repeat' (first | exact trivial | exact fun _ => rfl | exact rfl | refine And.intro ?_ ?_))
            all_goals first | exact True.intro | omega | exact u1 (lt64 (by omega)) | exact u0 (lt64 (by omega)) | (show under _ _; simp [under, gB, wB]; done) | (show under _ _; simp [under, gB, wB]; omega) | skip
            refine ⟨k + 1, ⟨by omega, hlk', fun k' h1 h2 => ?_⟩, by omega, ?_⟩
            · by_cases c : k' = k
              · rw [c]
                exact hb2
              · exact hall2 k' h1 (by omega)
            exact ent_tau [0, 1, 2] ⟨by (repeat' (first | exact trivial | exact rfl | exact fun _ _ => rfl | exact fun _ _ _ _ => rfl | exact Or.inl rfl | exact Or.inr rfl | refine And.intro ?_ ?_)), by (repeat' (first | exact trivial | exact rfl | exact congrArg (SV.int .i64) (Int.natCast_succ _).symm | exact congrArg (SV.int .u64) (Int.natCast_succ _).symm | refine And.intro ?_ ?_)), rfl⟩
        · intro hg
          have heq : ¬ pl.p i = pl.p k := by simpa [gB, wB, ei, ek] using hg
          have hb2 : ¬ twoBad h s pl i k := fun b2 => heq b2.1
          (repeat' (first | exact trivial | exact fun _ => rfl | exact rfl | refine And.intro ?_ ?_))
          all_goals first | exact True.intro | omega | exact u1 (lt64 (by omega)) | exact u0 (lt64 (by omega)) | (show under _ _; simp [under, gB, wB]; done) | (show under _ _; simp [under, gB, wB]; omega) | skip
          · intro hx
            exfalso
            revert hx
            simp [ei, ek, heq]
          intro hx
          (repeat' (first | exact trivial | exact fun _ => rfl | exact rfl | refine And.intro ?_ ?_))
          all_goals first | exact True.intro | omega | exact u1 (lt64 (by omega)) | exact u0 (lt64 (by omega)) | (show under _ _; simp [under, gB, wB]; done) | (show under _ _; simp [under, gB, wB]; omega) | skip
          refine ⟨k + 1, ⟨by omega, hlk', fun k' h1 h2 => ?_⟩, by omega, ?_⟩
          · by_cases c : k' = k
            · rw [c]
              exact hb2
            · exact hall2 k' h1 (by omega)
          exact ent_tau [0, 1, 2] ⟨by (repeat' (first | exact trivial | exact rfl | exact fun _ _ => rfl | exact fun _ _ _ _ => rfl | exact Or.inl rfl | exact Or.inr rfl | refine And.intro ?_ ?_)), by (repeat' (first | exact trivial | exact rfl | exact congrArg (SV.int .i64) (Int.natCast_succ _).symm | exact congrArg (SV.int .u64) (Int.natCast_succ _).symm | refine And.intro ?_ ?_)), rfl⟩
      · (repeat' (first | exact trivial | exact fun _ => rfl | exact rfl | refine And.intro ?_ ?_))
        all_goals first | exact True.intro | omega | exact u1 (lt64 (by omega)) | exact u0 (lt64 (by omega)) | (show under _ _; simp [under, gB, wB]; done) | (show under _ _; simp [under, gB, wB]; omega) | skip
        refine ⟨i + 1, ⟨hlt', fun i' k' h1 h2 h3 => ?_⟩, by omega, ?_⟩
        · have ek : k = pl.n := by
            have := of_decide_eq_false hlk
            omega
          by_cases c : i' = i
          · rw [c] at h2 ⊢
            exact hall2 k' h2 (by omega)
          · exact hall i' k' (by omega) h2 h3
        exact ent_tau [0, 1, 2] ⟨by (repeat' (first | exact trivial | exact rfl | exact fun _ _ => rfl | exact fun _ _ _ _ => rfl | exact Or.inl rfl | exact Or.inr rfl | refine And.intro ?_ ?_)), by (repeat' (first | exact trivial | exact rfl | exact congrArg (SV.int .i64) (Int.natCast_succ _).symm | exact congrArg (SV.int .u64) (Int.natCast_succ _).symm | refine And.intro ?_ ?_)), rfl⟩
    · have er : r = (0, 0, 4) := by
        have := of_decide_eq_false hlt
        rw [← hr]
        exact chk_is (.inr (.inr ⟨hv', hc, .inr ⟨fun i' k' h1 h2 h3 => hall i' k' (by omega) h1 (by omega) h3, rfl⟩⟩))
      clear hr
      subst er
      (repeat' (first | exact trivial | exact fun _ => rfl | exact rfl | refine And.intro ?_ ?_))
      all_goals first | exact True.intro | omega | exact u1 (lt64 (by omega)) | exact u0 (lt64 (by omega)) | (show under _ _; simp [under, gB, wB]; done) | (show under _ _; simp [under, gB, wB]; omega) | skip
      exact ent_tau [0, 1] ⟨by (repeat' (first | exact trivial | exact rfl | exact fun _ _ => rfl | exact fun _ _ _ _ => rfl | exact Or.inl rfl | exact Or.inr rfl | refine And.intro ?_ ?_)), by (repeat' (first | exact trivial | exact rfl | exact congrArg (SV.int .i64) (Int.natCast_succ _).symm | exact congrArg (SV.int .u64) (Int.natCast_succ _).symm | refine And.intro ?_ ?_)), rfl⟩
end Go.Proofs.Ytgofhjihkinknaa
/-
  Contracts of the document's answer: when a move begins.
-/
namespace Go.Proofs.Ytgofhjihkinknaa
open Go Go.Sy Kuhn
set_option linter.unusedSimpArgs false
set_option maxRecDepth 100000
set_option maxHeartbeats 4000000
attribute [local irreducible] CallP CodeP Ent YieldP
attribute [local irreducible] HD.ch maskO

theorem T59_beg (h : HD) (pl : PD) (s : Bool) : Beg h.n h.at' pl.p (thH h s) (T59 h pl s) := tmS_beg h.at' pl.p (thH h s)
/-- How many moves are before one. -/
def bfr (h : HD) (k : Nat) : Nat := cnt (fun m => befB h m k) h.n
theorem bfr_lt {h : HD} {m k : Nat} (hm : m < h.n) (hb : befo h.at' m k) : bfr h m < bfr h k :=
  cnt_lt (k := m) (fun r _ hr => befB_iff.2 (befo_tr (befB_iff.1 hr) hb)) hm (by
    cases c : befB h m m
    · rfl
    · exact (befo_irr (befB_iff.1 c)).elim) (befB_iff.2 hb)
def lastV : Option Nat → Int
  | none => -1
  | some m => (m : Nat)
def LastIs (h : HD) (p : Nat → Int) (k j : Nat) : Option Nat → Prop
  | none => ∀ m, m < j → befo h.at' m k → p m ≠ p k
  | some m => Prev j h.at' p m k
theorem last_no {h : HD} {p : Nat → Int} {k j : Nat} {o : Option Nat} (H : LastIs h p k j o) (hn : ¬ (p j = p k ∧ befo h.at' j k)) : LastIs h p k (j + 1) o := by
  cases o with
  | none =>
    intro m hm hb e
    by_cases c : m = j
    · subst c
      exact hn ⟨e, hb⟩
    · exact H m (by omega) hb e
  | some m =>
    obtain ⟨⟨a, b, c⟩, d⟩ := H
    refine ⟨⟨by omega, b, c⟩, fun m' hm' hb e => ?_⟩
    by_cases q : m' = j
    · subst q
      exact absurd ⟨e, hb⟩ hn
    · exact d m' (by omega) hb e
theorem last_first {h : HD} {p : Nat → Int} {k j : Nat} (H : LastIs h p k j none) (hy : p j = p k ∧ befo h.at' j k) : LastIs h p k (j + 1) (some j) := by
  refine ⟨⟨by omega, hy.2, hy.1⟩, fun m' hm' hb e => ?_⟩
  by_cases q : m' = j
  · exact .inl q
  · exact absurd e (H m' (by omega) hb)
theorem last_more {h : HD} {p : Nat → Int} {k j m : Nat} (H : LastIs h p k j (some m)) (hy : p j = p k ∧ befo h.at' j k) (hb : befo h.at' m j) : LastIs h p k (j + 1) (some j) := by
  obtain ⟨⟨a, b, c⟩, d⟩ := H
  refine ⟨⟨by omega, hy.2, hy.1⟩, fun m' hm' hb' e => ?_⟩
  by_cases q : m' = j
  · exact .inl q
  · right
    rcases d m' (by omega) hb' e with rfl | x
    · exact hb
    · exact befo_tr x hb
theorem last_less {h : HD} {p : Nat → Int} {k j m : Nat} (H : LastIs h p k j (some m)) (hb : ¬ befo h.at' m j) : LastIs h p k (j + 1) (some m) := by
  obtain ⟨⟨a, b, c⟩, d⟩ := H
  refine ⟨⟨by omega, b, c⟩, fun m' hm' hb' e => ?_⟩
  by_cases q : m' = j
  · subst q
    right
    rcases befo_tot (K := h.at') (a := m) (b := m') (by omega) with x | x
    · exact absurd x hb
    · exact x
  · exact d m' (by omega) hb' e
theorem t60 (h : HD) (hv : h.Valid) (pl : PD) (hpl : pok h pl = true) (s : Bool) : ∀ (f k : Nat), bfr h k < f → k < h.n →
    CallP Try.prog 60 [HD.A h, .osl pl.b 1 1 pl.n pl.cap, .int .i64 k, .bool s] (HD.H h ++ [some (.roa 1 pl.n (PD.F pl))]) (Ret (.int .i64 (T59 h pl s k)) (HD.H h ++ [some (.roa 1 pl.n (PD.F pl))]))
  | 0, k, hf, _ => absurd hf (Nat.not_lt_zero _)
  | f + 1, k, hf, hk => by
    have hn := hv.2.1
    have hpn : pl.n = h.n := by
      unfold pok at hpl
      simp only [Bool.and_eq_true, decide_eq_true_eq] at hpl
      exact hpl.1
    have ek := z1 k
    have B := T59_beg h pl s
    refine callR (E := E) E_ok Try.func60 rfl ?_
    (repeat' (first | exact trivial | exact fun _ => rfl | exact rfl | refine And.intro ?_ ?_))
    refine loopP E_ok [1, 2, 3, 4] (fun g : Nat × Option Nat => [(9, .int .i64 (lastV g.2)), (10, .int .i64 g.1)]) (fun _ H => H) (fun g => g.1 ≤ h.n ∧ LastIs h pl.p k g.1 g.2) (fun g => h.n - g.1) (0, none) ⟨Nat.zero_le _, fun m hm => absurd hm (Nat.not_lt_zero m)⟩ ?_ ?_
    · exact ent_tau [0, 1, 2] ⟨by (repeat' (first | exact trivial | exact rfl | exact fun _ _ => rfl | exact fun _ _ _ _ => rfl | exact Or.inl rfl | exact Or.inr rfl | refine And.intro ?_ ?_)), by (repeat' (first | exact trivial | exact rfl | exact congrArg (SV.int .i64) (Int.natCast_succ _).symm | exact congrArg (SV.int .u64) (Int.natCast_succ _).symm | refine And.intro ?_ ?_)), rfl⟩
    rintro ⟨j, o⟩ ⟨hj, hl⟩
    simp only at hj hl
    refine And.intro ?_ (And.intro (fun hlt => ?_) (fun hlt => ?_))
    · (repeat' (first | exact trivial | exact fun _ => rfl | exact rfl | refine And.intro ?_ ?_))
    · have hlt' : j < h.n := by
        have := of_decide_eq_true hlt
        simp only at this
        omega
      have ej := z1 j
      obtain ⟨b, hb⟩ : ∃ b, befB h j k = b := ⟨_, rfl⟩
      have c90 := t90 h (by omega) j k hlt' hk
      rw [hb] at c90
      (repeat' (first | exact trivial | exact fun _ => rfl | exact rfl | refine And.intro ?_ ?_))
      refine drawP E_ok [2] pl60_5 (by kernel_rfl) ?_
      (repeat' (first | exact trivial | exact fun _ => rfl | exact rfl | refine And.intro ?_ ?_))
      all_goals first | exact True.intro | omega | exact u1 (lt64 (by omega)) | exact u0 (lt64 (by omega)) | (show under _ _; simp [under, gB, wB]; done) | (show under _ _; simp [under, gB, wB]; omega) | skip
      · intro hg
        have heq : pl.p j = pl.p k := by simpa [gB, wB, ej, ek] using hg
        refine c90.use [0] ?_ (by (repeat' (first | exact trivial | exact rfl | exact fun _ _ => rfl | exact fun _ _ _ _ => rfl | exact Or.inl rfl | exact Or.inr rfl | refine And.intro ?_ ?_))) rfl
        cases b with
        | false =>
          have hno : ¬ (pl.p j = pl.p k ∧ befo h.at' j k) := fun q => by
            rw [befB_iff.2 q.2] at hb
            cases hb
          (repeat' (first | exact trivial | exact fun _ => rfl | exact rfl | refine And.intro ?_ ?_))
          all_goals first | exact True.intro | omega | exact u1 (lt64 (by omega)) | exact u0 (lt64 (by omega)) | (show under _ _; simp [under, gB, wB]; done) | (show under _ _; simp [under, gB, wB]; omega) | skip
          · intro hx
            exfalso
            revert hx
            simp [gB, wB, ej, ek, heq]
          · intro _
            (repeat' (first | exact trivial | exact fun _ => rfl | exact rfl | refine And.intro ?_ ?_))
            all_goals first | exact True.intro | omega | exact u1 (lt64 (by omega)) | exact u0 (lt64 (by omega)) | (show under _ _; simp [under, gB, wB]; done) | (show under _ _; simp [under, gB, wB]; omega) | skip
            · intro hx
              exfalso
              revert hx
              simp [gB, wB, ej, ek, heq]
            · intro _
              (repeat' (first | exact trivial | exact fun _ => rfl | exact rfl | refine And.intro ?_ ?_))
              all_goals first | exact True.intro | omega | exact u1 (lt64 (by omega)) | exact u0 (lt64 (by omega)) | (show under _ _; simp [under, gB, wB]; done) | (show under _ _; simp [under, gB, wB]; omega) | skip
              refine ⟨(j + 1, o), ⟨hlt', last_no hl hno⟩, by simp only; omega, ?_⟩
              exact ent_tau [0, 1, 2] ⟨by (repeat' (first | exact trivial | exact rfl | exact fun _ _ => rfl | exact fun _ _ _ _ => rfl | exact Or.inl rfl | exact Or.inr rfl | refine And.intro ?_ ?_)), by (repeat' (first | exact trivial | exact rfl | exact congrArg (SV.int .i64) (Int.natCast_succ _).symm | exact congrArg (SV.int .u64) (Int.natCast_succ _).symm | refine And.intro ?_ ?_)), rfl⟩
        | true =>
          have hb' := befB_iff.1 hb
          cases o with
          | none =>
            (repeat' (first | exact trivial | exact fun _ => rfl | exact rfl | refine And.intro ?_ ?_))
            all_goals first | exact True.intro | omega | exact u1 (lt64 (by omega)) | exact u0 (lt64 (by omega)) | (show under _ _; simp [under, gB, wB]; done) | (show under _ _; simp [under, gB, wB]; omega) | skip
            · intro hx
              exfalso
              revert hx
              simp [gB, wB, ej, ek, heq, lastV]
            · intro _
              (repeat' (first | exact trivial | exact fun _ => rfl | exact rfl | refine And.intro ?_ ?_))
              all_goals first | exact True.intro | omega | exact u1 (lt64 (by omega)) | exact u0 (lt64 (by omega)) | (show under _ _; simp [under, gB, wB]; done) | (show under _ _; simp [under, gB, wB]; omega) | skip
              · simp [lastV, under]
              · intro _
                (repeat' (first | exact trivial | exact fun _ => rfl | exact rfl | refine And.intro ?_ ?_))
                all_goals first | exact True.intro | omega | exact u1 (lt64 (by omega)) | exact u0 (lt64 (by omega)) | (show under _ _; simp [under, gB, wB]; done) | (show under _ _; simp [under, gB, wB]; omega) | skip
                refine ⟨(j + 1, some j), ⟨hlt', last_first hl ⟨heq, hb'⟩⟩, by simp only; omega, ?_⟩
                exact ent_tau [0, 1, 2] ⟨by (repeat' (first | exact trivial | exact rfl | exact fun _ _ => rfl | exact fun _ _ _ _ => rfl | exact Or.inl rfl | exact Or.inr rfl | refine And.intro ?_ ?_)), by (repeat' (first | exact trivial | exact rfl | exact congrArg (SV.int .i64) (Int.natCast_succ _).symm | exact congrArg (SV.int .u64) (Int.natCast_succ _).symm | refine And.intro ?_ ?_)), rfl⟩
              · intro hx
                exfalso
                revert hx
                simp [gB, wB, ej, ek, heq, lastV]
          | some m =>
            have hm : m < j := hl.1.1
            obtain ⟨b2, hb2⟩ : ∃ b, befB h m j = b := ⟨_, rfl⟩
            have c90' := t90 h (by omega) m j (by omega) hlt'
            rw [hb2] at c90'
            have hneg : ¬ ((m : Nat) : Int) < 0 := by omega
            (repeat' (first | exact trivial | exact fun _ => rfl | exact rfl | refine And.intro ?_ ?_))
            all_goals first | exact True.intro | omega | exact u1 (lt64 (by omega)) | exact u0 (lt64 (by omega)) | (show under _ _; simp [under, gB, wB]; done) | (show under _ _; simp [under, gB, wB]; omega) | skip
            · intro _
              refine c90'.use [0] ?_ (by (repeat' (first | exact trivial | exact rfl | exact fun _ _ => rfl | exact fun _ _ _ _ => rfl | exact Or.inl rfl | exact Or.inr rfl | refine And.intro ?_ ?_))) rfl
              cases b2 with
              | true =>
                (repeat' (first | exact trivial | exact fun _ => rfl | exact rfl | refine And.intro ?_ ?_))
                all_goals first | exact True.intro | omega | exact u1 (lt64 (by omega)) | exact u0 (lt64 (by omega)) | (show under _ _; simp [under, gB, wB]; done) | (show under _ _; simp [under, gB, wB]; omega) | skip
                · intro _
                  (repeat' (first | exact trivial | exact fun _ => rfl | exact rfl | refine And.intro ?_ ?_))
                  all_goals first | exact True.intro | omega | exact u1 (lt64 (by omega)) | exact u0 (lt64 (by omega)) | (show under _ _; simp [under, gB, wB]; done) | (show under _ _; simp [under, gB, wB]; omega) | skip
                  refine ⟨(j + 1, some j), ⟨hlt', last_more hl ⟨heq, hb'⟩ (befB_iff.1 hb2)⟩, by simp only; omega, ?_⟩
                  exact ent_tau [0, 1, 2] ⟨by (repeat' (first | exact trivial | exact rfl | exact fun _ _ => rfl | exact fun _ _ _ _ => rfl | exact Or.inl rfl | exact Or.inr rfl | refine And.intro ?_ ?_)), by (repeat' (first | exact trivial | exact rfl | exact congrArg (SV.int .i64) (Int.natCast_succ _).symm | exact congrArg (SV.int .u64) (Int.natCast_succ _).symm | refine And.intro ?_ ?_)), rfl⟩
                · intro hx
                  exfalso
                  revert hx
                  simp [gB, wB, ej, ek, heq, lastV]
              | false =>
                have hnb : ¬ befo h.at' m j := fun q => by
                  rw [befB_iff.2 q] at hb2
                  cases hb2
                (repeat' (first | exact trivial | exact fun _ => rfl | exact rfl | refine And.intro ?_ ?_))
                all_goals first | exact True.intro | omega | exact u1 (lt64 (by omega)) | exact u0 (lt64 (by omega)) | (show under _ _; simp [under, gB, wB]; done) | (show under _ _; simp [under, gB, wB]; omega) | skip
                · intro hx
                  exfalso
                  revert hx
                  simp [gB, wB, ej, ek, heq, lastV, hneg]
                · intro _
                  (repeat' (first | exact trivial | exact fun _ => rfl | exact rfl | refine And.intro ?_ ?_))
                  all_goals first | exact True.intro | omega | exact u1 (lt64 (by omega)) | exact u0 (lt64 (by omega)) | (show under _ _; simp [under, gB, wB]; done) | (show under _ _; simp [under, gB, wB]; omega) | skip
                  refine ⟨(j + 1, some m), ⟨hlt', last_less hl hnb⟩, by simp only; omega, ?_⟩
                  exact ent_tau [0, 1, 2] ⟨by (repeat' (first | exact trivial | exact rfl | exact fun _ _ => rfl | exact fun _ _ _ _ => rfl | exact Or.inl rfl | exact Or.inr rfl | refine And.intro ?_ ?_)), by (repeat' (first | exact trivial | exact rfl | exact congrArg (SV.int .i64) (Int.natCast_succ _).symm | exact congrArg (SV.int .u64) (Int.natCast_succ _).symm | refine And.intro ?_ ?_)), rfl⟩
            · intro hx
              exfalso
              revert hx
              simp [gB, wB, ej, ek, heq, lastV, hneg]
      · intro hg
        have heq : ¬ pl.p j = pl.p k := by simpa [gB, wB, ej, ek] using hg
        have hno : ¬ (pl.p j = pl.p k ∧ befo h.at' j k) := fun q => heq q.1
        (repeat' (first | exact trivial | exact fun _ => rfl | exact rfl | refine And.intro ?_ ?_))
        all_goals first | exact True.intro | omega | exact u1 (lt64 (by omega)) | exact u0 (lt64 (by omega)) | (show under _ _; simp [under, gB, wB]; done) | (show under _ _; simp [under, gB, wB]; omega) | skip
        · intro hx
          exfalso
          revert hx
          simp [gB, wB, ej, ek, heq]
        · intro _
          (repeat' (first | exact trivial | exact fun _ => rfl | exact rfl | refine And.intro ?_ ?_))
          all_goals first | exact True.intro | omega | exact u1 (lt64 (by omega)) | exact u0 (lt64 (by omega)) | (show under _ _; simp [under, gB, wB]; done) | (show under _ _; simp [under, gB, wB]; omega) | skip
          · intro hx
            exfalso
            revert hx
            simp [gB, wB, ej, ek, heq]
          · intro _
            (repeat' (first | exact trivial | exact fun _ => rfl | exact rfl | refine And.intro ?_ ?_))
            all_goals first | exact True.intro | omega | exact u1 (lt64 (by omega)) | exact u0 (lt64 (by omega)) | (show under _ _; simp [under, gB, wB]; done) | (show under _ _; simp [under, gB, wB]; omega) | skip
            refine ⟨(j + 1, o), ⟨hlt', last_no hl hno⟩, by simp only; omega, ?_⟩
            exact ent_tau [0, 1, 2] ⟨by (repeat' (first | exact trivial | exact rfl | exact fun _ _ => rfl | exact fun _ _ _ _ => rfl | exact Or.inl rfl | exact Or.inr rfl | refine And.intro ?_ ?_)), by (repeat' (first | exact trivial | exact rfl | exact congrArg (SV.int .i64) (Int.natCast_succ _).symm | exact congrArg (SV.int .u64) (Int.natCast_succ _).symm | refine And.intro ?_ ?_)), rfl⟩
    · have e : j = h.n := by
        have := of_decide_eq_false hlt
        simp only at this
        omega
      subst e
      cases o with
      | none =>
        have hB := B.first k hk hl
        (repeat' (first | exact trivial | exact fun _ => rfl | exact rfl | refine And.intro ?_ ?_))
        all_goals first | exact True.intro | omega | exact u1 (lt64 (by omega)) | exact u0 (lt64 (by omega)) | (show under _ _; simp [under, gB, wB]; done) | (show under _ _; simp [under, gB, wB]; omega) | skip
        · intro _
          (repeat' (first | exact trivial | exact fun _ => rfl | exact rfl | refine And.intro ?_ ?_))
          all_goals first | (first | omega | exact u0 (by omega) | exact u1 (by omega) | exact u1 ⟨by omega, by omega⟩ | exact un (by omega) | exact fun hh => hh | exact fun hh => absurd hh (by decide) | exact fun hh => congrArg not hh | exact fun hh => Bool.noConfusion (show true = false from hh) | exact fun hh => Bool.noConfusion (show false = true from hh)) | exact u0 (by omega) | skip
          refine ent_tau [0, 1] ⟨by (repeat' (first | exact trivial | exact rfl | exact fun _ _ => rfl | exact fun _ _ _ _ => rfl | exact Or.inl rfl | exact Or.inr rfl | refine And.intro ?_ ?_)), ⟨rfl, ?_, trivial⟩, rfl⟩
          refine congrArg (SV.int .i64) ?_
          rw [hB, ek]
        · intro hx
          exfalso
          revert hx
          simp [lastV]
      | some m =>
        have hm : m < h.n := hl.1.1
        have hB := B.next k m hk hl
        have hneg : ¬ ((m : Nat) : Int) < 0 := by omega
        have ih := t60 h hv pl hpl s f m (Nat.lt_of_lt_of_le (bfr_lt hm hl.1.2.1) (by omega)) hm
        have c83 := t83 h hv m k hm hk
        have em := z1 m
        have hT := T59_all hv (pl := pl) (s := s) hm
        have w0 := HD.walk_nonneg hv m k
        have w1 := HD.walk_le hv hm hk
        have mm := hv.2.2 m hm
        unfold HD.okMv at mm
        have kmax : ∀ a b : Int, (if b > a then b else a) = max a b := fun a b => by split <;> omega
        (repeat' (first | exact trivial | exact fun _ => rfl | exact rfl | refine And.intro ?_ ?_))
        all_goals first | exact True.intro | omega | exact u1 (lt64 (by omega)) | exact u0 (lt64 (by omega)) | (show under _ _; simp [under, gB, wB]; done) | (show under _ _; simp [under, gB, wB]; omega) | skip
        · intro hx
          exact absurd (of_decide_eq_true hx) hneg
        intro _
        have l0 : 0 ≤ lastV (h.n, some m).snd := by show (0 : Int) ≤ (m : Int); omega
        have l1 : 0 + (lastV (h.n, some m).snd).toNat < h.n := by show 0 + ((m : Nat) : Int).toNat < h.n; omega
        have el : 0 + (lastV (h.n, some m).snd).toNat = m := em
        have l2 : lastV (h.n, some m).snd < (h.n : Nat) := by show (m : Int) < (h.n : Nat); omega
        have hS : ∀ t : Bool, s = t → max (h.at' k) (T59 h pl s m + h.takes t m + h.pace * h.dist m k) = T59 h pl s k := fun t ht => by
          subst ht
          exact hB.symm
        (repeat' (first | exact trivial | exact fun _ => rfl | exact rfl | refine And.intro ?_ ?_))
        all_goals first | (first | omega | exact u0 (by omega) | exact u1 (by omega) | exact u1 ⟨by omega, by omega⟩ | exact un (by omega) | exact fun hh => hh | exact fun hh => absurd hh (by decide) | exact fun hh => congrArg not hh | exact fun hh => Bool.noConfusion (show true = false from hh) | exact fun hh => Bool.noConfusion (show false = true from hh)) | exact u0 l0 | exact u0 l1 | exact u0 l2 | skip
        all_goals intro hs
        · have hS2 := hS true hs
          (repeat' (first | exact trivial | exact fun _ => rfl | exact rfl | refine And.intro ?_ ?_))
          all_goals first | (first | omega | exact u0 (by omega) | exact u1 (by omega) | exact u1 ⟨by omega, by omega⟩ | exact un (by omega) | exact fun hh => hh | exact fun hh => absurd hh (by decide) | exact fun hh => congrArg not hh | exact fun hh => Bool.noConfusion (show true = false from hh) | exact fun hh => Bool.noConfusion (show false = true from hh)) | exact u0 l0 | exact u0 l1 | exact u0 l2 | skip
          refine drawP E_ok [2] pl60_12 (by kernel_rfl) ?_
          (repeat' (first | exact trivial | exact fun _ => rfl | exact rfl | refine And.intro ?_ ?_))
          all_goals first | (first | omega | exact u0 (by omega) | exact u1 (by omega) | exact u1 ⟨by omega, by omega⟩ | exact un (by omega) | exact fun hh => hh | exact fun hh => absurd hh (by decide) | exact fun hh => congrArg not hh | exact fun hh => Bool.noConfusion (show true = false from hh) | exact fun hh => Bool.noConfusion (show false = true from hh)) | exact u0 l0 | exact u0 l1 | exact u0 l2 | skip
          refine ih.use [0, 1] ?_ (by (repeat' (first | exact trivial | exact rfl | exact fun _ _ => rfl | exact fun _ _ _ _ => rfl | exact Or.inl rfl | exact Or.inr rfl | refine And.intro ?_ ?_))) rfl
          (repeat' (first | exact trivial | exact fun _ => rfl | exact rfl | refine And.intro ?_ ?_))
          all_goals first | (first | omega | exact u0 (by omega) | exact u1 (by omega) | exact u1 ⟨by omega, by omega⟩ | exact un (by omega) | exact fun hh => hh | exact fun hh => absurd hh (by decide) | exact fun hh => congrArg not hh | exact fun hh => Bool.noConfusion (show true = false from hh) | exact fun hh => Bool.noConfusion (show false = true from hh)) | exact u0 l0 | exact u0 l1 | exact u0 l2 | (rw [el]; omega) | (simp only [em]; (first | omega | exact u0 (by omega) | exact u1 (by omega) | exact u1 ⟨by omega, by omega⟩ | exact un (by omega) | exact fun hh => hh | exact fun hh => absurd hh (by decide) | exact fun hh => congrArg not hh | exact fun hh => Bool.noConfusion (show true = false from hh) | exact fun hh => Bool.noConfusion (show false = true from hh))) | skip
          refine c83.use [0] ?_ (by (repeat' (first | exact trivial | exact rfl | exact fun _ _ => rfl | exact fun _ _ _ _ => rfl | exact Or.inl rfl | exact Or.inr rfl | refine And.intro ?_ ?_))) rfl
          (repeat' (first | exact trivial | exact fun _ => rfl | exact rfl | refine And.intro ?_ ?_))
          all_goals first | (first | omega | exact u0 (by omega) | exact u1 (by omega) | exact u1 ⟨by omega, by omega⟩ | exact un (by omega) | exact fun hh => hh | exact fun hh => absurd hh (by decide) | exact fun hh => congrArg not hh | exact fun hh => Bool.noConfusion (show true = false from hh) | exact fun hh => Bool.noConfusion (show false = true from hh)) | exact u0 l0 | exact u0 l1 | exact u0 l2 | (rw [el]; omega) | (simp only [em, ek]; (first | omega | exact u0 (by omega) | exact u1 (by omega) | exact u1 ⟨by omega, by omega⟩ | exact un (by omega) | exact fun hh => hh | exact fun hh => absurd hh (by decide) | exact fun hh => congrArg not hh | exact fun hh => Bool.noConfusion (show true = false from hh) | exact fun hh => Bool.noConfusion (show false = true from hh))) | skip
          refine ent_tau [0, 1] ⟨by (repeat' (first | exact trivial | exact rfl | exact fun _ _ => rfl | exact fun _ _ _ _ => rfl | exact Or.inl rfl | exact Or.inr rfl | refine And.intro ?_ ?_)), ⟨rfl, ?_, trivial⟩, rfl⟩
          refine congrArg (SV.int .i64) ?_
          rw [ek, el]
          exact (kmax _ _).trans hS2
        · have hS2 := hS false hs
          (repeat' (first | exact trivial | exact fun _ => rfl | exact rfl | refine And.intro ?_ ?_))
          all_goals first | (first | omega | exact u0 (by omega) | exact u1 (by omega) | exact u1 ⟨by omega, by omega⟩ | exact un (by omega) | exact fun hh => hh | exact fun hh => absurd hh (by decide) | exact fun hh => congrArg not hh | exact fun hh => Bool.noConfusion (show true = false from hh) | exact fun hh => Bool.noConfusion (show false = true from hh)) | exact u0 l0 | exact u0 l1 | exact u0 l2 | skip
          refine drawP E_ok [2] pl60_12 (by kernel_rfl) ?_
          (repeat' (first | exact trivial | exact fun _ => rfl | exact rfl | refine And.intro ?_ ?_))
          all_goals first | (first | omega | exact u0 (by omega) | exact u1 (by omega) | exact u1 ⟨by omega, by omega⟩ | exact un (by omega) | exact fun hh => hh | exact fun hh => absurd hh (by decide) | exact fun hh => congrArg not hh | exact fun hh => Bool.noConfusion (show true = false from hh) | exact fun hh => Bool.noConfusion (show false = true from hh)) | exact u0 l0 | exact u0 l1 | exact u0 l2 | skip
          refine ih.use [0, 1] ?_ (by (repeat' (first | exact trivial | exact rfl | exact fun _ _ => rfl | exact fun _ _ _ _ => rfl | exact Or.inl rfl | exact Or.inr rfl | refine And.intro ?_ ?_))) rfl
          (repeat' (first | exact trivial | exact fun _ => rfl | exact rfl | refine And.intro ?_ ?_))
          all_goals first | (first | omega | exact u0 (by omega) | exact u1 (by omega) | exact u1 ⟨by omega, by omega⟩ | exact un (by omega) | exact fun hh => hh | exact fun hh => absurd hh (by decide) | exact fun hh => congrArg not hh | exact fun hh => Bool.noConfusion (show true = false from hh) | exact fun hh => Bool.noConfusion (show false = true from hh)) | exact u0 l0 | exact u0 l1 | exact u0 l2 | (rw [el]; omega) | (simp only [em]; (first | omega | exact u0 (by omega) | exact u1 (by omega) | exact u1 ⟨by omega, by omega⟩ | exact un (by omega) | exact fun hh => hh | exact fun hh => absurd hh (by decide) | exact fun hh => congrArg not hh | exact fun hh => Bool.noConfusion (show true = false from hh) | exact fun hh => Bool.noConfusion (show false = true from hh))) | skip
          refine c83.use [0] ?_ (by (repeat' (first | exact trivial | exact rfl | exact fun _ _ => rfl | exact fun _ _ _ _ => rfl | exact Or.inl rfl | exact Or.inr rfl | refine And.intro ?_ ?_))) rfl
          (repeat' (first | exact trivial | exact fun _ => rfl | exact rfl | refine And.intro ?_ ?_))
          all_goals first | (first | omega | exact u0 (by omega) | exact u1 (by omega) | exact u1 ⟨by omega, by omega⟩ | exact un (by omega) | exact fun hh => hh | exact fun hh => absurd hh (by decide) | exact fun hh => congrArg not hh | exact fun hh => Bool.noConfusion (show true = false from hh) | exact fun hh => Bool.noConfusion (show false = true from hh)) | exact u0 l0 | exact u0 l1 | exact u0 l2 | (rw [el]; omega) | (simp only [em, ek]; (first | omega | exact u0 (by omega) | exact u1 (by omega) | exact u1 ⟨by omega, by omega⟩ | exact un (by omega) | exact fun hh => hh | exact fun hh => absurd hh (by decide) | exact fun hh => congrArg not hh | exact fun hh => Bool.noConfusion (show true = false from hh) | exact fun hh => Bool.noConfusion (show false = true from hh))) | skip
          refine ent_tau [0, 1] ⟨by (repeat' (first | exact trivial | exact rfl | exact fun _ _ => rfl | exact fun _ _ _ _ => rfl | exact Or.inl rfl | exact Or.inr rfl | refine And.intro ?_ ?_)), ⟨rfl, ?_, trivial⟩, rfl⟩
          refine congrArg (SV.int .i64) ?_
          rw [ek, el]
          exact (kmax _ _).trans hS2
end Go.Proofs.Ytgofhjihkinknaa
