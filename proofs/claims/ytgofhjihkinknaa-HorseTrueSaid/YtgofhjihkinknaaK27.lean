/-
  Parts: Rc, Rd, Re, Rf.
-/
import Derived.Test.YtgofhjihkinknaaK26
set_option linter.unusedVariables false
/-
  HorseTrue: the loops.
-/
namespace Go.Proofs.Ytgofhjihkinknaa
open Go Go.Sy Kuhn
set_option linter.unusedSimpArgs false
set_option maxRecDepth 100000
set_option maxHeartbeats 4000000
attribute [local irreducible] CallP CodeP Ent YieldP
attribute [local irreducible] HD.ch maskO

def H6c (h : HD) (y y2 pl lg : PD) : SHeap := HD.H h ++ [some (.roa 1 y.n (BDF y)), some (.roa 1 y2.n (BDF y2)), some (.roc (bc h)), some (.roa 1 pl.n (PD.F pl)), some (.roa 1 lg.n (PD.F lg)), some (.roa 1 h.n fun k => [.int .i64 (TL h pl lg.p k)]), some (.roa 2 h.n (latF h pl))]
noncomputable def T6c (h : HD) (pl lg : PD) (e1 e2 m : Int) (r : Bool) (u : Int) : Tm := mkT [] [(4, .ptr 3 0), (8, .bool false), (9, .osl pl.b 4 1 pl.n pl.cap), (10, .osl lg.b 5 1 lg.n lg.cap), (14, .slice 6 1 0 h.n h.n), (15, .slice 7 2 0 h.n h.n), (19, .int .i64 e1), (22, .int .i64 e2), (23, .bool r), (24, .int .i64 m), (25, .int .i64 u)] 0 (List.replicate 327 none)
theorem seg6d (h : HD) (hv : h.Valid) (y y2 pl lg : PD) (hpl : pok h pl = true) (hl : LgOk h lg.p) (m : Int) (hm : 0 ≤ m ∧ m ≤ 220) : CodeP Try.prog none 3 (sufC Try.f6 13) ⟨T6c h pl lg (ec h true pl) (ec h false pl) m (rI h pl.p lg.p h.n) (ut h lg.p m h.n), H6c h y y2 pl lg, []⟩
    (KRet E Try.f6 3 (.bool true) (HD.H h ++ [some (.roa 1 y.n (BDF y)), some (.roa 1 y2.n (BDF y2))])) := by
  have c22 := t22 h m
  have eb : HD.bus h m = (bz h false m h.n, bz h true m h.n, 0) := by
    unfold HD.bus
    rw [if_pos hv, if_pos (inB_iff.2 hm)]
  rw [eb] at c22
  obtain ⟨u1, u2⟩ := ut_le hl m h.n (Nat.le_refl _)
  have k2 : rI h pl.p lg.p h.n = true → ec h false pl = 4 := fun hr => by
    rcases ec_or hv (s := false) hpl with ⟨_, b⟩ | ⟨b, _⟩
    · exact absurd (right_some hl hr) b
    · exact b
  have k1 : rI h pl.p lg.p h.n = false → ec h true pl = 0 := fun hr => by
    rcases ec_or hv (s := true) hpl with ⟨b, _⟩ | ⟨_, b⟩
    · exact b
    · rw [sure_right hl b] at hr
      cases hr
  obtain ⟨r, hr⟩ : ∃ r, rI h pl.p lg.p h.n = r := ⟨_, rfl⟩
  obtain ⟨e1, he1⟩ : ∃ e, ec h true pl = e := ⟨_, rfl⟩
  obtain ⟨e2, he2⟩ : ∃ e, ec h false pl = e := ⟨_, rfl⟩
  rw [hr] at k1 k2 ⊢
  rw [he1] at k1 ⊢
  rw [he2] at k2 ⊢
  refine codeP_XK E_ok 100 ?_
  (repeat' (first | exact trivial | exact fun _ => rfl | exact rfl | refine And.intro ?_ ?_))
  refine c22.use [0] ?_ (by (repeat' (first | exact trivial | exact rfl | exact fun _ _ => rfl | exact fun _ _ _ _ => rfl | exact Or.inl rfl | exact Or.inr rfl | refine And.intro ?_ ?_))) rfl
  cases r with
  | false =>
    have k := k1 rfl
    subst k
    all_goals (repeat' (first | exact trivial | exact fun _ => rfl | exact rfl | refine And.intro ?_ ?_))
    all_goals first | exact True.intro | omega | exact u1 (lt64 (by omega)) | exact u0 (lt64 (by omega)) | (show under _ _; simp [under, gB, wB]; done) | (show under _ _; simp [under, gB, wB]; omega) | skip
    all_goals intro g1
    all_goals first | (exfalso; revert g1; simp [gB, wB, u1, u2]; done) | skip
    refine t15.use [] ?_ trivial rfl
    (repeat' (first | exact trivial | exact fun _ => rfl | exact rfl | refine And.intro ?_ ?_))
    all_goals first | exact True.intro | omega | exact u1 (lt64 (by omega)) | exact u0 (lt64 (by omega)) | (show under _ _; simp [under, gB, wB]; done) | (show under _ _; simp [under, gB, wB]; omega) | skip
    refine ent_tau [0, 1, 2] ⟨by (repeat' (first | exact trivial | exact rfl | exact fun _ _ => rfl | exact fun _ _ _ _ => rfl | exact Or.inl rfl | exact Or.inr rfl | refine And.intro ?_ ?_)), ⟨rfl, ?_, trivial⟩, rfl⟩
    exact congrArg SV.bool (by simp [u1, u2])
  | true =>
    have k := k2 rfl
    subst k
    all_goals (repeat' (first | exact trivial | exact fun _ => rfl | exact rfl | refine And.intro ?_ ?_))
    all_goals first | exact True.intro | omega | exact u1 (lt64 (by omega)) | exact u0 (lt64 (by omega)) | (show under _ _; simp [under, gB, wB]; done) | (show under _ _; simp [under, gB, wB]; omega) | skip
    all_goals intro g1
    all_goals first | (exfalso; revert g1; simp [gB, wB, u1, u2]; done) | skip
    refine t15.use [] ?_ trivial rfl
    (repeat' (first | exact trivial | exact fun _ => rfl | exact rfl | refine And.intro ?_ ?_))
    all_goals first | exact True.intro | omega | exact u1 (lt64 (by omega)) | exact u0 (lt64 (by omega)) | (show under _ _; simp [under, gB, wB]; done) | (show under _ _; simp [under, gB, wB]; omega) | skip
    refine ent_tau [0, 1, 2] ⟨by (repeat' (first | exact trivial | exact rfl | exact fun _ _ => rfl | exact fun _ _ _ _ => rfl | exact Or.inl rfl | exact Or.inr rfl | refine And.intro ?_ ?_)), ⟨rfl, ?_, trivial⟩, rfl⟩
    exact congrArg SV.bool (by simp [u1, u2])
end Go.Proofs.Ytgofhjihkinknaa
/-
  HorseTrue: the loops over moves.
-/
namespace Go.Proofs.Ytgofhjihkinknaa
open Go Go.Sy Kuhn
set_option linter.unusedSimpArgs false
set_option maxRecDepth 100000
set_option maxHeartbeats 4000000
attribute [local irreducible] CallP CodeP Ent YieldP
set_option maxHeartbeats 40000000
attribute [local irreducible] HD.ch maskO

theorem fv_two {h : HD} (hv : h.Valid) {i k : Nat} (hi : i < h.n) : fv h i k = 2 → h.can true i k = true := by
  intro e
  have := fv_lt hv (s := true) hi (k := k)
  simp only [canN] at this
  cases c : h.can true i k with
  | true => rfl
  | false =>
    have := this.2 c
    omega
theorem fv_zero {h : HD} (hv : h.Valid) {i k : Nat} (hi : i < h.n) : fv h i k = 0 → h.can false i k = false := by
  intro e
  have := fv_lt hv (s := false) hi (k := k)
  simp only [canN] at this
  exact this.1 (by omega)
theorem gd1 (G C : Bool) : under (some (gB none (wB true G))) (C = false → (some (gB (some (gB none (wB true G))) (wB false C))).getD true = true) := by
  cases G <;> cases C <;> simp [under, gB, wB]
theorem seg6c (h : HD) (hv : h.Valid) (y y2 pl lg : PD) (hpl : pok h pl = true) (hlg : lg.n = h.n) (hl : LgOk h lg.p) (m : Int) (hm : 0 ≤ m ∧ m ≤ 220) : CodeP Try.prog none 3 (sufC Try.f6 12) ⟨T6c h pl lg (ec h true pl) (ec h false pl) m true 0, H6c h y y2 pl lg, []⟩
    (KRet E Try.f6 3 (.bool true) (HD.H h ++ [some (.roa 1 y.n (BDF y)), some (.roa 1 y2.n (BDF y2))])) := by
  have hn := hv.2.1
  have hpn : pl.n = h.n := by
    unfold pok at hpl
    simp only [Bool.and_eq_true, decide_eq_true_eq] at hpl
    exact hpl.1
  have seg := seg6d h hv y y2 pl lg hpl hl m hm
  have he := ec_or hv (s := true) hpl
  obtain ⟨e1, he1⟩ : ∃ e, ec h true pl = e := ⟨_, rfl⟩
  obtain ⟨e2, he2⟩ : ∃ e, ec h false pl = e := ⟨_, rfl⟩
  rw [he1] at he seg ⊢
  rw [he2] at seg ⊢
  refine codeP_XK E_ok 1 ?_
  (repeat' (first | exact trivial | exact fun _ => rfl | exact rfl | refine And.intro ?_ ?_))
  refine loopP E_ok [4, 8, 9, 10, 14, 15, 19, 22, 24, 143, 144] (fun i : Nat => [(23, .bool (rI h pl.p lg.p i)), (25, .int .i64 (ut h lg.p m i)), (145, .int .i64 i)]) (fun _ _ => H6c h y y2 pl lg) (fun i => i ≤ h.n) (fun i => h.n - i) 0 (Nat.zero_le _) ?_ ?_
  · exact ent_tau [0, 1, 2, 3, 4, 5, 6, 7] ⟨by (repeat' (first | exact trivial | exact rfl | exact fun _ _ => rfl | exact fun _ _ _ _ => rfl | exact Or.inl rfl | exact Or.inr rfl | refine And.intro ?_ ?_)), by (repeat' (first | exact trivial | exact rfl | exact congrArg (SV.int .i64) (Int.natCast_succ _).symm | exact congrArg (SV.int .u64) (Int.natCast_succ _).symm | refine And.intro ?_ ?_)), rfl⟩
  rintro i hi
  refine And.intro ?_ (And.intro (fun hlt => ?_) (fun hlt => ?_))
  · (repeat' (first | exact trivial | exact fun _ => rfl | exact rfl | refine And.intro ?_ ?_))
  · have hlt' : i < h.n := by
      have := of_decide_eq_true hlt
      omega
    have ei := z1 i
    have mi := hv.2.2 i hlt'
    unfold HD.okMv at mi
    have hTi := TL_all hv (pl := pl) hl hlt'
    have h1 : T59 h pl false i ≤ TL h pl lg.p i := TL_le hv (pl := pl) (lg := h.takes false) (lg' := lg.p) (fun j hj => (hl j hj).1) hlt'
    have h2 : TL h pl lg.p i ≤ T59 h pl true i := TL_le hv (pl := pl) (lg := lg.p) (lg' := h.takes true) (fun j hj => (hl j hj).2) hlt'
    have h3 : e1 = 4 → T59 h pl true i = h.at' i := fun e => by
      rcases he with ⟨a, _⟩ | ⟨_, b⟩
      · omega
      · exact TL_right hv b _ i (Nat.lt_succ_self _) hlt'
    have hli := hl i hlt'
    have hu := ut_rng h lg.p m i
    have hin : InR .i64 (h.at' (0 + ((i : Nat) : Int).toNat) + lg.p (0 + ((i : Nat) : Int).toNat)) := by
      rw [ei]
      exact ⟨by omega, by omega⟩
    (repeat' (first | exact trivial | exact fun _ => rfl | exact rfl | refine And.intro ?_ ?_))
    all_goals first | (first | omega | exact u0 (by omega) | exact u1 (by omega) | exact u1 ⟨by omega, by omega⟩ | exact un (by omega) | exact fun hh => hh | exact fun hh => absurd hh (by decide) | exact fun hh => congrArg not hh | exact fun hh => Bool.noConfusion (show true = false from hh) | exact fun hh => Bool.noConfusion (show false = true from hh)) | skip
    refine drawP E_ok [8] pl6_24 (by kernel_rfl) ?_
    (repeat' (first | exact trivial | exact fun _ => rfl | exact rfl | refine And.intro ?_ ?_))
    all_goals first | (first | omega | exact u0 (by omega) | exact u1 (by omega) | exact u1 ⟨by omega, by omega⟩ | exact un (by omega) | exact fun hh => hh | exact fun hh => absurd hh (by decide) | exact fun hh => congrArg not hh | exact fun hh => Bool.noConfusion (show true = false from hh) | exact fun hh => Bool.noConfusion (show false = true from hh)) | (show under none _; exact u0 (by rw [hlg]; omega)) | (rw [ei]; omega) | skip
    all_goals first | exact True.intro | omega | exact u1 (lt64 (by omega)) | exact u0 (lt64 (by omega)) | (show under _ _; simp [under, gB, wB]; done) | (show under _ _; simp [under, gB, wB]; omega) | skip
    · intro hx
      exfalso
      have d1 : decide (TL h pl lg.p i - h.at' i < T59 h pl false i - h.at' i) = false := decide_eq_false (by omega)
      have d2 : decide (TL h pl lg.p i - h.at' i > T59 h pl true i - h.at' i) = false := decide_eq_false (by omega)
      revert hx
      rw [ei, d1, d2]
      by_cases c : e1 = 4
      · have d3 : decide (T59 h pl true i - h.at' i > 0) = false := decide_eq_false (by have := h3 c; omega)
        rw [d3]
        simp
      · rw [decide_eq_false c]
        simp
    intro hx
    clear hx
    (repeat' (first | exact trivial | exact fun _ => rfl | exact rfl | refine And.intro ?_ ?_))
    refine drawP E_ok [8] pl6_27 (by kernel_rfl) ?_
    (repeat' (first | exact trivial | exact fun _ => rfl | exact rfl | refine And.intro ?_ ?_))
    all_goals first | (first | omega | exact u0 (by omega) | exact u1 (by omega) | exact u1 ⟨by omega, by omega⟩ | exact un (by omega) | exact fun hh => hh | exact fun hh => absurd hh (by decide) | exact fun hh => congrArg not hh | exact fun hh => Bool.noConfusion (show true = false from hh) | exact fun hh => Bool.noConfusion (show false = true from hh)) | (rw [ei]; omega) | skip
    all_goals first | exact True.intro | omega | exact u1 (lt64 (by omega)) | exact u0 (lt64 (by omega)) | (show under _ _; simp [under, gB, wB]; done) | (show under _ _; simp [under, gB, wB]; omega) | skip
    all_goals first | (show under _ _; exact fun _ => hin) | skip
    all_goals intro hx
    all_goals simp [ei] at hx
    have hu2 : ut h lg.p m (i + 1) = ut h lg.p m i + 1 := by
      rw [ut, if_pos hx]
    rotate_left
    have hu3 : ut h lg.p m (i + 1) = ut h lg.p m i := by
      rw [ut, if_neg (fun q => by have := hx q.1; omega)]
      omega
    rotate_left
    all_goals clear hx
    all_goals (repeat' (first | exact trivial | exact fun _ => rfl | exact rfl | refine And.intro ?_ ?_))
    all_goals first | (first | omega | exact u0 (by omega) | exact u1 (by omega) | exact u1 ⟨by omega, by omega⟩ | exact un (by omega) | exact fun hh => hh | exact fun hh => absurd hh (by decide) | exact fun hh => congrArg not hh | exact fun hh => Bool.noConfusion (show true = false from hh) | exact fun hh => Bool.noConfusion (show false = true from hh)) | skip
    all_goals refine loopP E_ok [4, 8, 9, 10, 14, 15, 19, 22, 24, 26, 27, 143, 144, 145, 203, 204] (fun k : Nat => [(23, .bool (rI h pl.p lg.p i && rK h pl.p lg.p i k)), (25, .int .i64 (ut h lg.p m (i + 1))), (205, .int .i64 k)]) (fun _ _ => H6c h y y2 pl lg ++ [some (.roc (HD.F h (0 + ((i : Nat) : Int).toNat)))]) (fun k => k ≤ h.n) (fun k => h.n - k) 0 (Nat.zero_le _) ?_ ?_
    · refine ent_tau [0, 1, 2, 3, 4, 5, 6, 7, 8] ⟨by (repeat' (first | exact trivial | exact rfl | exact fun _ _ => rfl | exact fun _ _ _ _ => rfl | exact Or.inl rfl | exact Or.inr rfl | refine And.intro ?_ ?_)), ?_, rfl⟩
      (repeat' (first | exact trivial | exact rfl | exact congrArg SV.bool (Bool.and_true _).symm | exact congrArg (SV.int .i64) hu2.symm | refine And.intro ?_ ?_))
    rotate_left
    · refine ent_tau [0, 1, 2, 3, 4, 5, 6, 7, 8] ⟨by (repeat' (first | exact trivial | exact rfl | exact fun _ _ => rfl | exact fun _ _ _ _ => rfl | exact Or.inl rfl | exact Or.inr rfl | refine And.intro ?_ ?_)), ?_, rfl⟩
      (repeat' (first | exact trivial | exact rfl | exact congrArg SV.bool (Bool.and_true _).symm | exact congrArg (SV.int .i64) hu3.symm | refine And.intro ?_ ?_))
    all_goals rintro k hk
    all_goals refine And.intro ?_ (And.intro (fun hlk => ?_) (fun hlk => ?_))
    all_goals first | (show AllP _; (repeat' (first | exact trivial | exact fun _ => rfl | exact rfl | refine And.intro ?_ ?_)); done) | skip
    · have hlk' : k < h.n := by
        have := of_decide_eq_true hlk
        omega
      have ek := z1 k
      have mk := hv.2.2 k hlk'
      unfold HD.okMv at mk
      have hlk2 := hl k hlk'
      have w0 := HD.walk_nonneg hv i k
      have w1 := HD.walk_le hv hlt' hlk'
      have c36 := t36 h hv i k hlt' hlk'
      have ci := t16i h hv i k hlt' hlk'
      have fA : fv h i k = 2 → h.at' i + lg.p i + h.pace * h.dist i k ≤ h.at' k := fun e => of_decide_eq_true (canT_sure hl hlt' (fv_two hv hlt' e))
      have fB : fv h i k = 0 → ¬ h.at' i + lg.p i + h.pace * h.dist i k ≤ h.at' k := fun e q => by
        have := canT_some (k := k) hl hlt' (decide_eq_true q)
        rw [fv_zero hv hlt' e] at this
        cases this
      obtain ⟨n1, en⟩ : ∃ n, fv h i k = n := ⟨_, rfl⟩
      rw [en] at ci fA fB
      have hdc := HD.dist_comm h k i
      (repeat' (first | exact trivial | exact fun _ => rfl | exact rfl | refine And.intro ?_ ?_))
      all_goals first | (show under none _; first | exact u0 (by omega) | exact u0 (by rw [hlg]; omega)) | (show (_ : Int) ≤ _; first | omega | (rw [ei]; omega) | (rw [ek]; omega) | (rw [ei, ek]; omega)) | skip
      refine drawP E_ok [3, 8, 9] pl6_32 (by kernel_rfl) ?_
      (repeat' (first | exact trivial | exact fun _ => rfl | exact rfl | refine And.intro ?_ ?_))
      · rw [ei]; omega
      · rw [ei]; omega
      · exact u0 (by rw [hlg]; omega)
      · exact u0 (by omega)
      · exact u0 (by rw [hlg]; omega)
      refine c36.use [0] ?_ (by (repeat' (first | exact trivial | exact rfl | exact fun _ _ => rfl | exact fun _ _ _ _ => rfl | exact Or.inl rfl | exact Or.inr rfl | refine And.intro ?_ ?_))) rfl
      (repeat' (first | exact trivial | exact fun _ => rfl | exact rfl | refine And.intro ?_ ?_))
      · rw [ei]; omega
      · rw [ei]; omega
      refine ci.use [0] ?_ (by (repeat' (first | exact trivial | exact rfl | exact fun _ _ => rfl | exact fun _ _ _ _ => rfl | exact Or.inl rfl | exact Or.inr rfl | refine And.intro ?_ ?_))) rfl
      (repeat' (first | exact trivial | exact fun _ => rfl | exact rfl | refine And.intro ?_ ?_))
      all_goals first | exact True.intro | omega | exact u1 (lt64 (by omega)) | exact u0 (lt64 (by omega)) | (show under _ _; simp [under, gB, wB]; done) | (show under _ _; simp [under, gB, wB]; omega) | skip
      · intro hx
        exfalso
        revert hx
        by_cases c2 : n1 = 2
        · have q := fA c2
          simp [ei, ek, c2, q]
        · by_cases c0 : n1 = 0
          · have q := fB c0
            simp [ei, ek, c0, q]
          · simp [c2, c0]
      intro hx
      clear hx
      (repeat' (first | exact trivial | exact fun _ => rfl | exact rfl | refine And.intro ?_ ?_))
      refine drawP E_ok [3, 8, 9] pl6_36 (by kernel_rfl) ?_
      (repeat' (first | exact trivial | exact fun _ => rfl | exact rfl | refine And.intro ?_ ?_))
      · rw [ek]; omega
      · rw [ek]; omega
      · exact u0 (by rw [hlg]; omega)
      · exact u0 (by omega)
      · exact u0 (by rw [hlg]; omega)
      refine c36.use [0] ?_ (by (repeat' (first | exact trivial | exact rfl | exact fun _ _ => rfl | exact fun _ _ _ _ => rfl | exact Or.inl rfl | exact Or.inr rfl | refine And.intro ?_ ?_))) rfl
      (repeat' (first | exact trivial | exact fun _ => rfl | exact rfl | refine And.intro ?_ ?_))
      · rw [ek]; omega
      · rw [ek]; omega
      refine drawP E_ok [] pl6_37 (by kernel_rfl) ?_
      (repeat' (first | exact trivial | exact fun _ => rfl | exact rfl | refine And.intro ?_ ?_))
      all_goals first | (show under _ _; first | exact gd1 _ _ | exact fun hh => hh | exact fun _ _ => rfl | exact fun _ => (by omega) | exact fun _ => (by rw [hpn]; omega)) | skip
      · omega
      · omega
      refine ⟨k + 1, hlk', by omega, ?_⟩
      refine ent_tau [0, 1, 2, 3, 4, 5, 6, 7, 8] ⟨by (repeat' (first | exact trivial | exact rfl | exact fun _ _ => rfl | exact fun _ _ _ _ => rfl | exact Or.inl rfl | exact Or.inr rfl | refine And.intro ?_ ?_)), ?_, rfl⟩
      (repeat' (first | exact trivial | exact rfl | exact congrArg (SV.int .i64) (Int.natCast_succ _).symm | refine And.intro ?_ ?_))
      refine congrArg SV.bool ?_
      simp only [ei, ek, rK, okT, canT, dec_nat, hdc]
      generalize rI h pl.p lg.p i = q1
      generalize rK h pl.p lg.p i k = q2
      generalize decide (i = k) = q3
      generalize decide (pl.p i = pl.p k) = q4
      generalize decide (h.at' i + lg.p i + h.pace * h.dist i k ≤ h.at' k) = q5
      generalize decide (h.at' k + lg.p k + h.pace * h.dist i k ≤ h.at' i) = q6
      cases q1 <;> cases q2 <;> cases q3 <;> cases q4 <;> cases q5 <;> cases q6 <;> rfl
    · have e : k = h.n := by
        have := of_decide_eq_false hlk
        omega
      subst e
      (repeat' (first | exact trivial | exact fun _ => rfl | exact rfl | refine And.intro ?_ ?_))
      all_goals first | exact True.intro | omega | exact u1 (lt64 (by omega)) | exact u0 (lt64 (by omega)) | (show under _ _; simp [under, gB, wB]; done) | (show under _ _; simp [under, gB, wB]; omega) | skip
      refine ⟨i + 1, hlt', by omega, ?_⟩
      exact ent_tau [0, 1, 2, 3, 4, 5, 6, 7] ⟨by (repeat' (first | exact trivial | exact rfl | exact fun _ _ => rfl | exact fun _ _ _ _ => rfl | exact Or.inl rfl | exact Or.inr rfl | refine And.intro ?_ ?_)), by (repeat' (first | exact trivial | exact rfl | exact congrArg (SV.int .i64) (Int.natCast_succ _).symm | exact congrArg (SV.int .u64) (Int.natCast_succ _).symm | refine And.intro ?_ ?_)), rfl⟩
    · have hlk' : k < h.n := by
        have := of_decide_eq_true hlk
        omega
      have ek := z1 k
      have mk := hv.2.2 k hlk'
      unfold HD.okMv at mk
      have hlk2 := hl k hlk'
      have w0 := HD.walk_nonneg hv i k
      have w1 := HD.walk_le hv hlt' hlk'
      have c36 := t36 h hv i k hlt' hlk'
      have ci := t16i h hv i k hlt' hlk'
      have fA : fv h i k = 2 → h.at' i + lg.p i + h.pace * h.dist i k ≤ h.at' k := fun e => of_decide_eq_true (canT_sure hl hlt' (fv_two hv hlt' e))
      have fB : fv h i k = 0 → ¬ h.at' i + lg.p i + h.pace * h.dist i k ≤ h.at' k := fun e q => by
        have := canT_some (k := k) hl hlt' (decide_eq_true q)
        rw [fv_zero hv hlt' e] at this
        cases this
      obtain ⟨n1, en⟩ : ∃ n, fv h i k = n := ⟨_, rfl⟩
      rw [en] at ci fA fB
      have hdc := HD.dist_comm h k i
      (repeat' (first | exact trivial | exact fun _ => rfl | exact rfl | refine And.intro ?_ ?_))
      all_goals first | (show under none _; first | exact u0 (by omega) | exact u0 (by rw [hlg]; omega)) | (show (_ : Int) ≤ _; first | omega | (rw [ei]; omega) | (rw [ek]; omega) | (rw [ei, ek]; omega)) | skip
      refine drawP E_ok [3, 8, 9] pl6_32 (by kernel_rfl) ?_
      (repeat' (first | exact trivial | exact fun _ => rfl | exact rfl | refine And.intro ?_ ?_))
      · rw [ei]; omega
      · rw [ei]; omega
      · exact u0 (by rw [hlg]; omega)
      · exact u0 (by omega)
      · exact u0 (by rw [hlg]; omega)
      refine c36.use [0] ?_ (by (repeat' (first | exact trivial | exact rfl | exact fun _ _ => rfl | exact fun _ _ _ _ => rfl | exact Or.inl rfl | exact Or.inr rfl | refine And.intro ?_ ?_))) rfl
      (repeat' (first | exact trivial | exact fun _ => rfl | exact rfl | refine And.intro ?_ ?_))
      · rw [ei]; omega
      · rw [ei]; omega
      refine ci.use [0] ?_ (by (repeat' (first | exact trivial | exact rfl | exact fun _ _ => rfl | exact fun _ _ _ _ => rfl | exact Or.inl rfl | exact Or.inr rfl | refine And.intro ?_ ?_))) rfl
      (repeat' (first | exact trivial | exact fun _ => rfl | exact rfl | refine And.intro ?_ ?_))
      all_goals first | exact True.intro | omega | exact u1 (lt64 (by omega)) | exact u0 (lt64 (by omega)) | (show under _ _; simp [under, gB, wB]; done) | (show under _ _; simp [under, gB, wB]; omega) | skip
      · intro hx
        exfalso
        revert hx
        by_cases c2 : n1 = 2
        · have q := fA c2
          simp [ei, ek, c2, q]
        · by_cases c0 : n1 = 0
          · have q := fB c0
            simp [ei, ek, c0, q]
          · simp [c2, c0]
      intro hx
      clear hx
      (repeat' (first | exact trivial | exact fun _ => rfl | exact rfl | refine And.intro ?_ ?_))
      refine drawP E_ok [3, 8, 9] pl6_36 (by kernel_rfl) ?_
      (repeat' (first | exact trivial | exact fun _ => rfl | exact rfl | refine And.intro ?_ ?_))
      · rw [ek]; omega
      · rw [ek]; omega
      · exact u0 (by rw [hlg]; omega)
      · exact u0 (by omega)
      · exact u0 (by rw [hlg]; omega)
      refine c36.use [0] ?_ (by (repeat' (first | exact trivial | exact rfl | exact fun _ _ => rfl | exact fun _ _ _ _ => rfl | exact Or.inl rfl | exact Or.inr rfl | refine And.intro ?_ ?_))) rfl
      (repeat' (first | exact trivial | exact fun _ => rfl | exact rfl | refine And.intro ?_ ?_))
      · rw [ek]; omega
      · rw [ek]; omega
      refine drawP E_ok [] pl6_37 (by kernel_rfl) ?_
      (repeat' (first | exact trivial | exact fun _ => rfl | exact rfl | refine And.intro ?_ ?_))
      all_goals first | (show under _ _; first | exact gd1 _ _ | exact fun hh => hh | exact fun _ _ => rfl | exact fun _ => (by omega) | exact fun _ => (by rw [hpn]; omega)) | skip
      · omega
      · omega
      refine ⟨k + 1, hlk', by omega, ?_⟩
      refine ent_tau [0, 1, 2, 3, 4, 5, 6, 7, 8] ⟨by (repeat' (first | exact trivial | exact rfl | exact fun _ _ => rfl | exact fun _ _ _ _ => rfl | exact Or.inl rfl | exact Or.inr rfl | refine And.intro ?_ ?_)), ?_, rfl⟩
      (repeat' (first | exact trivial | exact rfl | exact congrArg (SV.int .i64) (Int.natCast_succ _).symm | refine And.intro ?_ ?_))
      refine congrArg SV.bool ?_
      simp only [ei, ek, rK, okT, canT, dec_nat, hdc]
      generalize rI h pl.p lg.p i = q1
      generalize rK h pl.p lg.p i k = q2
      generalize decide (i = k) = q3
      generalize decide (pl.p i = pl.p k) = q4
      generalize decide (h.at' i + lg.p i + h.pace * h.dist i k ≤ h.at' k) = q5
      generalize decide (h.at' k + lg.p k + h.pace * h.dist i k ≤ h.at' i) = q6
      cases q1 <;> cases q2 <;> cases q3 <;> cases q4 <;> cases q5 <;> cases q6 <;> rfl
    · have e : k = h.n := by
        have := of_decide_eq_false hlk
        omega
      subst e
      (repeat' (first | exact trivial | exact fun _ => rfl | exact rfl | refine And.intro ?_ ?_))
      all_goals first | exact True.intro | omega | exact u1 (lt64 (by omega)) | exact u0 (lt64 (by omega)) | (show under _ _; simp [under, gB, wB]; done) | (show under _ _; simp [under, gB, wB]; omega) | skip
      refine ⟨i + 1, hlt', by omega, ?_⟩
      exact ent_tau [0, 1, 2, 3, 4, 5, 6, 7] ⟨by (repeat' (first | exact trivial | exact rfl | exact fun _ _ => rfl | exact fun _ _ _ _ => rfl | exact Or.inl rfl | exact Or.inr rfl | refine And.intro ?_ ?_)), by (repeat' (first | exact trivial | exact rfl | exact congrArg (SV.int .i64) (Int.natCast_succ _).symm | exact congrArg (SV.int .u64) (Int.natCast_succ _).symm | refine And.intro ?_ ?_)), rfl⟩
  · have e : i = h.n := by
      have := of_decide_eq_false hlt
      omega
    subst e
    (repeat' (first | exact trivial | exact fun _ => rfl | exact rfl | refine And.intro ?_ ?_))
    refine CodeP.part seg ?_
    exact ent_tau [0, 1, 2, 3, 4, 5, 6, 7] ⟨by (repeat' (first | exact trivial | exact rfl | exact fun _ _ => rfl | exact fun _ _ _ _ => rfl | exact Or.inl rfl | exact Or.inr rfl | refine And.intro ?_ ?_)), by (repeat' (first | exact trivial | exact rfl | exact congrArg (SV.int .i64) (Int.natCast_succ _).symm | exact congrArg (SV.int .u64) (Int.natCast_succ _).symm | refine And.intro ?_ ?_)), rfl⟩
end Go.Proofs.Ytgofhjihkinknaa
/-
  HorseTrue: from how long moves take to the loops.
-/
namespace Go.Proofs.Ytgofhjihkinknaa
open Go Go.Sy Kuhn
set_option linter.unusedSimpArgs false
set_option maxRecDepth 100000
set_option maxHeartbeats 4000000
attribute [local irreducible] CallP CodeP Ent YieldP
set_option maxHeartbeats 40000000
attribute [local irreducible] HD.ch maskO

def H6b (h : HD) (y y2 pl lg : PD) : SHeap := HD.H h ++ [some (.roa 1 y.n (BDF y)), some (.roa 1 y2.n (BDF y2)), some (.cells (bc h)), some (.roa 1 pl.n (PD.F pl)), some (.roa 1 lg.n (PD.F lg))]
noncomputable def T6b (pl lg : PD) (mt : Int) : Tm := mkT [] [(3, .int .u8 mt), (4, .ptr 3 0), (8, .bool false), (9, .osl pl.b 4 1 pl.n pl.cap), (10, .osl lg.b 5 1 lg.n lg.cap)] 0 (List.replicate 327 none)
theorem seg6b (h : HD) (hv : h.Valid) (y y2 pl lg : PD) (hpl : pok h pl = true) (hlg : lg.n = h.n) (hl : LgOk h lg.p) (mt : Int) (hmt : 0 ≤ mt ∧ mt ≤ 255) : CodeP Try.prog none 3 (sufC Try.f6 5) ⟨T6b pl lg mt, H6b h y y2 pl lg, []⟩
    (KRet E Try.f6 3 (.bool true) (HD.H h ++ [some (.roa 1 y.n (BDF y)), some (.roa 1 y2.n (BDF y2))])) := by
  have hn := hv.2.1
  have hpn : pl.n = h.n := by
    unfold pok at hpl
    simp only [Bool.and_eq_true, decide_eq_true_eq] at hpl
    exact hpl.1
  have hm : 0 ≤ mt.tmod 221 ∧ mt.tmod 221 ≤ 220 := by
    have a := Int.tmod_nonneg 221 hmt.1
    have b := Int.tmod_lt_of_pos mt (show (0 : Int) < 221 by omega)
    omega
  have seg := seg6c h hv y y2 pl lg hpl hlg hl (mt.tmod 221) hm
  have c35 := t35 h hv pl lg hpl hlg hl
  have c20 := t20 h pl (by omega) _ _ (.inl ⟨hv, hpl, rfl, rfl⟩)
  have c1 := t18 h pl (by omega) true
  have c2 := t18 h pl (by omega) false
  have f1 := ec_or hv (s := true) hpl
  have f2 := ec_or hv (s := false) hpl
  have f3 : ec h true pl = 4 → ec h false pl = 4 := fun e => by
    rcases f1 with ⟨a, _⟩ | ⟨_, a⟩
    · omega
    · rcases f2 with ⟨_, b⟩ | ⟨b, _⟩
      · exact absurd (right_mono hv a) b
      · exact b
  have f1' : ec h true pl = 0 ∨ ec h true pl = 4 := by rcases f1 with ⟨a, _⟩ | ⟨a, _⟩ <;> simp [a]
  have f2' : ec h false pl = 0 ∨ ec h false pl = 4 := by rcases f2 with ⟨a, _⟩ | ⟨a, _⟩ <;> simp [a]
  obtain ⟨e1, he1⟩ : ∃ e, ec h true pl = e := ⟨_, rfl⟩
  obtain ⟨e2, he2⟩ : ∃ e, ec h false pl = e := ⟨_, rfl⟩
  rw [he1] at f1' f3 seg
  rw [he2] at f2' f3 seg
  unfold ec at he1 he2
  rw [he1] at c1
  rw [he2] at c2
  clear f1 f2
  refine codeP_XK E_ok 7 ?_
  (repeat' (first | exact trivial | exact fun _ => rfl | exact rfl | refine And.intro ?_ ?_))
  refine c35.use [0, 4, 5] ?_ (by (repeat' (first | exact trivial | exact rfl | exact fun _ _ => rfl | exact fun _ _ _ _ => rfl | exact Or.inl rfl | exact Or.inr rfl | refine And.intro ?_ ?_))) rfl
  (repeat' (first | exact trivial | exact fun _ => rfl | exact rfl | refine And.intro ?_ ?_))
  refine c20.use [0, 4] ?_ (by (repeat' (first | exact trivial | exact rfl | exact fun _ _ => rfl | exact fun _ _ _ _ => rfl | exact Or.inl rfl | exact Or.inr rfl | refine And.intro ?_ ?_))) rfl
  (repeat' (first | exact trivial | exact fun _ => rfl | exact rfl | refine And.intro ?_ ?_))
  refine c1.use [0, 4] ?_ (by (repeat' (first | exact trivial | exact rfl | exact fun _ _ => rfl | exact fun _ _ _ _ => rfl | exact Or.inl rfl | exact Or.inr rfl | refine And.intro ?_ ?_))) rfl
  (repeat' (first | exact trivial | exact fun _ => rfl | exact rfl | refine And.intro ?_ ?_))
  refine c2.use [0, 4] ?_ (by (repeat' (first | exact trivial | exact rfl | exact fun _ _ => rfl | exact fun _ _ _ _ => rfl | exact Or.inl rfl | exact Or.inr rfl | refine And.intro ?_ ?_))) rfl
  clear c35 c20 c1 c2
  (repeat' (first | exact trivial | exact fun _ => rfl | exact rfl | refine And.intro ?_ ?_))
  all_goals first | exact True.intro | omega | exact u1 (lt64 (by omega)) | exact u0 (lt64 (by omega)) | (show under _ _; simp [under, gB, wB]; done) | (show under _ _; simp [under, gB, wB]; omega) | skip
  · intro hx
    exfalso
    revert hx
    rcases f1' with q1 | q1 <;> rcases f2' with q2 | q2
    · simp [q1, q2, hpn]
    · simp [q1, q2, hpn]
    · have := f3 q1
      omega
    · simp [q1, q2, hpn]
  · intro hx
    clear hx
    (repeat' (first | exact trivial | exact fun _ => rfl | exact rfl | refine And.intro ?_ ?_))
    all_goals first | exact True.intro | omega | exact u1 (lt64 (by omega)) | exact u0 (lt64 (by omega)) | (show under _ _; simp [under, gB, wB]; done) | (show under _ _; simp [under, gB, wB]; omega) | skip
    refine CodeP.part seg ?_
    exact ent_tau [0, 1, 2, 3, 4, 5, 6, 7] ⟨by (repeat' (first | exact trivial | exact rfl | exact fun _ _ => rfl | exact fun _ _ _ _ => rfl | exact Or.inl rfl | exact Or.inr rfl | refine And.intro ?_ ?_)), by (repeat' (first | exact trivial | exact rfl | exact congrArg (SV.int .i64) (Int.natCast_succ _).symm | exact congrArg (SV.int .u64) (Int.natCast_succ _).symm | refine And.intro ?_ ?_)), rfl⟩
end Go.Proofs.Ytgofhjihkinknaa
/-
  HorseTrue: how long moves truly take.
-/
namespace Go.Proofs.Ytgofhjihkinknaa
open Go Go.Sy Kuhn
set_option linter.unusedSimpArgs false
set_option maxRecDepth 100000
set_option maxHeartbeats 4000000
attribute [local irreducible] CallP CodeP Ent YieldP
set_option maxHeartbeats 40000000
attribute [local irreducible] HD.ch maskO

def lgD (h : HD) (y : PD) (n : Nat) (b : Bool) (cap : Nat) : PD := ⟨n, mkL h y, b, cap⟩
def H6a (h : HD) (y y2 pl : PD) : SHeap := HD.H h ++ [some (.roa 1 y.n (BDF y)), some (.roa 1 y2.n (BDF y2)), some (.cells (bc h)), some (.roa 1 pl.n (PD.F pl))]
noncomputable def T6a (y2 pl : PD) (mt : Int) : Tm := mkT [] [(2, .osl y2.b 2 1 y2.n y2.cap), (3, .int .u8 mt), (4, .ptr 3 0), (8, .bool false), (9, .osl pl.b 4 1 pl.n pl.cap)] 0 (List.replicate 327 none)
theorem mkL_some {h : HD} {y : PD} (hn : 0 < y.n) (i : Nat) : h.lo i + (y.p (0 + (((i : Nat) : Int).tmod (y.n : Nat)).toNat)).tmod (h.hi i - h.lo i + 1) = mkL h y i := by
  unfold mkL
  have e : ((i : Nat) : Int).tmod (y.n : Nat) = ((i % y.n : Nat) : Int) := by
    rw [Int.tmod_eq_emod_of_nonneg (by omega)]
    rfl
  rw [if_neg (by omega), e, Int.toNat_natCast, Nat.zero_add]
theorem mkL_none {h : HD} {y : PD} (hn : y.n = 0) (i : Nat) : h.lo i = mkL h y i := by
  unfold mkL
  rw [if_pos hn]
theorem seg6a (h : HD) (hv : h.Valid) (y y2 pl : PD) (hy2 : BOk y2) (hpl : pok h pl = true) (mt : Int) (hmt : 0 ≤ mt ∧ mt ≤ 255) : CodeP Try.prog none 3 (sufC Try.f6 3) ⟨T6a y2 pl mt, H6a h y y2 pl, []⟩
    (KRet E Try.f6 3 (.bool true) (HD.H h ++ [some (.roa 1 y.n (BDF y)), some (.roa 1 y2.n (BDF y2))])) := by
  have hn := hv.2.1
  refine codeP_XK E_ok 2 ?_
  (repeat' (first | exact trivial | exact fun _ => rfl | exact rfl | refine And.intro ?_ ?_))
  refine loopP E_ok [2, 3, 4, 8, 9, 45, 46] (fun g : Nat × Nat => match g.1 with | 0 => [(10, .snil), (47, .int .i64 0)] | k + 1 => [(10, .slice 5 1 0 (k + 1) g.2), (47, .int .i64 (k + 1 : Nat))])
    (fun g _ => match g.1 with | 0 => H6a h y y2 pl | k + 1 => H6a h y y2 pl ++ [some (.arr 1 (k + 1) g.2 fun i => [.int .i64 (mkL h y2 i)])]) (fun g => g.1 ≤ h.n ∧ (0 < g.1 → g.1 ≤ g.2 ∧ g.2 ≤ 9223372036854775807)) (fun g => h.n - g.1) (0, 0) ⟨Nat.zero_le _, fun h => absurd h (Nat.lt_irrefl 0)⟩ ?_ ?_
  · exact ent_tau [0, 1, 2, 3, 4] ⟨by (repeat' (first | exact trivial | exact rfl | exact fun _ _ => rfl | exact fun _ _ _ _ => rfl | exact Or.inl rfl | exact Or.inr rfl | refine And.intro ?_ ?_)), by (repeat' (first | exact trivial | exact rfl | exact congrArg (SV.int .i64) (Int.natCast_succ _).symm | exact congrArg (SV.int .u64) (Int.natCast_succ _).symm | refine And.intro ?_ ?_)), rfl⟩
  rintro ⟨k, cap⟩ ⟨hk, hcap⟩
  simp only at hk hcap
  have hrem := fun h0 => rem_lt (y := y2) h0 k
  have hmk := fun h0 => mkL_some (h := h) (y := y2) h0 k
  have hmz := fun h0 => mkL_none (h := h) (y := y2) h0 k
  cases k with
  | zero =>
    refine And.intro ?_ (And.intro (fun hc => ?_) (fun hc => ?_))
    · (repeat' (first | exact trivial | exact fun _ => rfl | exact rfl | refine And.intro ?_ ?_))
    · have hlt : 0 < h.n := by
        have := of_decide_eq_true hc
        omega
      have m0 := (hv.2.2 0 hlt).2.2
      (repeat' (first | exact trivial | exact fun _ => rfl | exact rfl | refine And.intro ?_ ?_))
      all_goals first | (first | omega | exact u0 (by omega) | exact u1 (by omega) | exact u1 ⟨by omega, by omega⟩ | exact un (by omega) | exact fun hh => hh | exact fun hh => absurd hh (by decide) | exact fun hh => congrArg not hh | exact fun hh => Bool.noConfusion (show true = false from hh) | exact fun hh => Bool.noConfusion (show false = true from hh)) | skip
      · intro hx
        have hy0 : 0 < y2.n := by
          have hx2 : decide ((y2.n : Int) > 0) = true := hx
          have := of_decide_eq_true hx2
          omega
        have hrm : 0 ≤ (0 : Int).tmod (y2.n : Nat) ∧ (0 : Int).tmod (y2.n : Nat) < (y2.n : Nat) := hrem hy0
        have hr8 := hy2 (0 + ((0 : Int).tmod (y2.n : Nat)).toNat) (by omega)
        have e00 : 0 + Int.toNat 0 = 0 := rfl
        have ra := Int.tmod_nonneg (h.hi 0 - h.lo 0 + 1) hr8.1
        have rb := Int.tmod_lt_of_pos (y2.p (0 + ((0 : Int).tmod (y2.n : Nat)).toNat)) (show 0 < h.hi 0 - h.lo 0 + 1 by omega)
        (repeat' (first | exact trivial | exact fun _ => rfl | exact rfl | refine And.intro ?_ ?_))
        refine drawP E_ok [5] pl6_10 (by kernel_rfl) ?_
        (repeat' (first | exact trivial | exact fun _ => rfl | exact rfl | refine And.intro ?_ ?_))
        all_goals first | (first | omega | exact u0 (by omega) | exact u1 (by omega) | exact u1 ⟨by omega, by omega⟩ | exact un (by omega) | exact fun hh => hh | exact fun hh => absurd hh (by decide) | exact fun hh => congrArg not hh | exact fun hh => Bool.noConfusion (show true = false from hh) | exact fun hh => Bool.noConfusion (show false = true from hh)) | (simp only [e00]; omega) | (show under none _; exact u0 (by simp only [e00]; omega)) | decide | skip
        intro c5 h51 h52
        (repeat' (first | exact trivial | exact fun _ => rfl | exact rfl | refine And.intro ?_ ?_))
        all_goals first | (first | omega | exact u0 (by omega) | exact u1 (by omega) | exact u1 ⟨by omega, by omega⟩ | exact un (by omega) | exact fun hh => hh | exact fun hh => absurd hh (by decide) | exact fun hh => congrArg not hh | exact fun hh => Bool.noConfusion (show true = false from hh) | exact fun hh => Bool.noConfusion (show false = true from hh)) | exact u0 (by omega) | skip
        refine ⟨(0 + 1, c5), ⟨hlt, fun _ => ⟨h51, h52⟩⟩, by simp only; omega, ?_⟩
        refine ent_tau [0, 1, 2, 3, 4, 7] ⟨?_, by (repeat' (first | exact trivial | exact rfl | exact congrArg (SV.int .i64) (Int.natCast_succ _).symm | exact congrArg (SV.int .u64) (Int.natCast_succ _).symm | refine And.intro ?_ ?_)), rfl⟩
        (repeat' (first | exact trivial | exact rfl | exact fun _ _ => rfl | exact fun _ _ _ _ => rfl | exact Or.inl rfl | exact Or.inr rfl | refine And.intro ?_ ?_))
        exact fun i hi => by
          have h0 : i = 0 := Nat.lt_one_iff.1 hi
          subst h0
          exact congrArg (fun z => [SV.int .i64 z]) (hmk hy0)
      · intro hx
        have hy0 : y2.n = 0 := by
          have hx2 : decide ((y2.n : Int) > 0) = false := hx
          have := of_decide_eq_false hx2
          omega
        (repeat' (first | exact trivial | exact fun _ => rfl | exact rfl | refine And.intro ?_ ?_))
        all_goals first | (first | omega | exact u0 (by omega) | exact u1 (by omega) | exact u1 ⟨by omega, by omega⟩ | exact un (by omega) | exact fun hh => hh | exact fun hh => absurd hh (by decide) | exact fun hh => congrArg not hh | exact fun hh => Bool.noConfusion (show true = false from hh) | exact fun hh => Bool.noConfusion (show false = true from hh)) | decide | skip
        intro c5 h51 h52
        (repeat' (first | exact trivial | exact fun _ => rfl | exact rfl | refine And.intro ?_ ?_))
        all_goals first | (first | omega | exact u0 (by omega) | exact u1 (by omega) | exact u1 ⟨by omega, by omega⟩ | exact un (by omega) | exact fun hh => hh | exact fun hh => absurd hh (by decide) | exact fun hh => congrArg not hh | exact fun hh => Bool.noConfusion (show true = false from hh) | exact fun hh => Bool.noConfusion (show false = true from hh)) | exact u0 (by omega) | skip
        refine ⟨(0 + 1, c5), ⟨hlt, fun _ => ⟨h51, h52⟩⟩, by simp only; omega, ?_⟩
        refine ent_tau [0, 1, 2, 3, 4, 7] ⟨?_, by (repeat' (first | exact trivial | exact rfl | exact congrArg (SV.int .i64) (Int.natCast_succ _).symm | exact congrArg (SV.int .u64) (Int.natCast_succ _).symm | refine And.intro ?_ ?_)), rfl⟩
        (repeat' (first | exact trivial | exact rfl | exact fun _ _ => rfl | exact fun _ _ _ _ => rfl | exact Or.inl rfl | exact Or.inr rfl | refine And.intro ?_ ?_))
        exact fun i hi => by
          have h0 : i = 0 := Nat.lt_one_iff.1 hi
          subst h0
          exact congrArg (fun z => [SV.int .i64 z]) (hmz hy0)
    · have h0 : h.n = 0 := by
        have := of_decide_eq_false hc
        omega
      (repeat' (first | exact trivial | exact fun _ => rfl | exact rfl | refine And.intro ?_ ?_))
      refine CodeP.part (seg6b h hv y y2 pl (lgD h y2 0 false 0) hpl h0.symm (mkL_ok hv hy2) mt hmt) ?_
      refine entPlan0 (T := mkT [] [(3, .int .u8 mt), (4, .ptr 3 0), (8, .bool false), (9, .osl pl.b 4 1 pl.n pl.cap), (10, .snil)] 0 (List.replicate 327 none)) (H := H6a h y y2 pl) ?_ ?_ (i := 0) rfl
      · exact ent_tau [0, 1, 2, 3, 4] ⟨by (repeat' (first | exact trivial | exact rfl | exact fun _ _ => rfl | exact fun _ _ _ _ => rfl | exact Or.inl rfl | exact Or.inr rfl | refine And.intro ?_ ?_)), by (repeat' (first | exact trivial | exact rfl | exact congrArg (SV.int .i64) (Int.natCast_succ _).symm | exact congrArg (SV.int .u64) (Int.natCast_succ _).symm | refine And.intro ?_ ?_)), rfl⟩
      · (repeat' (first | exact trivial | exact rfl | exact fun η => rfl | exact fun η => by simp [den, lgD] | refine And.intro ?_ ?_))
  | succ k =>
    obtain ⟨hc1, hc2⟩ := hcap (by omega)
    refine And.intro ?_ (And.intro (fun hc => ?_) (fun hc => ?_))
    · (repeat' (first | exact trivial | exact fun _ => rfl | exact rfl | refine And.intro ?_ ?_))
    · have hlt : k + 1 < h.n := by
        have := of_decide_eq_true hc
        omega
      have m0 := (hv.2.2 (k + 1) hlt).2.2
      have ek := z1 (k + 1)
      (repeat' (first | exact trivial | exact fun _ => rfl | exact rfl | refine And.intro ?_ ?_))
      all_goals first | (first | omega | exact u0 (by omega) | exact u1 (by omega) | exact u1 ⟨by omega, by omega⟩ | exact un (by omega) | exact fun hh => hh | exact fun hh => absurd hh (by decide) | exact fun hh => congrArg not hh | exact fun hh => Bool.noConfusion (show true = false from hh) | exact fun hh => Bool.noConfusion (show false = true from hh)) | skip
      · intro hx
        have hy0 : 0 < y2.n := by
          have hx2 : decide ((y2.n : Int) > 0) = true := hx
          have := of_decide_eq_true hx2
          omega
        have hrm := hrem hy0
        have hr8 := hy2 (0 + ((((k + 1 : Nat) : Int)).tmod (y2.n : Nat)).toNat) (by omega)
        have ra := Int.tmod_nonneg (h.hi (k + 1) - h.lo (k + 1) + 1) hr8.1
        have rb := Int.tmod_lt_of_pos (y2.p (0 + ((((k + 1 : Nat) : Int)).tmod (y2.n : Nat)).toNat)) (show 0 < h.hi (k + 1) - h.lo (k + 1) + 1 by omega)
        (repeat' (first | exact trivial | exact fun _ => rfl | exact rfl | refine And.intro ?_ ?_))
        refine drawP E_ok [6] pl6_10 (by kernel_rfl) ?_
        (repeat' (first | exact trivial | exact fun _ => rfl | exact rfl | refine And.intro ?_ ?_))
        all_goals first | (first | omega | exact u0 (by omega) | exact u1 (by omega) | exact u1 ⟨by omega, by omega⟩ | exact un (by omega) | exact fun hh => hh | exact fun hh => absurd hh (by decide) | exact fun hh => congrArg not hh | exact fun hh => Bool.noConfusion (show true = false from hh) | exact fun hh => Bool.noConfusion (show false = true from hh)) | (show (_ : Int) ≤ _; rw [ek]; omega) | (show under none _; exact u0 (by rw [ek]; omega)) | (show _ * 8 ≤ 140737488355328; omega) | exact (fun k hk => by have h0 : k = 0 := Nat.lt_one_iff.1 hk; subst h0; rfl) | skip
        intro c5 h51 h52
        (repeat' (first | exact trivial | exact fun _ => rfl | exact rfl | refine And.intro ?_ ?_))
        all_goals first | (first | omega | exact u0 (by omega) | exact u1 (by omega) | exact u1 ⟨by omega, by omega⟩ | exact un (by omega) | exact fun hh => hh | exact fun hh => absurd hh (by decide) | exact fun hh => congrArg not hh | exact fun hh => Bool.noConfusion (show true = false from hh) | exact fun hh => Bool.noConfusion (show false = true from hh)) | exact u0 (by omega) | skip
        refine ⟨(k + 1 + 1, c5), ⟨hlt, fun _ => ⟨h51, h52⟩⟩, by simp only; omega, ?_⟩
        refine ent_tau [0, 1, 2, 3, 4, 8] ⟨?_, by (repeat' (first | exact trivial | exact rfl | exact congrArg (SV.int .i64) (Int.natCast_succ _).symm | exact congrArg (SV.int .u64) (Int.natCast_succ _).symm | refine And.intro ?_ ?_)), rfl⟩
        (repeat' (first | exact trivial | exact rfl | exact fun _ _ => rfl | exact fun _ _ _ _ => rfl | exact Or.inl rfl | exact Or.inr rfl | refine And.intro ?_ ?_))
        exact app1 _ k _ (by rw [ek]; exact hmk hy0)
      · intro hx
        have hy0 : y2.n = 0 := by
          have hx2 : decide ((y2.n : Int) > 0) = false := hx
          have := of_decide_eq_false hx2
          omega
        (repeat' (first | exact trivial | exact fun _ => rfl | exact rfl | refine And.intro ?_ ?_))
        all_goals first | (first | omega | exact u0 (by omega) | exact u1 (by omega) | exact u1 ⟨by omega, by omega⟩ | exact un (by omega) | exact fun hh => hh | exact fun hh => absurd hh (by decide) | exact fun hh => congrArg not hh | exact fun hh => Bool.noConfusion (show true = false from hh) | exact fun hh => Bool.noConfusion (show false = true from hh)) | (show _ * 8 ≤ 140737488355328; omega) | exact (fun k hk => by have h0 : k = 0 := Nat.lt_one_iff.1 hk; subst h0; rfl) | skip
        intro c5 h51 h52
        (repeat' (first | exact trivial | exact fun _ => rfl | exact rfl | refine And.intro ?_ ?_))
        all_goals first | (first | omega | exact u0 (by omega) | exact u1 (by omega) | exact u1 ⟨by omega, by omega⟩ | exact un (by omega) | exact fun hh => hh | exact fun hh => absurd hh (by decide) | exact fun hh => congrArg not hh | exact fun hh => Bool.noConfusion (show true = false from hh) | exact fun hh => Bool.noConfusion (show false = true from hh)) | exact u0 (by omega) | skip
        refine ⟨(k + 1 + 1, c5), ⟨hlt, fun _ => ⟨h51, h52⟩⟩, by simp only; omega, ?_⟩
        refine ent_tau [0, 1, 2, 3, 4, 8] ⟨?_, by (repeat' (first | exact trivial | exact rfl | exact congrArg (SV.int .i64) (Int.natCast_succ _).symm | exact congrArg (SV.int .u64) (Int.natCast_succ _).symm | refine And.intro ?_ ?_)), rfl⟩
        (repeat' (first | exact trivial | exact rfl | exact fun _ _ => rfl | exact fun _ _ _ _ => rfl | exact Or.inl rfl | exact Or.inr rfl | refine And.intro ?_ ?_))
        exact app1 _ k _ (by rw [ek]; exact hmz hy0)
    · have h0 : h.n = k + 1 := by
        have := of_decide_eq_false hc
        omega
      (repeat' (first | exact trivial | exact fun _ => rfl | exact rfl | refine And.intro ?_ ?_))
      refine CodeP.part (seg6b h hv y y2 pl (lgD h y2 (k + 1) true cap) hpl h0.symm (mkL_ok hv hy2) mt hmt) ?_
      refine entTmR (T := mkT [] [(3, .int .u8 mt), (4, .ptr 3 0), (8, .bool false), (9, .osl pl.b 4 1 pl.n pl.cap), (10, .slice 5 1 0 (k + 1) cap)] 0 (List.replicate 327 none)) ?_ ?_
      · exact ent_tau [0, 1, 2, 3, 4, 5] ⟨by (repeat' (first | exact trivial | exact rfl | exact fun _ _ => rfl | exact fun _ _ _ _ => rfl | exact Or.inl rfl | exact Or.inr rfl | refine And.intro ?_ ?_)), by (repeat' (first | exact trivial | exact rfl | exact congrArg (SV.int .i64) (Int.natCast_succ _).symm | exact congrArg (SV.int .u64) (Int.natCast_succ _).symm | refine And.intro ?_ ?_)), rfl⟩
      · (repeat' (first | exact trivial | exact rfl | exact fun η => rfl | exact fun η => by simp [den, lgD] | refine And.intro ?_ ?_))
theorem t6 (h : HD) (y y2 : PD) (mt : Int) (hy : BOk y) (hyn : y.n ≤ 9223372036854775807) (hy2 : BOk y2) (hmt : 0 ≤ mt ∧ mt ≤ 255) : CallP Try.prog 6 [HD.A h, .osl y.b 1 1 y.n y.cap, .osl y2.b 2 1 y2.n y2.cap, .int .u8 mt] (HD.H h ++ [some (.roa 1 y.n (BDF y)), some (.roa 1 y2.n (BDF y2))]) (Ret (.bool true) (HD.H h ++ [some (.roa 1 y.n (BDF y)), some (.roa 1 y2.n (BDF y2))])) := by
  obtain ⟨b, hb⟩ : ∃ b, vb h = b := ⟨_, rfl⟩
  have c33 := t33 h
  rw [hb] at c33
  refine callRK (E := E) E_ok 3 Try.func6 rfl ?_
  (repeat' (first | exact trivial | exact fun _ => rfl | exact rfl | refine And.intro ?_ ?_))
  refine c33.use [0] ?_ (by (repeat' (first | exact trivial | exact rfl | exact fun _ _ => rfl | exact fun _ _ _ _ => rfl | exact Or.inl rfl | exact Or.inr rfl | refine And.intro ?_ ?_))) rfl
  cases b with
  | false =>
    all_goals (repeat' (first | exact trivial | exact fun _ => rfl | exact rfl | refine And.intro ?_ ?_))
    all_goals first | exact True.intro | omega | exact u1 (lt64 (by omega)) | exact u0 (lt64 (by omega)) | (show under _ _; simp [under, gB, wB]; done) | (show under _ _; simp [under, gB, wB]; omega) | skip
    all_goals intro hx
    all_goals first | exact absurd hx (by decide) | skip
    (repeat' (first | exact trivial | exact fun _ => rfl | exact rfl | refine And.intro ?_ ?_))
    refine t15.use [] ?_ trivial rfl
    (repeat' (first | exact trivial | exact fun _ => rfl | exact rfl | refine And.intro ?_ ?_))
    all_goals first | exact True.intro | omega | exact u1 (lt64 (by omega)) | exact u0 (lt64 (by omega)) | (show under _ _; simp [under, gB, wB]; done) | (show under _ _; simp [under, gB, wB]; omega) | skip
    exact ent_tau [0, 1, 2] ⟨by (repeat' (first | exact trivial | exact rfl | exact fun _ _ => rfl | exact fun _ _ _ _ => rfl | exact Or.inl rfl | exact Or.inr rfl | refine And.intro ?_ ?_)), by (repeat' (first | exact trivial | exact rfl | exact congrArg (SV.int .i64) (Int.natCast_succ _).symm | exact congrArg (SV.int .u64) (Int.natCast_succ _).symm | refine And.intro ?_ ?_)), rfl⟩
  | true =>
    have hv := vb_iff.1 hb
    all_goals (repeat' (first | exact trivial | exact fun _ => rfl | exact rfl | refine And.intro ?_ ?_))
    all_goals first | exact True.intro | omega | exact u1 (lt64 (by omega)) | exact u0 (lt64 (by omega)) | (show under _ _; simp [under, gB, wB]; done) | (show under _ _; simp [under, gB, wB]; omega) | skip
    all_goals intro hx
    all_goals first | exact absurd hx (by decide) | skip
    (repeat' (first | exact trivial | exact fun _ => rfl | exact rfl | refine And.intro ?_ ?_))
    refine CallP.frameH (t34 h hv y hy hyn) [0, 1] (by (repeat' (first | exact trivial | exact rfl | exact fun _ _ => rfl | exact fun _ _ _ _ => rfl | exact Or.inl rfl | exact Or.inr rfl | refine And.intro ?_ ?_))) rfl ?_
    rintro ce h' (⟨h0, rfl, rfl⟩ | ⟨k, cap, h0, hc1, hc2, rfl, rfl⟩)
    · refine ⟨rfl, ?_⟩
      (repeat' (first | exact trivial | exact fun _ => rfl | exact rfl | refine And.intro ?_ ?_))
      refine CodeP.pre ?_ (seg6a h hv y y2 (mkD y 0 false 0) hy2 (pok_mk hy h0.symm false 0) mt hmt)
      refine entPlan0 (T := mkT [] [(2, .osl y2.b 2 1 y2.n y2.cap), (3, .int .u8 mt), (4, .ptr 3 0), (8, .bool false), (9, .snil)] 0 (List.replicate 327 none)) (H := HD.H h ++ [some (.roa 1 y.n (BDF y)), some (.roa 1 y2.n (BDF y2)), some (.cells (bc h))]) ?_ ?_ (i := 0) rfl
      · exact ent_tau [0, 1, 2, 3] ⟨by (repeat' (first | exact trivial | exact rfl | exact fun _ _ => rfl | exact fun _ _ _ _ => rfl | exact Or.inl rfl | exact Or.inr rfl | refine And.intro ?_ ?_)), by (repeat' (first | exact trivial | exact rfl | exact congrArg (SV.int .i64) (Int.natCast_succ _).symm | exact congrArg (SV.int .u64) (Int.natCast_succ _).symm | refine And.intro ?_ ?_)), rfl⟩
      · (repeat' (first | exact trivial | exact rfl | exact fun η => rfl | exact fun η => by simp [den, mkD] | refine And.intro ?_ ?_))
    · refine ⟨rfl, ?_⟩
      (repeat' (first | exact trivial | exact fun _ => rfl | exact rfl | refine And.intro ?_ ?_))
      refine CodeP.pre ?_ (seg6a h hv y y2 (mkD y (k + 1) true cap) hy2 (pok_mk hy h0.symm true cap) mt hmt)
      refine entTmR (T := mkT [] [(2, .osl y2.b 2 1 y2.n y2.cap), (3, .int .u8 mt), (4, .ptr 3 0), (8, .bool false), (9, .slice 4 1 0 (k + 1) cap)] 0 (List.replicate 327 none)) ?_ ?_
      · exact ent_tau [0, 1, 2, 3, 4] ⟨by (repeat' (first | exact trivial | exact rfl | exact fun _ _ => rfl | exact fun _ _ _ _ => rfl | exact Or.inl rfl | exact Or.inr rfl | refine And.intro ?_ ?_)), by (repeat' (first | exact trivial | exact rfl | exact congrArg (SV.int .i64) (Int.natCast_succ _).symm | exact congrArg (SV.int .u64) (Int.natCast_succ _).symm | refine And.intro ?_ ?_)), rfl⟩
      · (repeat' (first | exact trivial | exact rfl | exact fun η => rfl | exact fun η => by simp [den, mkD] | refine And.intro ?_ ?_))
end Go.Proofs.Ytgofhjihkinknaa
