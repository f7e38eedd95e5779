/-
  Parts: G9, C6, G10.
-/
import Derived.Test.YtipbempkngfdbaaDoorK26
import Derived.Test.YtipbempkngfdbaaDoorK23
set_option linter.unusedVariables false
/-
  Contract of the specification: Clash.
-/
namespace Go.Proofs.YtipbempkngfdbaaDoor
open Go Go.Sy
set_option linter.unusedSimpArgs false
set_option maxRecDepth 100000
set_option maxHeartbeats 4000000
attribute [local irreducible] CallP CodeP Ent YieldP

theorem t40i (x : Int) (h0 : 0 ≤ x) (h1 : x < 64) : CallP Tryd.prog 40 [.int .i64 x] [] (Ret (.int .i64 (oc64 x)) []) := by
  obtain ⟨n, rfl⟩ := Int.eq_ofNat_of_zero_le h0
  exact t40 n (by omega)
theorem t21 (t : TD) (ht : t.ok) : CallP Tryd.prog 21 [t.A] t.H (Ret (.tup [.int .i64 t.clashT.v, .int .i64 t.clashT.e]) t.H) := by
  have c34 := t34 t ht
  refine callR (E := E) E_ok Tryd.func21 rfl ?_
  refine And.intro ?_ ?_
  · (repeat' (first | exact trivial | exact fun _ => rfl | exact rfl | refine And.intro ?_ ?_))
  refine c34.use [0, 1, 2] ?_ (by (repeat' (first | exact trivial | exact rfl | exact fun _ _ => rfl | exact Or.inl rfl | refine And.intro ?_ ?_))) rfl
  refine And.intro ?_ (And.intro (fun h1 => ?_) (fun h1 => ?_))
  · (repeat' (first | exact trivial | exact fun _ => rfl | exact rfl | refine And.intro ?_ ?_))
  · have hv : ¬ t.Valid := by
      intro h
      rw [valid_iff.2 h] at h1
      cases h1
    have e : t.clashT = ⟨0, 1⟩ := by
      unfold TD.clashT
      rw [if_pos hv]
    rw [e]
    (repeat' (first | exact trivial | exact fun _ => rfl | exact rfl | refine And.intro ?_ ?_))
    exact ent_tau [0, 1, 2] ⟨by (repeat' (first | exact trivial | exact rfl | exact fun _ _ => rfl | exact Or.inl rfl | refine And.intro ?_ ?_)), by (repeat' (first | exact trivial | exact rfl | exact congrArg (SV.int .i64) (Int.natCast_succ _).symm | refine And.intro ?_ ?_)), rfl⟩
  have hv : t.Valid := by
    cases h : t.valid
    · rw [h] at h1
      cases h1
    · exact valid_iff.1 h
  have hL := hv.2.2.1
  have hp := pow_pos t.nL
  have h64 := pow_le64 hL
  have hN : ((2 ^ t.nL : Nat) : Int) = 2 ^ t.nL := by norm_cast
  have c67 := t67 t (show t.nL ≤ 40 by omega)
  refine And.intro ?_ ?_
  · (repeat' (first | exact trivial | exact fun _ => rfl | exact rfl | refine And.intro ?_ ?_))
  refine c67.use [0, 1, 2] ?_ (by (repeat' (first | exact trivial | exact rfl | exact fun _ _ => rfl | exact Or.inl rfl | refine And.intro ?_ ?_))) rfl
  refine And.intro ?_ ?_
  · (repeat' (first | exact trivial | exact fun _ => rfl | exact rfl | refine And.intro ?_ ?_))
  refine CallP.frameH (t68 t hv) [0, 1, 2] (by (repeat' (first | exact trivial | exact rfl | exact fun _ _ => rfl | exact Or.inl rfl | refine And.intro ?_ ?_))) rfl ?_
  rintro ce h' (⟨hX, rfl, rfl⟩ | ⟨hX, c, ia, ib, ca, cb, hI, hc, rfl, rfl⟩)
  · refine ⟨rfl, ?_⟩
    refine And.intro ?_ (And.intro (fun h3 => ?_) (fun h3 => ?_))
    · (repeat' (first | exact trivial | exact fun _ => rfl | exact rfl | refine And.intro ?_ ?_))
    · exact absurd (of_decide_eq_true h3) (by decide)
    rw [clash_ref hv hX]
    refine And.intro trivial ?_
    refine loopP E_ok [1, 2] (fun c : Nat => [(4, .int .i64 (clB (fun x => decide (t.truS x = [])) (2 ^ t.nL - 1) c)), (5, .int .i64 c)]) (fun _ _ => t.H ++ [some (.cells [.osl t.bM 0 3 t.nM t.cM, .osl t.bS 1 2 t.nS t.cS, .osl t.bL 2 4 t.nL t.cL])]) (fun c => c ≤ 2 ^ t.nL) (fun c => 2 ^ t.nL - c) 0 (Nat.zero_le _) ?_ ?_
    · exact ent_tau [0, 1, 2, 3] ⟨by (repeat' (first | exact trivial | exact rfl | exact fun _ _ => rfl | exact Or.inl rfl | refine And.intro ?_ ?_)), by (repeat' (first | exact trivial | exact rfl | exact congrArg (SV.int .i64) (Int.natCast_succ _).symm | refine And.intro ?_ ?_)), rfl⟩
    rintro c hc
    obtain ⟨⟨b1, b2, b3⟩, _, _⟩ := clB_ok (bad := fun x => decide (t.truS x = [])) (n := t.nL) (by omega) (by rw [decide_eq_true_eq, truS_all hv]; exact hX) c hc
    obtain ⟨best, eb⟩ : ∃ b, clB (fun x => decide (t.truS x = [])) (2 ^ t.nL - 1) c = b := ⟨_, rfl⟩
    rw [eb] at b2 b3
    refine And.intro ?_ ?_
    · (repeat' (first | exact trivial | exact fun _ => rfl | exact rfl | refine And.intro ?_ ?_))
    refine c67.use [0, 1, 2] ?_ (by (repeat' (first | exact trivial | exact rfl | exact fun _ _ => rfl | exact Or.inl rfl | refine And.intro ?_ ?_))) rfl
    refine And.intro ?_ (And.intro (fun hcc => ?_) (fun hcc => ?_))
    · (repeat' (first | exact trivial | exact fun _ => rfl | exact rfl | refine And.intro ?_ ?_))
    · have hlt : c < 2 ^ t.nL := by
        have := of_decide_eq_true hcc
        omega
      have hs : clB (fun x => decide (t.truS x = [])) (2 ^ t.nL - 1) (c + 1) = if oc64 (c : Int) < oc64 (clB (fun x => decide (t.truS x = [])) (2 ^ t.nL - 1) c) ∧ decide (t.truS c = []) = true then (c : Int) else clB (fun x => decide (t.truS x = [])) (2 ^ t.nL - 1) c := rfl
      have c40 := t40i (clB (fun x => decide (t.truS x = [])) (2 ^ t.nL - 1) c) (by rw [eb]; exact b2) (by rw [eb]; omega)
      refine And.intro ?_ ?_
      · (repeat' (first | exact trivial | exact fun _ => rfl | exact rfl | refine And.intro ?_ ?_))
      refine (t40i c (by omega) (by omega)).use [] ?_ trivial rfl
      refine And.intro ?_ ?_
      · (repeat' (first | exact trivial | exact fun _ => rfl | exact rfl | refine And.intro ?_ ?_))
      refine c40.use [] ?_ trivial rfl
      refine And.intro ?_ (And.intro (fun hg => ?_) (fun hg => ?_))
      · (repeat' (first | exact True.intro | exact d1 _ | exact d1t _ | exact d2 _ | exact d3 _ _ | exact d3f _ _ | exact fun _ _ => rfl | exact fun _ => rfl | exact rfl | refine And.intro ?_ ?_))
      · have hlo : oc64 (c : Int) < oc64 (clB (fun x => decide (t.truS x = [])) (2 ^ t.nL - 1) c) := of_decide_eq_true hg
        refine CallP.frameH (t69 t hv c ⟨by omega, by omega⟩) [0, 1, 2] (by (repeat' (first | exact trivial | exact rfl | exact fun _ _ => rfl | exact Or.inl rfl | refine And.intro ?_ ?_))) rfl ?_
        rintro ce h' (⟨hX2, rfl, rfl⟩ | ⟨hX2, c2, ia, ib, ca, cb, hI, hc2, rfl, rfl⟩)
        · refine ⟨rfl, ?_⟩
          refine And.intro ?_ (And.intro (fun hb => ?_) (fun hb => ?_))
          · (repeat' (first | exact True.intro | exact d1 _ | exact d1t _ | exact d2 _ | exact d3 _ _ | exact d3f _ _ | exact fun _ _ => rfl | exact fun _ => rfl | exact rfl | refine And.intro ?_ ?_))
            all_goals first | exact fun hg => by rw [hg]; rfl | skip
          · have hv2 : clB (fun x => decide (t.truS x = [])) (2 ^ t.nL - 1) (c + 1) = (c : Int) := by rw [hs, if_pos ⟨hlo, decide_eq_true hX2⟩]
            refine And.intro ?_ ?_
            · (repeat' (first | exact trivial | exact fun _ => rfl | exact rfl | refine And.intro ?_ ?_))
              all_goals omega
            refine ⟨c + 1, hlt, by omega, ?_⟩
            refine ent_tau [0, 1, 2, 3] ⟨?_, ?_, rfl⟩
            · (repeat' (first | exact trivial | exact rfl | exact fun _ _ => rfl | exact fun _ _ _ _ => rfl | exact Or.inl rfl | exact Or.inr rfl | refine And.intro ?_ ?_))
            · (repeat' (first | exact trivial | exact rfl | exact congrArg (SV.int .i64) (Int.natCast_succ _).symm | refine And.intro ?_ ?_))
              exact congrArg (SV.int .i64) hv2.symm
          · simp [hlo] at hb
        · refine ⟨rfl, ?_⟩
          have hpos := List.length_pos_iff.2 hX2
          refine And.intro ?_ (And.intro (fun hb => ?_) (fun hb => ?_))
          · (repeat' (first | exact True.intro | exact d1 _ | exact d1t _ | exact d2 _ | exact d3 _ _ | exact d3f _ _ | exact fun _ _ => rfl | exact fun _ => rfl | exact rfl | refine And.intro ?_ ?_))
            all_goals first | exact fun hg => by rw [hg]; rfl | skip
          · simp [hlo, hX2] at hb
          · have hv2 : clB (fun x => decide (t.truS x = [])) (2 ^ t.nL - 1) (c + 1) = clB (fun x => decide (t.truS x = [])) (2 ^ t.nL - 1) c := by rw [hs, if_neg (fun h => hX2 (of_decide_eq_true h.2))]
            refine And.intro ?_ ?_
            · (repeat' (first | exact trivial | exact fun _ => rfl | exact rfl | refine And.intro ?_ ?_))
              all_goals omega
            refine ⟨c + 1, hlt, by omega, ?_⟩
            refine ent_tau [0, 1, 2, 3] ⟨?_, ?_, rfl⟩
            · (repeat' (first | exact trivial | exact rfl | exact fun _ _ => rfl | exact fun _ _ _ _ => rfl | exact Or.inl rfl | exact Or.inr rfl | refine And.intro ?_ ?_))
            · (repeat' (first | exact trivial | exact rfl | exact congrArg (SV.int .i64) (Int.natCast_succ _).symm | refine And.intro ?_ ?_))
              exact congrArg (SV.int .i64) hv2.symm
      · have hlo : ¬ oc64 (c : Int) < oc64 (clB (fun x => decide (t.truS x = [])) (2 ^ t.nL - 1) c) := of_decide_eq_false hg
        refine And.intro ?_ (And.intro (fun hb => ?_) (fun hb => ?_))
        · (repeat' (first | exact True.intro | exact d1 _ | exact d1t _ | exact d2 _ | exact d3 _ _ | exact d3f _ _ | exact fun _ _ => rfl | exact fun _ => rfl | exact rfl | refine And.intro ?_ ?_))
          all_goals first | exact fun hg2 => absurd (hg2.symm.trans hg) (by decide) | skip
        · simp [hlo] at hb
        · have hv2 : clB (fun x => decide (t.truS x = [])) (2 ^ t.nL - 1) (c + 1) = clB (fun x => decide (t.truS x = [])) (2 ^ t.nL - 1) c := by rw [hs, if_neg (fun h => hlo h.1)]
          refine And.intro ?_ ?_
          · (repeat' (first | exact trivial | exact fun _ => rfl | exact rfl | refine And.intro ?_ ?_))
            all_goals omega
          refine ⟨c + 1, hlt, by omega, ?_⟩
          refine ent_tau [0, 1, 2, 3] ⟨?_, ?_, rfl⟩
          · (repeat' (first | exact trivial | exact rfl | exact fun _ _ => rfl | exact fun _ _ _ _ => rfl | exact Or.inl rfl | exact Or.inr rfl | refine And.intro ?_ ?_))
          · (repeat' (first | exact trivial | exact rfl | exact congrArg (SV.int .i64) (Int.natCast_succ _).symm | refine And.intro ?_ ?_))
            exact congrArg (SV.int .i64) hv2.symm
    · have e : c = 2 ^ t.nL := by
        have := of_decide_eq_false hcc
        omega
      subst e
      (repeat' (first | exact trivial | exact fun _ => rfl | exact rfl | refine And.intro ?_ ?_))
      exact ent_tau [0, 1, 2] ⟨by (repeat' (first | exact trivial | exact rfl | exact fun _ _ => rfl | exact Or.inl rfl | refine And.intro ?_ ?_)), by (repeat' (first | exact trivial | exact rfl | exact congrArg (SV.int .i64) (Int.natCast_succ _).symm | refine And.intro ?_ ?_)), rfl⟩
  · refine ⟨rfl, ?_⟩
    have e : t.clashT = ⟨0, 4⟩ := by
      rcases clash_law hv with ⟨_, h⟩ | ⟨v, h, _⟩
      · exact h
      · exact absurd h hX
    have hpos := List.length_pos_iff.2 hX
    refine And.intro ?_ (And.intro (fun h3 => ?_) (fun h3 => ?_))
    · (repeat' (first | exact trivial | exact fun _ => rfl | exact rfl | refine And.intro ?_ ?_))
    · rw [e]
      (repeat' (first | exact trivial | exact fun _ => rfl | exact rfl | refine And.intro ?_ ?_))
      exact ent_tau [0, 1, 2] ⟨by (repeat' (first | exact trivial | exact rfl | exact fun _ _ => rfl | exact Or.inl rfl | refine And.intro ?_ ?_)), by (repeat' (first | exact trivial | exact rfl | exact congrArg (SV.int .i64) (Int.natCast_succ _).symm | refine And.intro ?_ ?_)), rfl⟩
    · have := of_decide_eq_false h3
      omega
end Go.Proofs.YtipbempkngfdbaaDoor
/-
  Contract: dipworkslaw01.heavy: it answers.
-/
namespace Go.Proofs.YtipbempkngfdbaaDoor
open Go Go.Sy
set_option linter.unusedSimpArgs false
set_option maxRecDepth 100000
set_option maxHeartbeats 4000000
attribute [local irreducible] CallP CodeP Ent YieldP

theorem grow3 {n d : Int} {k : Nat} (h0 : 0 ≤ n) (hn : n ≤ 3 ^ k) (d0 : 0 ≤ d) (d2 : d ≤ 3) : 0 ≤ n * d ∧ n * d ≤ 3 ^ (k + 1) := by
  refine ⟨Int.mul_nonneg h0 d0, ?_⟩
  have h1 : n * d ≤ n * 3 := Int.mul_le_mul_of_nonneg_left d2 h0
  have h2 : (3 : Int) ^ (k + 1) = 3 ^ k * 3 := Int.pow_succ ..
  omega
theorem pow3 {k : Nat} (h : k ≤ 8) : (3 : Int) ^ k ≤ 6561 := by
  have : k = 0 ∨ k = 1 ∨ k = 2 ∨ k = 3 ∨ k = 4 ∨ k = 5 ∨ k = 6 ∨ k = 7 ∨ k = 8 := by omega
  rcases this with rfl | rfl | rfl | rfl | rfl | rfl | rfl | rfl | rfl <;> decide
theorem t13 (t : TD) (ht : t.ok) (ways : Int) : CallP Tryd.prog 13 [t.A, .int .i64 ways] t.H (fun ce h' => ∃ b, ce = .ret (.bool b) ∧ h' = t.H) := by
  refine callK (E := E) E_ok Tryd.func13 rfl ?_
  refine And.intro ?_ ?_
  · simp [AllP, under, gB, wB, inR_iff, IntKind.bits]
  refine (t33 t).use [0, 1, 2] ?_ (by (repeat' (first | exact trivial | exact rfl | exact fun _ _ => rfl | exact Or.inl rfl | refine And.intro ?_ ?_))) rfl
  refine And.intro ?_ (And.intro (fun hl => ?_) (fun hl => ?_))
  · simp [AllP, under, gB, wB, inR_iff, IntKind.bits]
  · refine (t34 t ht).use [0, 1, 2] ?_ (by (repeat' (first | exact trivial | exact rfl | exact fun _ _ => rfl | exact Or.inl rfl | refine And.intro ?_ ?_))) rfl
    refine And.intro ?_ (And.intro (fun hb => ?_) (fun hb => ?_))
    · simp [AllP, under, gB, wB, inR_iff, IntKind.bits]
    · refine And.intro trivial ?_
      refine (t33 t).use [0, 1, 2] ?_ (by (repeat' (first | exact trivial | exact rfl | exact fun _ _ => rfl | exact Or.inl rfl | refine And.intro ?_ ?_))) rfl
      refine And.intro ?_ ⟨.ret (.bool (decide (40 < max (max t.nM t.nS) t.nL))), t.H, ⟨_, rfl, rfl⟩, ?_⟩
      · simp [AllP, under, gB, wB, inR_iff, IntKind.bits]
      exact ent_tau [0, 1, 2] ⟨by (repeat' (first | exact trivial | exact rfl | exact fun _ _ => rfl | exact Or.inl rfl | refine And.intro ?_ ?_)), by (repeat' (first | exact trivial | exact rfl | exact congrArg (SV.int .i64) (Int.natCast_succ _).symm | refine And.intro ?_ ?_)), rfl⟩
    · have hv : t.Valid := by
        cases hc : decide (40 < max (max t.nM t.nS) t.nL)
        · rw [hc] at hb
          have hb2 : (!t.valid) = false := hb
          simpa [TD.valid] using hb2
        · rw [hc] at hb
          cases hb
      have hM := hv.1
      have hS := hv.2.1
      refine And.intro ?_ ?_
      · simp [AllP, under, gB, wB, inR_iff, IntKind.bits]
      refine loopP E_ok [1, 2, 4, 20, 21] (fun g : Nat × Int => [(5, .int .i64 g.2), (22, .int .i64 g.1)]) (fun _ H => H) (fun g => g.1 ≤ t.nM ∧ 0 ≤ g.2 ∧ g.2 ≤ 3 ^ g.1) (fun g => t.nM - g.1) (0, 1) ⟨Nat.zero_le _, by decide, by decide⟩ ?_ ?_
      · exact ent_tau [0, 1, 2, 3] ⟨by (repeat' (first | exact trivial | exact rfl | exact fun _ _ => rfl | exact Or.inl rfl | refine And.intro ?_ ?_)), by (repeat' (first | exact trivial | exact rfl | exact congrArg (SV.int .i64) (Int.natCast_succ _).symm | refine And.intro ?_ ?_)), rfl⟩
      · rintro ⟨k, n⟩ ⟨hk, hn0, hn⟩
        have p3 := pow3 (k := k) (by simp only at hk; omega)
        simp only at hk hn0 hn
        refine And.intro ?_ (And.intro (fun hc => ?_) (fun hc => ?_))
        · simp [AllP, under, gB, wB, inR_iff, IntKind.bits]
        · have hk' : k < t.nM := by
            have : (k : Int) < t.nM := by simpa using hc
            omega
          have mk := hv.marks (i := 0 + ((k : Int)).toNat) (by omega)
          simp only [TD.markOk] at mk
          have gr := grow3 (d := t.mhi (0 + ((k : Int)).toNat) - t.mlo (0 + ((k : Int)).toNat) + 1) hn0 hn (by omega) (by omega)
          have p4 := pow3 (k := k + 1) (by omega)
          refine And.intro ?_ ⟨(k + 1, n * (t.mhi (0 + ((k : Int)).toNat) - t.mlo (0 + ((k : Int)).toNat) + 1)), ⟨hk', gr.1, gr.2⟩, by simp only; omega, ?_⟩
          · simp only [AllP, under, inR_iff, and_true, true_and]
            (repeat' refine And.intro ?_ ?_) <;> omega
          · exact ent_tau [0, 1, 2, 3] ⟨by (repeat' (first | exact trivial | exact rfl | exact fun _ _ => rfl | exact Or.inl rfl | refine And.intro ?_ ?_)), by (repeat' (first | exact trivial | exact rfl | exact congrArg (SV.int .i64) (Int.natCast_succ _).symm | refine And.intro ?_ ?_)), rfl⟩
        · have hk' : k = t.nM := by
            have : ¬ ((k : Int) < t.nM) := by simpa using hc
            omega
          subst hk'
          refine And.intro ?_ ?_
          · simp [AllP, under, gB, wB, inR_iff, IntKind.bits]
          refine And.intro ?_ ?_
          · simp [AllP, under, gB, wB, inR_iff, IntKind.bits]
          refine loopP E_ok [1, 2, 4, 38, 39] (fun g : Nat × Int => [(5, .int .i64 g.2), (40, .int .i64 g.1)]) (fun _ H => H) (fun g => g.1 ≤ t.nS ∧ 0 ≤ g.2 ∧ g.2 ≤ 3 ^ (t.nM + g.1)) (fun g => t.nS - g.1) (0, n) ⟨Nat.zero_le _, hn0, hn⟩ ?_ ?_
          · exact ent_tau [0, 1, 2, 3] ⟨by (repeat' (first | exact trivial | exact rfl | exact fun _ _ => rfl | exact Or.inl rfl | refine And.intro ?_ ?_)), by (repeat' (first | exact trivial | exact rfl | exact congrArg (SV.int .i64) (Int.natCast_succ _).symm | refine And.intro ?_ ?_)), rfl⟩
          · rintro ⟨k, n⟩ ⟨hk, hn0, hn⟩
            have p3 := pow3 (k := t.nM + k) (by simp only at hk; omega)
            simp only at hk hn0 hn
            refine And.intro ?_ (And.intro (fun hc => ?_) (fun hc => ?_))
            · simp [AllP, under, gB, wB, inR_iff, IntKind.bits]
            · have hk' : k < t.nS := by
                have : (k : Int) < t.nS := by simpa using hc
                omega
              have mk := hv.2.2.2.2.1 (0 + ((k : Int)).toNat) (by omega)
              simp only [TD.sandOk] at mk
              have gr := grow3 (d := t.shi (0 + ((k : Int)).toNat) - t.slo (0 + ((k : Int)).toNat) + 1) hn0 hn (by omega) (by omega)
              have p4 := pow3 (k := t.nM + k + 1) (by omega)
              refine And.intro ?_ ⟨(k + 1, n * (t.shi (0 + ((k : Int)).toNat) - t.slo (0 + ((k : Int)).toNat) + 1)), ⟨hk', gr.1, gr.2⟩, by simp only; omega, ?_⟩
              · simp only [AllP, under, inR_iff, and_true, true_and]
                (repeat' refine And.intro ?_ ?_) <;> omega
              · exact ent_tau [0, 1, 2, 3] ⟨by (repeat' (first | exact trivial | exact rfl | exact fun _ _ => rfl | exact Or.inl rfl | refine And.intro ?_ ?_)), by (repeat' (first | exact trivial | exact rfl | exact congrArg (SV.int .i64) (Int.natCast_succ _).symm | refine And.intro ?_ ?_)), rfl⟩
            · refine And.intro trivial ?_
              refine And.intro trivial ?_
              refine ⟨.ret (.bool (decide (n > ways))), t.H, ⟨_, rfl, rfl⟩, ?_⟩
              exact ent_tau [0, 1, 2] ⟨by (repeat' (first | exact trivial | exact rfl | exact fun _ _ => rfl | exact Or.inl rfl | refine And.intro ?_ ?_)), by (repeat' (first | exact trivial | exact rfl | exact congrArg (SV.int .i64) (Int.natCast_succ _).symm | refine And.intro ?_ ?_)), rfl⟩
  · have hl2 : decide (40 < max (max t.nM t.nS) t.nL) = true := by
      cases hc : decide (40 < max (max t.nM t.nS) t.nL)
      · rw [hc] at hl
        cases hl
      · rfl
    refine And.intro ?_ (And.intro (fun hb => ?_) (fun hb => ?_))
    · refine And.intro ?_ ?_
      · simp [AllP, under, gB, wB, inR_iff, IntKind.bits]
      simp [AllP, under, gB, wB, inR_iff, IntKind.bits]
      have := of_decide_eq_true hl2
      omega
    · refine And.intro trivial ?_
      refine (t33 t).use [0, 1, 2] ?_ (by (repeat' (first | exact trivial | exact rfl | exact fun _ _ => rfl | exact Or.inl rfl | refine And.intro ?_ ?_))) rfl
      refine And.intro ?_ ⟨.ret (.bool (decide (40 < max (max t.nM t.nS) t.nL))), t.H, ⟨_, rfl, rfl⟩, ?_⟩
      · simp [AllP, under, gB, wB, inR_iff, IntKind.bits]
      exact ent_tau [0, 1, 2] ⟨by (repeat' (first | exact trivial | exact rfl | exact fun _ _ => rfl | exact Or.inl rfl | refine And.intro ?_ ?_)), by (repeat' (first | exact trivial | exact rfl | exact congrArg (SV.int .i64) (Int.natCast_succ _).symm | refine And.intro ?_ ?_)), rfl⟩
    · rw [hl2] at hb
      cases hb
end Go.Proofs.YtipbempkngfdbaaDoor
/-
  Contract: TideClashes.
-/
namespace Go.Proofs.YtipbempkngfdbaaDoor
open Go Go.Sy
set_option linter.unusedSimpArgs false
set_option maxRecDepth 100000
set_option maxHeartbeats 4000000
attribute [local irreducible] CallP CodeP Ent YieldP

theorem t4 (t : TD) (ht : t.ok) : CallP Tryd.prog 4 [t.A] t.HG (Ret (.bool true) t.HG) := by
  refine callR (E := E) E_ok Tryd.func4 rfl ?_
  refine And.intro ?_ ?_
  · (repeat' (first | exact trivial | exact fun _ => rfl | exact rfl | refine And.intro ?_ ?_))
  refine CallP.frameH (t13 t ht 700) [0, 1, 2] (by (repeat' (first | exact trivial | exact rfl | exact fun _ _ => rfl | exact Or.inl rfl | refine And.intro ?_ ?_))) rfl ?_
  rintro ce h' ⟨b, rfl, rfl⟩
  refine ⟨rfl, ?_⟩
  refine And.intro ?_ (And.intro (fun hl => ?_) (fun hl => ?_))
  · simp [AllP, under, gB, wB, inR_iff, IntKind.bits]
  · refine And.intro trivial ?_
    refine (t14).use [3, 4] ?_ (by (repeat' (first | exact trivial | exact rfl | exact fun _ _ => rfl | exact Or.inl rfl | refine And.intro ?_ ?_))) rfl
    refine And.intro trivial ?_
    exact ent_tau [0, 1, 2, 3, 4] ⟨by (repeat' (first | exact trivial | exact rfl | exact fun _ _ => rfl | exact Or.inl rfl | refine And.intro ?_ ?_)), by (repeat' (first | exact trivial | exact rfl | exact congrArg (SV.int .i64) (Int.natCast_succ _).symm | refine And.intro ?_ ?_)), rfl⟩
  · refine And.intro ?_ ?_
    · (repeat' (first | exact trivial | exact fun _ => rfl | exact rfl | refine And.intro ?_ ?_))
    refine (t20 t).use [0, 1, 2, 3, 4] ?_ (by (repeat' (first | exact trivial | exact rfl | exact fun _ _ => rfl | exact Or.inl rfl | refine And.intro ?_ ?_))) rfl
    refine And.intro ?_ ?_
    · (repeat' (first | exact trivial | exact fun _ => rfl | exact rfl | refine And.intro ?_ ?_))
    refine (t21 t ht).use [0, 1, 2] ?_ (by (repeat' (first | exact trivial | exact rfl | exact fun _ _ => rfl | exact Or.inl rfl | refine And.intro ?_ ?_))) rfl
    refine And.intro ?_ (And.intro (fun hg => ?_) (fun hg => ?_))
    · (repeat' (first | exact True.intro | exact d1 _ | exact d1t _ | exact d2 _ | exact d3 _ _ | exact d3f _ _ | exact fun _ _ => rfl | exact fun _ => rfl | exact rfl | refine And.intro ?_ ?_))
    · refine (t14).use [3, 4] ?_ (by (repeat' (first | exact trivial | exact rfl | exact fun _ _ => rfl | exact Or.inl rfl | refine And.intro ?_ ?_))) rfl
      refine And.intro ?_ ?_
      · (repeat' (first | exact True.intro | exact d1 _ | exact d1t _ | exact d2 _ | exact d3 _ _ | exact d3f _ _ | exact fun _ _ => rfl | exact fun _ => rfl | exact rfl | refine And.intro ?_ ?_))
        all_goals first | exact fun hg2 => by simp [gB, wB] | skip
      refine ent_tau [0, 1, 2, 3, 4] ⟨by (repeat' (first | exact trivial | exact rfl | exact fun _ _ => rfl | exact Or.inl rfl | refine And.intro ?_ ?_)), ⟨rfl, ?_, trivial⟩, rfl⟩
      exact congrArg SV.bool (by simp)
    · simp [gB, wB] at hg
end Go.Proofs.YtipbempkngfdbaaDoor
