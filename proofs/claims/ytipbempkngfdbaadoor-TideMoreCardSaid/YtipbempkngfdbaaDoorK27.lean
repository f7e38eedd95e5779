/-
  Parts: Mh, Mg, Mf, Me, Mc, Mb.
-/
import Derived.Test.YtipbempkngfdbaaDoorK26
/-
  TideMore: tides that say more.
-/
namespace Go.Proofs.YtipbempkngfdbaaDoor
open Go Go.Sy
set_option linter.unusedSimpArgs false
set_option maxRecDepth 100000
set_option maxHeartbeats 4000000
attribute [local irreducible] CallP CodeP Ent YieldP

theorem plus_ok {t : TD} (h : t.ok) {a m lo hi : Int} (ha : InR .i64 a) (hm : InR .i64 m) (hlo : InR .i64 lo) (hhi : InR .i64 hi) (cap : Nat) : (t.plus a m lo hi cap).ok := by
  refine ⟨h.mi, h.mlo, h.mhi, h.slo, h.shi, fun k => ?_, fun k => ?_, fun k => ?_, fun k => ?_⟩
  · show InR .i64 (if k = t.nL then a else t.lp k)
    split
    · exact ha
    · exact h.lp k
  · show InR .i64 (if k = t.nL then m else t.lm k)
    split
    · exact hm
    · exact h.lm k
  · show InR .i64 (if k = t.nL then lo else t.llo k)
    split
    · exact hlo
    · exact h.llo k
  · show InR .i64 (if k = t.nL then hi else t.lhi k)
    split
    · exact hhi
    · exact h.lhi k
theorem seg28 (t : TD) (hv : t.Valid) (w q m low la lm ll lh : Int) (ht : Base t q m low la lm ll lh) (cap c : Nat) (hc1 : t.nL + 1 ≤ cap) (hc2 : cap ≤ 9223372036854775807) (hc3 : t.nL ≤ c) (hc4 : c ≤ 9223372036854775807) (lo' : Nat → Int) (hlo : ∀ k, InR .i64 (lo' k)) (hYv : (t.lows lo' c).Valid) (hYt : Tight t (t.lows lo' c)) (cz : Nat) (bz : Bool) (cl : Nat) (d1 d2 d3 : Nat) : CodeP Tryd.prog none t.HG.length (sufC Tryd.f12 15) ⟨T28 t q m low d1 d2 d3, H28 t q m la lm ll lh cap c lo' cz bz cl d1 d2 d3, []⟩ (KRet E Tryd.f12 t.HG.length (.bool true) t.HG) := by
  obtain ⟨qn, rfl⟩ := Int.eq_ofNat_of_zero_le ht.q.1
  have hqn2 := ht.q.2
  refine codeP_XK E_ok 1 ?_
  refine And.intro ?_ ?_
  · (repeat' (first | exact trivial | exact fun _ => rfl | exact rfl | refine And.intro ?_ ?_))
  refine loopP E_ok [5, 10, 11, 13, 14, 15, 16, 17, 18, 23, 24, 25, 26, 27, 28, 29, 30, 31, 32, 33, 34, 35, 228, 229] (fun k : Nat => [(230, .int .i64 k)]) (fun _ H => H) (fun k => k ≤ 2) (fun k => 2 - k) 0 (by decide) ?_ ?_
  · refine ent_tau [0, 1, 2, 3, 4, 5, 6, 7, 8, 9, 10, 11, 12, 13, 14, 15, 16, 17, 18, 19] ⟨?_, by (repeat' (first | exact trivial | exact rfl | exact congrArg (SV.int .i64) (Int.natCast_succ _).symm | refine And.intro ?_ ?_)), rfl⟩
    (repeat' (first | exact trivial | exact rfl | exact fun _ _ => rfl | exact Or.inl rfl | refine And.intro ?_ ?_))
    all_goals (intro i hi; rcases lt2 hi with rfl | rfl <;> rfl)
  · intro k hk
    have hk3 : k = 0 ∨ k = 1 ∨ k = 2 := by omega
    rcases hk3 with rfl | rfl | rfl
    · refine And.intro ?_ (And.intro (fun hc => ?_) (fun hc => ?_))
      · (repeat' (first | exact trivial | exact fun _ => rfl | exact rfl | refine And.intro ?_ ?_))
      rotate_left
      · exact absurd hc (by decide)
      · have hok : (t.plus la lm ll lh cap).ok := plus_ok ht.ok ht.la ht.lm ht.ll ht.lh cap
        have c34 := t34 (t.plus la lm ll lh cap) hok
        have c25 := t25 (t.plus la lm ll lh cap) qn m
        have c22 := t22 (t.plus la lm ll lh cap) m
        have c26 := t26 (t.plus la lm ll lh cap)
        refine And.intro ?_ ?_
        · (repeat' (first | exact trivial | exact fun _ => rfl | exact rfl | refine And.intro ?_ ?_))
          all_goals first | exact (by decide) | exact un (by decide)
        refine (c34).use [0, 1, 10] ?_ (by (repeat' (first | exact trivial | exact rfl | exact fun _ _ => rfl | exact Or.inl rfl | refine And.intro ?_ ?_))) rfl
        refine And.intro ?_ (And.intro (fun h => ?_) (fun h => ?_))
        · (repeat' (first | exact trivial | exact fun _ => rfl | exact rfl | refine And.intro ?_ ?_))
        · refine And.intro ?_ ⟨1, by decide, by decide, ?_⟩
          · (repeat' (first | exact trivial | exact fun _ => rfl | exact rfl | refine And.intro ?_ ?_))
            all_goals decide
          · refine ent_tau [0, 1, 2, 3, 4, 5, 6, 7, 8, 9, 10, 11, 12, 13, 14, 15, 16, 17, 18, 19] ⟨?_, by (repeat' (first | exact trivial | exact rfl | exact congrArg (SV.int .i64) (Int.natCast_succ _).symm | refine And.intro ?_ ?_)), rfl⟩
            (repeat' (first | exact trivial | exact rfl | exact fun _ _ => rfl | exact Or.inl rfl | refine And.intro ?_ ?_))
            all_goals (intro i hi; rcases lt2 hi with rfl | rfl <;> rfl)
        · have hqv : (t.plus la lm ll lh cap).Valid := by
            have h2 : (!(t.plus la lm ll lh cap).valid) = false := h
            simpa [TD.valid] using h2
          have M := more hv hqv (plus_tight t la lm ll lh cap) (p := qn) (by omega) ht.m
          obtain ⟨⟨⟨da, db⟩, de⟩, hqd⟩ : ∃ x, (t.plus la lm ll lh cap).depthT qn m = x := ⟨_, rfl⟩
          obtain ⟨⟨⟨ga, gb⟩, ge⟩, hqg⟩ : ∃ x, (t.plus la lm ll lh cap).height m = x := ⟨_, rfl⟩
          obtain ⟨⟨cv, ce⟩, hqc⟩ : ∃ x, (t.plus la lm ll lh cap).countT = x := ⟨_, rfl⟩
          obtain ⟨m1, m2, m3, m4⟩ := M
          rw [hqd] at c25 m1 m2 m4
          rw [hqg] at c22 m1 m4
          rw [hqc] at c26 m3
          refine And.intro ?_ ?_
          · (repeat' (first | exact trivial | exact fun _ => rfl | exact rfl | refine And.intro ?_ ?_))
          refine (c25).use [0, 1, 10, 3, 4] ?_ (by (repeat' (first | exact trivial | exact rfl | exact fun _ _ => rfl | exact Or.inl rfl | refine And.intro ?_ ?_))) rfl
          refine And.intro ?_ ?_
          · (repeat' (first | exact trivial | exact fun _ => rfl | exact rfl | refine And.intro ?_ ?_))
          refine (c22).use [0, 1, 10, 3, 4] ?_ (by (repeat' (first | exact trivial | exact rfl | exact fun _ _ => rfl | exact Or.inl rfl | refine And.intro ?_ ?_))) rfl
          refine And.intro ?_ ?_
          · (repeat' (first | exact trivial | exact fun _ => rfl | exact rfl | refine And.intro ?_ ?_))
          refine (c26).use [0, 1, 10, 3, 4] ?_ (by (repeat' (first | exact trivial | exact rfl | exact fun _ _ => rfl | exact Or.inl rfl | refine And.intro ?_ ?_))) rfl
          dsimp only at m1 m2 m3 m4
          obtain ⟨rfl, m3b⟩ := m3
          subst m1
          have m3c : ¬ cv > t.countT.v := by omega
          rcases m2 with rfl | rfl
          · obtain ⟨n1, n2, n3, n4, n5, n6⟩ := m4 rfl
            refine And.intro ?_ (And.intro (fun hg => ?_) (fun hg => ?_))
            · (repeat' (first | exact True.intro | exact d1 _ | exact d1t _ | exact d2 _ | exact d3 _ _ | exact d3f _ _ | exact fun _ _ => rfl | exact fun _ => rfl | exact rfl | refine And.intro ?_ ?_))
              all_goals first | exact un (fun h => by rw [h]; rfl) | exact fun hg h => by rw [hg, h]; rfl | exact fun hg => by simp [gB, wB] at hg
            rotate_left
            · exfalso
              simp [gB, wB, n1, n2, m3c] at hg
            refine (t41 da db (t.depthT qn m).v.1 (t.depthT qn m).v.2).use [] ?_ (by (repeat' (first | exact trivial | exact rfl | exact fun _ _ => rfl | exact Or.inl rfl | refine And.intro ?_ ?_))) rfl
            refine And.intro ?_ (And.intro (fun hg => ?_) (fun hg => ?_))
            · (repeat' (first | exact True.intro | exact d1 _ | exact d1t _ | exact d2 _ | exact d3 _ _ | exact d3f _ _ | exact fun _ _ => rfl | exact fun _ => rfl | exact rfl | refine And.intro ?_ ?_))
              all_goals first | exact un (fun h => by rw [h]; rfl) | exact fun hg h => by rw [hg, h]; rfl | exact fun hg => by simp [gB, wB] at hg
            rotate_left
            · exfalso
              simp [gB, wB, n1, n2, m3c] at hg
              omega
            refine (t41 ga gb (t.height m).v.1 (t.height m).v.2).use [] ?_ (by (repeat' (first | exact trivial | exact rfl | exact fun _ _ => rfl | exact Or.inl rfl | refine And.intro ?_ ?_))) rfl
            refine And.intro ?_ (And.intro (fun h => ?_) (fun h => ?_))
            · (repeat' (first | exact True.intro | exact d1 _ | exact d1t _ | exact d2 _ | exact d3 _ _ | exact d3f _ _ | exact fun _ _ => rfl | exact fun _ => rfl | exact rfl | refine And.intro ?_ ?_))
              all_goals first | exact un (fun h => by rw [h]; rfl) | exact fun hg h => by rw [hg, h]; rfl | exact fun hg => by simp [gB, wB] at hg
            · exfalso
              simp [n1, n2, m3c] at h
              omega
            refine And.intro ?_ ⟨1, by decide, by decide, ?_⟩
            · (repeat' (first | exact trivial | exact fun _ => rfl | exact rfl | refine And.intro ?_ ?_))
              all_goals decide
            · refine ent_tau [0, 1, 2, 3, 4, 5, 6, 7, 8, 9, 10, 11, 12, 13, 14, 15, 16, 17, 18, 19] ⟨?_, by (repeat' (first | exact trivial | exact rfl | exact congrArg (SV.int .i64) (Int.natCast_succ _).symm | refine And.intro ?_ ?_)), rfl⟩
              (repeat' (first | exact trivial | exact rfl | exact fun _ _ => rfl | exact Or.inl rfl | refine And.intro ?_ ?_))
              all_goals (intro i hi; rcases lt2 hi with rfl | rfl <;> rfl)
          · refine And.intro ?_ (And.intro (fun hg => ?_) (fun hg => ?_))
            · (repeat' (first | exact True.intro | exact d1 _ | exact d1t _ | exact d2 _ | exact d3 _ _ | exact d3f _ _ | exact fun _ _ => rfl | exact fun _ => rfl | exact rfl | refine And.intro ?_ ?_))
              all_goals first | exact un (fun h => by rw [h]; rfl) | exact fun hg h => by rw [hg, h]; rfl | exact fun hg => by simp [gB, wB] at hg
            · exfalso
              simp [gB, wB] at hg
            refine And.intro ?_ (And.intro (fun hg => ?_) (fun hg => ?_))
            · (repeat' (first | exact True.intro | exact d1 _ | exact d1t _ | exact d2 _ | exact d3 _ _ | exact d3f _ _ | exact fun _ _ => rfl | exact fun _ => rfl | exact rfl | refine And.intro ?_ ?_))
              all_goals first | exact un (fun h => by rw [h]; rfl) | exact fun hg h => by rw [hg, h]; rfl | exact fun hg => by simp [gB, wB] at hg
            · exfalso
              simp [gB, wB] at hg
            refine And.intro ?_ (And.intro (fun h => ?_) (fun h => ?_))
            · (repeat' (first | exact True.intro | exact d1 _ | exact d1t _ | exact d2 _ | exact d3 _ _ | exact d3f _ _ | exact fun _ _ => rfl | exact fun _ => rfl | exact rfl | refine And.intro ?_ ?_))
              all_goals first | exact un (fun h => by rw [h]; rfl) | exact fun hg h => by rw [hg, h]; rfl | exact fun hg => by simp [gB, wB] at hg
            · exfalso
              simp [m3c] at h
            refine And.intro ?_ ⟨1, by decide, by decide, ?_⟩
            · (repeat' (first | exact trivial | exact fun _ => rfl | exact rfl | refine And.intro ?_ ?_))
              all_goals decide
            · refine ent_tau [0, 1, 2, 3, 4, 5, 6, 7, 8, 9, 10, 11, 12, 13, 14, 15, 16, 17, 18, 19] ⟨?_, by (repeat' (first | exact trivial | exact rfl | exact congrArg (SV.int .i64) (Int.natCast_succ _).symm | refine And.intro ?_ ?_)), rfl⟩
              (repeat' (first | exact trivial | exact rfl | exact fun _ _ => rfl | exact Or.inl rfl | refine And.intro ?_ ?_))
              all_goals (intro i hi; rcases lt2 hi with rfl | rfl <;> rfl)
    · refine And.intro ?_ (And.intro (fun hc => ?_) (fun hc => ?_))
      · (repeat' (first | exact trivial | exact fun _ => rfl | exact rfl | refine And.intro ?_ ?_))
      rotate_left
      · exact absurd hc (by decide)
      · have hok : (t.lows lo' c).ok := ⟨ht.ok.mi, ht.ok.mlo, ht.ok.mhi, ht.ok.slo, ht.ok.shi, ht.ok.lp, ht.ok.lm, hlo, ht.ok.lhi⟩
        have c34 := t34 (t.lows lo' c) hok
        have c25 := t25 (t.lows lo' c) qn m
        have c22 := t22 (t.lows lo' c) m
        have c26 := t26 (t.lows lo' c)
        refine And.intro ?_ ?_
        · (repeat' (first | exact trivial | exact fun _ => rfl | exact rfl | refine And.intro ?_ ?_))
          all_goals first | exact (by decide) | exact un (by decide)
        refine (c34).use [0, 1, 11] ?_ (by (repeat' (first | exact trivial | exact rfl | exact fun _ _ => rfl | exact Or.inl rfl | refine And.intro ?_ ?_))) rfl
        refine And.intro ?_ (And.intro (fun h => ?_) (fun h => ?_))
        · (repeat' (first | exact trivial | exact fun _ => rfl | exact rfl | refine And.intro ?_ ?_))
        · refine And.intro ?_ ⟨2, by decide, by decide, ?_⟩
          · (repeat' (first | exact trivial | exact fun _ => rfl | exact rfl | refine And.intro ?_ ?_))
            all_goals decide
          · refine ent_tau [0, 1, 2, 3, 4, 5, 6, 7, 8, 9, 10, 11, 12, 13, 14, 15, 16, 17, 18, 19] ⟨?_, by (repeat' (first | exact trivial | exact rfl | exact congrArg (SV.int .i64) (Int.natCast_succ _).symm | refine And.intro ?_ ?_)), rfl⟩
            (repeat' (first | exact trivial | exact rfl | exact fun _ _ => rfl | exact Or.inl rfl | refine And.intro ?_ ?_))
            all_goals (intro i hi; rcases lt2 hi with rfl | rfl <;> rfl)
        · have hqv : (t.lows lo' c).Valid := by
            have h2 : (!(t.lows lo' c).valid) = false := h
            simpa [TD.valid] using h2
          have M := more hv hqv (hYt) (p := qn) (by omega) ht.m
          obtain ⟨⟨⟨da, db⟩, de⟩, hqd⟩ : ∃ x, (t.lows lo' c).depthT qn m = x := ⟨_, rfl⟩
          obtain ⟨⟨⟨ga, gb⟩, ge⟩, hqg⟩ : ∃ x, (t.lows lo' c).height m = x := ⟨_, rfl⟩
          obtain ⟨⟨cv, ce⟩, hqc⟩ : ∃ x, (t.lows lo' c).countT = x := ⟨_, rfl⟩
          obtain ⟨m1, m2, m3, m4⟩ := M
          rw [hqd] at c25 m1 m2 m4
          rw [hqg] at c22 m1 m4
          rw [hqc] at c26 m3
          refine And.intro ?_ ?_
          · (repeat' (first | exact trivial | exact fun _ => rfl | exact rfl | refine And.intro ?_ ?_))
          refine (c25).use [0, 1, 11, 3, 4] ?_ (by (repeat' (first | exact trivial | exact rfl | exact fun _ _ => rfl | exact Or.inl rfl | refine And.intro ?_ ?_))) rfl
          refine And.intro ?_ ?_
          · (repeat' (first | exact trivial | exact fun _ => rfl | exact rfl | refine And.intro ?_ ?_))
          refine (c22).use [0, 1, 11, 3, 4] ?_ (by (repeat' (first | exact trivial | exact rfl | exact fun _ _ => rfl | exact Or.inl rfl | refine And.intro ?_ ?_))) rfl
          refine And.intro ?_ ?_
          · (repeat' (first | exact trivial | exact fun _ => rfl | exact rfl | refine And.intro ?_ ?_))
          refine (c26).use [0, 1, 11, 3, 4] ?_ (by (repeat' (first | exact trivial | exact rfl | exact fun _ _ => rfl | exact Or.inl rfl | refine And.intro ?_ ?_))) rfl
          dsimp only at m1 m2 m3 m4
          obtain ⟨rfl, m3b⟩ := m3
          subst m1
          have m3c : ¬ cv > t.countT.v := by omega
          rcases m2 with rfl | rfl
          · obtain ⟨n1, n2, n3, n4, n5, n6⟩ := m4 rfl
            refine And.intro ?_ (And.intro (fun hg => ?_) (fun hg => ?_))
            · (repeat' (first | exact True.intro | exact d1 _ | exact d1t _ | exact d2 _ | exact d3 _ _ | exact d3f _ _ | exact fun _ _ => rfl | exact fun _ => rfl | exact rfl | refine And.intro ?_ ?_))
              all_goals first | exact un (fun h => by rw [h]; rfl) | exact fun hg h => by rw [hg, h]; rfl | exact fun hg => by simp [gB, wB] at hg
            rotate_left
            · exfalso
              simp [gB, wB, n1, n2, m3c] at hg
            refine (t41 da db (t.depthT qn m).v.1 (t.depthT qn m).v.2).use [] ?_ (by (repeat' (first | exact trivial | exact rfl | exact fun _ _ => rfl | exact Or.inl rfl | refine And.intro ?_ ?_))) rfl
            refine And.intro ?_ (And.intro (fun hg => ?_) (fun hg => ?_))
            · (repeat' (first | exact True.intro | exact d1 _ | exact d1t _ | exact d2 _ | exact d3 _ _ | exact d3f _ _ | exact fun _ _ => rfl | exact fun _ => rfl | exact rfl | refine And.intro ?_ ?_))
              all_goals first | exact un (fun h => by rw [h]; rfl) | exact fun hg h => by rw [hg, h]; rfl | exact fun hg => by simp [gB, wB] at hg
            rotate_left
            · exfalso
              simp [gB, wB, n1, n2, m3c] at hg
              omega
            refine (t41 ga gb (t.height m).v.1 (t.height m).v.2).use [] ?_ (by (repeat' (first | exact trivial | exact rfl | exact fun _ _ => rfl | exact Or.inl rfl | refine And.intro ?_ ?_))) rfl
            refine And.intro ?_ (And.intro (fun h => ?_) (fun h => ?_))
            · (repeat' (first | exact True.intro | exact d1 _ | exact d1t _ | exact d2 _ | exact d3 _ _ | exact d3f _ _ | exact fun _ _ => rfl | exact fun _ => rfl | exact rfl | refine And.intro ?_ ?_))
              all_goals first | exact un (fun h => by rw [h]; rfl) | exact fun hg h => by rw [hg, h]; rfl | exact fun hg => by simp [gB, wB] at hg
            · exfalso
              simp [n1, n2, m3c] at h
              omega
            refine And.intro ?_ ⟨2, by decide, by decide, ?_⟩
            · (repeat' (first | exact trivial | exact fun _ => rfl | exact rfl | refine And.intro ?_ ?_))
              all_goals decide
            · refine ent_tau [0, 1, 2, 3, 4, 5, 6, 7, 8, 9, 10, 11, 12, 13, 14, 15, 16, 17, 18, 19] ⟨?_, by (repeat' (first | exact trivial | exact rfl | exact congrArg (SV.int .i64) (Int.natCast_succ _).symm | refine And.intro ?_ ?_)), rfl⟩
              (repeat' (first | exact trivial | exact rfl | exact fun _ _ => rfl | exact Or.inl rfl | refine And.intro ?_ ?_))
              all_goals (intro i hi; rcases lt2 hi with rfl | rfl <;> rfl)
          · refine And.intro ?_ (And.intro (fun hg => ?_) (fun hg => ?_))
            · (repeat' (first | exact True.intro | exact d1 _ | exact d1t _ | exact d2 _ | exact d3 _ _ | exact d3f _ _ | exact fun _ _ => rfl | exact fun _ => rfl | exact rfl | refine And.intro ?_ ?_))
              all_goals first | exact un (fun h => by rw [h]; rfl) | exact fun hg h => by rw [hg, h]; rfl | exact fun hg => by simp [gB, wB] at hg
            · exfalso
              simp [gB, wB] at hg
            refine And.intro ?_ (And.intro (fun hg => ?_) (fun hg => ?_))
            · (repeat' (first | exact True.intro | exact d1 _ | exact d1t _ | exact d2 _ | exact d3 _ _ | exact d3f _ _ | exact fun _ _ => rfl | exact fun _ => rfl | exact rfl | refine And.intro ?_ ?_))
              all_goals first | exact un (fun h => by rw [h]; rfl) | exact fun hg h => by rw [hg, h]; rfl | exact fun hg => by simp [gB, wB] at hg
            · exfalso
              simp [gB, wB] at hg
            refine And.intro ?_ (And.intro (fun h => ?_) (fun h => ?_))
            · (repeat' (first | exact True.intro | exact d1 _ | exact d1t _ | exact d2 _ | exact d3 _ _ | exact d3f _ _ | exact fun _ _ => rfl | exact fun _ => rfl | exact rfl | refine And.intro ?_ ?_))
              all_goals first | exact un (fun h => by rw [h]; rfl) | exact fun hg h => by rw [hg, h]; rfl | exact fun hg => by simp [gB, wB] at hg
            · exfalso
              simp [m3c] at h
            refine And.intro ?_ ⟨2, by decide, by decide, ?_⟩
            · (repeat' (first | exact trivial | exact fun _ => rfl | exact rfl | refine And.intro ?_ ?_))
              all_goals decide
            · refine ent_tau [0, 1, 2, 3, 4, 5, 6, 7, 8, 9, 10, 11, 12, 13, 14, 15, 16, 17, 18, 19] ⟨?_, by (repeat' (first | exact trivial | exact rfl | exact congrArg (SV.int .i64) (Int.natCast_succ _).symm | refine And.intro ?_ ?_)), rfl⟩
              (repeat' (first | exact trivial | exact rfl | exact fun _ _ => rfl | exact Or.inl rfl | refine And.intro ?_ ?_))
              all_goals (intro i hi; rcases lt2 hi with rfl | rfl <;> rfl)
    · refine And.intro ?_ (And.intro (fun hc => ?_) (fun hc => ?_))
      · (repeat' (first | exact trivial | exact fun _ => rfl | exact rfl | refine And.intro ?_ ?_))
      · exact absurd hc (by decide)
      · refine And.intro trivial ?_
        refine And.intro trivial ?_
        refine CodeP.part (seg38 t hv w qn m low la lm ll lh ht cap c hc1 hc2 hc3 hc4 lo' hlo hYv hYt cz bz cl d1 d2 d3) ?_
        exact ent_tau [0, 1, 2, 3, 4, 5, 6, 7, 8, 9, 10, 11, 12, 13, 14, 15, 16, 17, 18] ⟨by (repeat' (first | exact trivial | exact rfl | exact fun _ _ => rfl | exact Or.inl rfl | refine And.intro ?_ ?_)), by (repeat' (first | exact trivial | exact rfl | exact congrArg (SV.int .i64) (Int.natCast_succ _).symm | refine And.intro ?_ ?_)), rfl⟩
end Go.Proofs.YtipbempkngfdbaaDoor
/-
  TideMore: what is told of the tide itself.
-/
namespace Go.Proofs.YtipbempkngfdbaaDoor
open Go Go.Sy
set_option linter.unusedSimpArgs false
set_option maxRecDepth 100000
set_option maxHeartbeats 4000000
attribute [local irreducible] CallP CodeP Ent YieldP

theorem seg23 (t : TD) (hv : t.Valid) (w q m low la lm ll lh : Int) (ht : Base t q m low la lm ll lh) (cap c : Nat) (hc1 : t.nL + 1 ≤ cap) (hc2 : cap ≤ 9223372036854775807) (hc3 : t.nL ≤ c) (hc4 : c ≤ 9223372036854775807) (lo' : Nat → Int) (hlo : ∀ k, InR .i64 (lo' k)) (hYv : (t.lows lo' c).Valid) (hYt : Tight t (t.lows lo' c)) (cz : Nat) (bz : Bool) (cl : Nat) (d1 d2 d3 : Nat) : CodeP Tryd.prog none t.HG.length (sufC Tryd.f12 10) ⟨T24 t q m low d1 d2 d3, H24 t la lm ll lh cap c lo' cz bz cl d1 d2 d3, []⟩ (KRet E Tryd.f12 t.HG.length (.bool true) t.HG) := by
  have hlow := ht.low
  refine codeP_XK E_ok 5 ?_
  refine And.intro ?_ ?_
  · (repeat' (first | exact trivial | exact fun _ => rfl | exact rfl | refine And.intro ?_ ?_))
  refine (t25 t q m).use [0, 1, 2, 3, 4] ?_ (by (repeat' (first | exact trivial | exact rfl | exact fun _ _ => rfl | exact Or.inl rfl | refine And.intro ?_ ?_))) rfl
  refine And.intro ?_ ?_
  · (repeat' (first | exact trivial | exact fun _ => rfl | exact rfl | refine And.intro ?_ ?_))
  refine (t22 t m).use [0, 1, 2, 3, 4] ?_ (by (repeat' (first | exact trivial | exact rfl | exact fun _ _ => rfl | exact Or.inl rfl | refine And.intro ?_ ?_))) rfl
  refine And.intro ?_ ?_
  · (repeat' (first | exact trivial | exact fun _ => rfl | exact rfl | refine And.intro ?_ ?_))
  refine (t26 t).use [0, 1, 2, 3, 4] ?_ (by (repeat' (first | exact trivial | exact rfl | exact fun _ _ => rfl | exact Or.inl rfl | refine And.intro ?_ ?_))) rfl
  refine And.intro ?_ ?_
  · (repeat' (first | exact trivial | exact fun _ => rfl | exact rfl | refine And.intro ?_ ?_))
    all_goals omega
  refine (t32 t m low (if low + 3 < 60 then low + 3 else 60)).use [0, 1, 2, 3, 4] ?_ (by (repeat' (first | exact trivial | exact rfl | exact fun _ _ => rfl | exact Or.inl rfl | refine And.intro ?_ ?_))) rfl
  refine And.intro ?_ ?_
  · (repeat' (first | exact trivial | exact fun _ => rfl | exact rfl | refine And.intro ?_ ?_))
  refine CodeP.part (seg28 t hv w q m low la lm ll lh ht cap c hc1 hc2 hc3 hc4 lo' hlo hYv hYt cz bz cl d1 d2 d3) ?_
  exact ent_tau [0, 1, 2, 3, 4, 5, 6, 7, 8, 9, 10, 11, 12, 13, 14, 15, 16, 17, 18] ⟨by (repeat' (first | exact trivial | exact rfl | exact fun _ _ => rfl | exact Or.inl rfl | refine And.intro ?_ ?_)), by (repeat' (first | exact trivial | exact rfl | exact congrArg (SV.int .i64) (Int.natCast_succ _).symm | refine And.intro ?_ ?_)), rfl⟩
end Go.Proofs.YtipbempkngfdbaaDoor
/-
  TideMore: copies of all arguments.
-/
namespace Go.Proofs.YtipbempkngfdbaaDoor
open Go Go.Sy
set_option linter.unusedSimpArgs false
set_option maxRecDepth 100000
set_option maxHeartbeats 4000000
attribute [local irreducible] CallP CodeP Ent YieldP

def pl12_22s : Plan := .eager 1 <| .eager 2 <| .eager 5 <| .eager 6 <| .eager 9 <| .eager 10 <| .alt 0 (.alt 3 (.alt 4 (.alt 7 (.alt 8 (.alt 11 (.eager 12 <| (.eager 13 <| (.eager 14 <| .done))) .no) .no) (.alt 8 (.alt 7 (.alt 11 (.eager 12 <| (.eager 13 <| (.eager 14 <| .done))) .no) .no) .no)) (.alt 8 (.alt 4 (.alt 7 (.alt 11 (.eager 12 <| (.eager 13 <| (.eager 14 <| .done))) .no) .no) .no) .no)) (.alt 4 (.alt 3 (.alt 7 (.alt 8 (.alt 11 (.eager 12 <| (.eager 13 <| (.eager 14 <| .done))) .no) .no) (.alt 8 (.alt 7 (.alt 11 (.eager 12 <| (.eager 13 <| (.eager 14 <| .done))) .no) .no) .no)) (.alt 8 (.alt 3 (.alt 7 (.alt 11 (.eager 12 <| (.eager 13 <| (.eager 14 <| .done))) .no) .no) .no) .no)) (.alt 8 (.alt 3 (.alt 4 (.alt 7 (.alt 11 (.eager 12 <| (.eager 13 <| (.eager 14 <| .done))) .no) .no) .no) (.alt 4 (.alt 3 (.alt 7 (.alt 11 (.eager 12 <| (.eager 13 <| (.eager 14 <| .done))) .no) .no) .no) .no)) .no))) (.alt 4 (.alt 0 (.alt 3 (.alt 7 (.alt 8 (.alt 11 (.eager 12 <| (.eager 13 <| (.eager 14 <| .done))) .no) .no) (.alt 8 (.alt 7 (.alt 11 (.eager 12 <| (.eager 13 <| (.eager 14 <| .done))) .no) .no) .no)) (.alt 8 (.alt 3 (.alt 7 (.alt 11 (.eager 12 <| (.eager 13 <| (.eager 14 <| .done))) .no) .no) .no) .no)) (.alt 8 (.alt 0 (.alt 3 (.alt 7 (.alt 11 (.eager 12 <| (.eager 13 <| (.eager 14 <| .done))) .no) .no) .no) .no) .no)) (.alt 8 (.alt 0 (.alt 3 (.alt 4 (.alt 7 (.alt 11 (.eager 12 <| (.eager 13 <| (.eager 14 <| .done))) .no) .no) .no) (.alt 4 (.alt 3 (.alt 7 (.alt 11 (.eager 12 <| (.eager 13 <| (.eager 14 <| .done))) .no) .no) .no) .no)) (.alt 4 (.alt 0 (.alt 3 (.alt 7 (.alt 11 (.eager 12 <| (.eager 13 <| (.eager 14 <| .done))) .no) .no) .no) .no) .no)) .no))
theorem seg22 (t : TD) (hv : t.Valid) (w q m low la lm ll lh : Int) (ht : Base t q m low la lm ll lh) (cap c : Nat) (hc1 : t.nL + 1 ≤ cap) (hc2 : cap ≤ 9223372036854775807) (hc3 : t.nL ≤ c) (hc4 : c ≤ 9223372036854775807) (lo' : Nat → Int) (hlo : ∀ k, InR .i64 (lo' k)) (hYv : (t.lows lo' c).Valid) (hYt : Tight t (t.lows lo' c)) (cz : Nat) (bz : Bool) (cl : Nat) : CodeP Tryd.prog none t.HG.length (sufC Tryd.f12 9) ⟨T6 t w q m low, H22 t la lm ll lh cap c lo' cz bz cl, []⟩ (KRet E Tryd.f12 t.HG.length (.bool true) t.HG) := by
  have hM := hv.1
  have hS := hv.2.1
  have hL := hv.2.2.1
  have b1 : (0 + t.nM) * 24 ≤ 140737488355328 := by omega
  have b2 : (0 + t.nS) * 16 ≤ 140737488355328 := by omega
  have b3 : (0 + t.nL) * 32 ≤ 140737488355328 := by omega
  have hrow : ∀ (f g0 : Nat → List SV) (k : Nat), selL (decide (k < 0)) (g0 k) (f (0 + (k - 0))) = f k := fun f g0 k => by
    rw [decide_eq_false (Nat.not_lt_zero k), selL_false, Nat.zero_add, Nat.sub_zero]
  refine codeP_XK E_ok 1 ?_
  refine And.intro ?_ ?_
  · (repeat' (first | exact trivial | exact fun _ => rfl | exact rfl | refine And.intro ?_ ?_))
  refine drawP E_ok [5] pl12_22s (by kernel_rfl) ?_
  (repeat' (first | exact trivial | exact fun _ => rfl | exact rfl | refine And.intro ?_ ?_))
  all_goals first | exact Nat.le_refl _ | exact Nat.zero_le _ | exact Nat.le_of_eq (Nat.zero_add _) | exact b1 | exact b2 | exact b3 | exact (fun k hk => rfl) | intro d1 h1 h2
  all_goals (repeat' (first | exact trivial | exact fun _ => rfl | exact rfl | refine And.intro ?_ ?_))
  all_goals first | exact Nat.le_refl _ | exact Nat.zero_le _ | exact Nat.le_of_eq (Nat.zero_add _) | exact b1 | exact b2 | exact b3 | exact (fun k hk => rfl) | intro d2 h3 h4
  all_goals (repeat' (first | exact trivial | exact fun _ => rfl | exact rfl | refine And.intro ?_ ?_))
  all_goals first | exact Nat.le_refl _ | exact Nat.zero_le _ | exact Nat.le_of_eq (Nat.zero_add _) | exact b1 | exact b2 | exact b3 | exact (fun k hk => rfl) | intro d3 h5 h6
  all_goals (repeat' (first | exact trivial | exact fun _ => rfl | exact rfl | refine And.intro ?_ ?_))
  all_goals refine CodeP.part (seg23 t hv w q m low la lm ll lh ht cap c hc1 hc2 hc3 hc4 lo' hlo hYv hYt cz bz cl d1 d2 d3) ?_
  · refine ent_tau [0, 1, 2, 3, 4, 5, 6, 7, 8, 9, 10, 11, 12, 13, 15, 17, 19] ⟨?_, ?_, rfl⟩
    all_goals (repeat' (first | exact trivial | exact rfl | exact fun _ _ => rfl | exact Or.inl rfl | refine And.intro ?_ ?_))
    all_goals first | exact Nat.zero_add _ | exact (fun k hk => hrow _ _ k) | exact congrArg (fun n => SV.slice _ _ _ n _) (Nat.zero_add _)
  · refine ent_tau [0, 1, 2, 3, 4, 5, 6, 7, 8, 9, 10, 11, 12, 13, 15, 18, 19] ⟨?_, ?_, rfl⟩
    all_goals (repeat' (first | exact trivial | exact rfl | exact fun _ _ => rfl | exact Or.inl rfl | refine And.intro ?_ ?_))
    all_goals first | exact Nat.zero_add _ | exact (fun k hk => hrow _ _ k) | exact congrArg (fun n => SV.slice _ _ _ n _) (Nat.zero_add _)
  · refine ent_tau [0, 1, 2, 3, 4, 5, 6, 7, 8, 9, 10, 11, 12, 13, 15, 18, 19] ⟨?_, ?_, rfl⟩
    all_goals (repeat' (first | exact trivial | exact rfl | exact fun _ _ => rfl | exact Or.inl rfl | refine And.intro ?_ ?_))
    all_goals first | exact Nat.zero_add _ | exact (fun k hk => hrow _ _ k) | exact congrArg (fun n => SV.slice _ _ _ n _) (Nat.zero_add _)
  · refine ent_tau [0, 1, 2, 3, 4, 5, 6, 7, 8, 9, 10, 11, 12, 13, 16, 17, 19] ⟨?_, ?_, rfl⟩
    all_goals (repeat' (first | exact trivial | exact rfl | exact fun _ _ => rfl | exact Or.inl rfl | refine And.intro ?_ ?_))
    all_goals first | exact Nat.zero_add _ | exact (fun k hk => hrow _ _ k) | exact congrArg (fun n => SV.slice _ _ _ n _) (Nat.zero_add _)
  · refine ent_tau [0, 1, 2, 3, 4, 5, 6, 7, 8, 9, 10, 11, 12, 13, 16, 18, 19] ⟨?_, ?_, rfl⟩
    all_goals (repeat' (first | exact trivial | exact rfl | exact fun _ _ => rfl | exact Or.inl rfl | refine And.intro ?_ ?_))
    all_goals first | exact Nat.zero_add _ | exact (fun k hk => hrow _ _ k) | exact congrArg (fun n => SV.slice _ _ _ n _) (Nat.zero_add _)
  · refine ent_tau [0, 1, 2, 3, 4, 5, 6, 7, 8, 9, 10, 11, 12, 13, 17, 18, 19] ⟨?_, ?_, rfl⟩
    all_goals (repeat' (first | exact trivial | exact rfl | exact fun _ _ => rfl | exact Or.inl rfl | refine And.intro ?_ ?_))
    all_goals first | exact Nat.zero_add _ | exact (fun k hk => hrow _ _ k) | exact congrArg (fun n => SV.slice _ _ _ n _) (Nat.zero_add _)
  · refine ent_tau [0, 1, 2, 3, 4, 5, 6, 7, 8, 9, 10, 11, 12, 13, 16, 18, 19] ⟨?_, ?_, rfl⟩
    all_goals (repeat' (first | exact trivial | exact rfl | exact fun _ _ => rfl | exact Or.inl rfl | refine And.intro ?_ ?_))
    all_goals first | exact Nat.zero_add _ | exact (fun k hk => hrow _ _ k) | exact congrArg (fun n => SV.slice _ _ _ n _) (Nat.zero_add _)
  · refine ent_tau [0, 1, 2, 3, 4, 5, 6, 7, 8, 9, 10, 11, 12, 13, 17, 18, 19] ⟨?_, ?_, rfl⟩
    all_goals (repeat' (first | exact trivial | exact rfl | exact fun _ _ => rfl | exact Or.inl rfl | refine And.intro ?_ ?_))
    all_goals first | exact Nat.zero_add _ | exact (fun k hk => hrow _ _ k) | exact congrArg (fun n => SV.slice _ _ _ n _) (Nat.zero_add _)
  · refine ent_tau [0, 1, 2, 3, 4, 5, 6, 7, 8, 9, 10, 11, 12, 13, 16, 17, 19] ⟨?_, ?_, rfl⟩
    all_goals (repeat' (first | exact trivial | exact rfl | exact fun _ _ => rfl | exact Or.inl rfl | refine And.intro ?_ ?_))
    all_goals first | exact Nat.zero_add _ | exact (fun k hk => hrow _ _ k) | exact congrArg (fun n => SV.slice _ _ _ n _) (Nat.zero_add _)
  · refine ent_tau [0, 1, 2, 3, 4, 5, 6, 7, 8, 9, 10, 11, 12, 13, 16, 18, 19] ⟨?_, ?_, rfl⟩
    all_goals (repeat' (first | exact trivial | exact rfl | exact fun _ _ => rfl | exact Or.inl rfl | refine And.intro ?_ ?_))
    all_goals first | exact Nat.zero_add _ | exact (fun k hk => hrow _ _ k) | exact congrArg (fun n => SV.slice _ _ _ n _) (Nat.zero_add _)
  · refine ent_tau [0, 1, 2, 3, 4, 5, 6, 7, 8, 9, 10, 11, 12, 13, 17, 18, 19] ⟨?_, ?_, rfl⟩
    all_goals (repeat' (first | exact trivial | exact rfl | exact fun _ _ => rfl | exact Or.inl rfl | refine And.intro ?_ ?_))
    all_goals first | exact Nat.zero_add _ | exact (fun k hk => hrow _ _ k) | exact congrArg (fun n => SV.slice _ _ _ n _) (Nat.zero_add _)
  · refine ent_tau [0, 1, 2, 3, 4, 5, 6, 7, 8, 9, 10, 11, 12, 13, 17, 18, 19] ⟨?_, ?_, rfl⟩
    all_goals (repeat' (first | exact trivial | exact rfl | exact fun _ _ => rfl | exact Or.inl rfl | refine And.intro ?_ ?_))
    all_goals first | exact Nat.zero_add _ | exact (fun k hk => hrow _ _ k) | exact congrArg (fun n => SV.slice _ _ _ n _) (Nat.zero_add _)
  · refine ent_tau [0, 1, 2, 3, 4, 5, 6, 7, 8, 9, 10, 11, 12, 13, 16, 18, 19] ⟨?_, ?_, rfl⟩
    all_goals (repeat' (first | exact trivial | exact rfl | exact fun _ _ => rfl | exact Or.inl rfl | refine And.intro ?_ ?_))
    all_goals first | exact Nat.zero_add _ | exact (fun k hk => hrow _ _ k) | exact congrArg (fun n => SV.slice _ _ _ n _) (Nat.zero_add _)
  · refine ent_tau [0, 1, 2, 3, 4, 5, 6, 7, 8, 9, 10, 11, 12, 13, 17, 18, 19] ⟨?_, ?_, rfl⟩
    all_goals (repeat' (first | exact trivial | exact rfl | exact fun _ _ => rfl | exact Or.inl rfl | refine And.intro ?_ ?_))
    all_goals first | exact Nat.zero_add _ | exact (fun k hk => hrow _ _ k) | exact congrArg (fun n => SV.slice _ _ _ n _) (Nat.zero_add _)
  · refine ent_tau [0, 1, 2, 3, 4, 5, 6, 7, 8, 9, 10, 11, 12, 13, 17, 18, 19] ⟨?_, ?_, rfl⟩
    all_goals (repeat' (first | exact trivial | exact rfl | exact fun _ _ => rfl | exact Or.inl rfl | refine And.intro ?_ ?_))
    all_goals first | exact Nat.zero_add _ | exact (fun k hk => hrow _ _ k) | exact congrArg (fun n => SV.slice _ _ _ n _) (Nat.zero_add _)
end Go.Proofs.YtipbempkngfdbaaDoor
/-
  TideMore: looks in another order, walked.
-/
namespace Go.Proofs.YtipbempkngfdbaaDoor
open Go Go.Sy
set_option linter.unusedSimpArgs false
set_option maxRecDepth 100000
set_option maxHeartbeats 4000000
attribute [local irreducible] CallP CodeP Ent YieldP

theorem revL_app (t : TD) (k i j : Nat) (hi : i < k + 1) (ej : j = t.nL - 1 - k) : selL (decide (i < k)) (revL t i) (getOf 4 [.int .i64 (t.nS - 1 - t.lp j), .int .i64 (t.lm j), .int .i64 (t.llo j), .int .i64 (t.lhi j)] (0 + (i - k))) = revL t i := by
  subst ej
  rcases Nat.lt_succ_iff_lt_or_eq.1 hi with h | rfl
  · rw [decide_eq_true h, selL_true]
  · rw [decide_eq_false (Nat.lt_irrefl _), selL_false, Nat.sub_self]
    rfl
theorem seg11 (t : TD) (hv : t.Valid) (w q m low la lm ll lh : Int) (ht : Base t q m low la lm ll lh) (cap c : Nat) (hc1 : t.nL + 1 ≤ cap) (hc2 : cap ≤ 9223372036854775807) (hc3 : t.nL ≤ c) (hc4 : c ≤ 9223372036854775807) (lo' : Nat → Int) (hlo : ∀ k, InR .i64 (lo' k)) (hYv : (t.lows lo' c).Valid) (hYt : Tight t (t.lows lo' c)) (cz : Nat) (hz1 : t.nS ≤ cz) (hz2 : cz ≤ 9223372036854775807) : CodeP Tryd.prog none t.HG.length (sufC Tryd.f12 8) ⟨T6 t w q m low, H11 t la lm ll lh cap c lo' cz, []⟩ (KRet E Tryd.f12 t.HG.length (.bool true) t.HG) := by
  have hS := hv.2.1
  have hL := hv.2.2.1
  refine codeP_XK E_ok 1 ?_
  refine And.intro ?_ ?_
  · (repeat' (first | exact trivial | exact fun _ => rfl | exact rfl | refine And.intro ?_ ?_))
  refine loopP E_ok [2, 5, 6, 10, 11, 13, 14, 15, 16, 17, 18, 158] (fun g : Bool × Nat × Nat => [(159, .int .i64 g.2.1)]) (fun g H => match g.1 with | false => H | true => (H.set 9 (some (.cells [.osl t.bM 0 3 t.nM t.cM, .slice 12 2 0 t.nS cz, .slice 13 4 0 g.2.1 g.2.2]))) ++ [some (.arr 4 g.2.1 g.2.2 (revL t))])
    (fun g => g.2.1 ≤ t.nL ∧ g.1 = decide (0 < g.2.1) ∧ (g.1 = true → g.2.1 ≤ g.2.2 ∧ g.2.2 ≤ 9223372036854775807)) (fun g => t.nL - g.2.1) (false, 0, 0) ⟨Nat.zero_le _, rfl, fun h => by cases h⟩ ?_ ?_
  · exact ent_tau [0, 1, 2, 3, 4, 5, 6, 7, 8, 9, 10, 11, 12] ⟨by (repeat' (first | exact trivial | exact rfl | exact fun _ _ => rfl | exact Or.inl rfl | refine And.intro ?_ ?_)), by (repeat' (first | exact trivial | exact rfl | exact congrArg (SV.int .i64) (Int.natCast_succ _).symm | refine And.intro ?_ ?_)), rfl⟩
  · rintro ⟨b, k, cp⟩ ⟨hk, hb, hcp⟩
    simp only at hk hb hcp
    have ej : 0 + ((t.nL : Int) - 1 - (k : Int)).toNat = t.nL - 1 - k := by omega
    cases b with
    | false =>
      have hn : k = 0 := by
        have : ¬ 0 < k := by simpa using hb
        omega
      subst hn
      refine And.intro ?_ (And.intro (fun hc => ?_) (fun hc => ?_))
      · (repeat' (first | exact trivial | exact fun _ => rfl | exact rfl | refine And.intro ?_ ?_))
      · have hk' : 0 < t.nL := by simpa using hc
        have lk := hv.2.2.2.2.2 (0 + ((t.nL : Int) - 1 - ((0 : Nat) : Int)).toNat) (by omega)
        simp only [TD.lookOk] at lk
        have q1 : 0 + ((t.nL : Int) - 1 - ((0 : Nat) : Int)).toNat < t.nL := by omega
        (repeat' (first | exact trivial | exact fun _ => rfl | exact rfl | refine And.intro ?_ ?_))
        all_goals first | exact Nat.le_refl _ | exact (by decide) | exact un q1 | exact un (show (0 : Int) ≤ t.nL - 1 - ((0 : Nat) : Int) by omega) | exact un (show (t.nL : Int) - 1 - ((0 : Nat) : Int) < t.nL by omega) | omega | (dsimp only; omega) | intro cc hc5 hc6
        refine And.intro ?_ ⟨(true, 0 + 1, cc), ⟨by dsimp only; omega, by simp, fun _ => ⟨hc5, hc6⟩⟩, by dsimp only; omega, ?_⟩
        · simp [AllP, under, gB, wB, inR_iff, IntKind.bits] <;> omega
        · refine ent_tau [0, 1, 2, 3, 4, 5, 6, 7, 8, 9, 10, 11, 12, 15] ⟨?_, by (repeat' (first | exact trivial | exact rfl | exact congrArg (SV.int .i64) (Int.natCast_succ _).symm | refine And.intro ?_ ?_)), rfl⟩
          (repeat' (first | exact trivial | exact rfl | exact fun _ _ => rfl | exact Or.inl rfl | refine And.intro ?_ ?_))
          all_goals exact fun i hi => by have : i = 0 := Nat.lt_one_iff.1 hi; subst this; exact revL_app t 0 0 _ (by omega) ej
      · have h0 : t.nL = 0 := by
          have : ¬ 0 < t.nL := by simpa using hc
          omega
        refine And.intro trivial ?_
        refine And.intro trivial ?_
        refine CodeP.part (seg22 t hv w q m low la lm ll lh ht cap c hc1 hc2 hc3 hc4 lo' hlo hYv hYt cz false 0) ?_
        refine Ent.trans ?_ (ent22f t w q m low la lm ll lh cap c lo' cz h0)
        exact ent_tau [0, 1, 2, 3, 4, 5, 6, 7, 8, 9, 10, 11, 12] ⟨by (repeat' (first | exact trivial | exact rfl | exact fun _ _ => rfl | exact Or.inl rfl | refine And.intro ?_ ?_)), by (repeat' (first | exact trivial | exact rfl | exact congrArg (SV.int .i64) (Int.natCast_succ _).symm | refine And.intro ?_ ?_)), rfl⟩
    | true =>
      have hk0 : 0 < k := by simpa using hb
      obtain ⟨hcp1, hcp2⟩ := hcp rfl
      refine And.intro ?_ (And.intro (fun hc => ?_) (fun hc => ?_))
      · (repeat' (first | exact trivial | exact fun _ => rfl | exact rfl | refine And.intro ?_ ?_))
      · have hk' : k < t.nL := by simpa using hc
        have lk := hv.2.2.2.2.2 (0 + ((t.nL : Int) - 1 - (k : Int)).toNat) (by omega)
        simp only [TD.lookOk] at lk
        have q1 : 0 + ((t.nL : Int) - 1 - (k : Int)).toNat < t.nL := by omega
        have bb : (k + 1) * 32 ≤ 140737488355328 := by omega
        (repeat' (first | exact trivial | exact fun _ => rfl | exact rfl | refine And.intro ?_ ?_))
        all_goals first | exact Nat.le_refl _ | exact (by decide) | exact bb | exact hcp2 | exact un q1 | exact un (show (0 : Int) ≤ t.nL - 1 - k by omega) | exact un (show (t.nL : Int) - 1 - k < t.nL by omega) | omega | (dsimp only; omega) | exact (fun i hi => by have := Nat.lt_one_iff.1 hi; subst this; rfl) | intro cc hc5 hc6
        refine And.intro ?_ ⟨(true, k + 1, cc), ⟨by dsimp only; omega, by simp, fun _ => ⟨hc5, hc6⟩⟩, by dsimp only; omega, ?_⟩
        · simp [AllP, under, gB, wB, inR_iff, IntKind.bits] <;> omega
        · refine ent_tau [0, 1, 2, 3, 4, 5, 6, 7, 8, 9, 10, 11, 12, 16] ⟨?_, by (repeat' (first | exact trivial | exact rfl | exact congrArg (SV.int .i64) (Int.natCast_succ _).symm | refine And.intro ?_ ?_)), rfl⟩
          (repeat' (first | exact trivial | exact rfl | exact fun _ _ => rfl | exact Or.inl rfl | refine And.intro ?_ ?_))
          all_goals exact fun i hi => revL_app t k i _ hi ej
      · have hk' : k = t.nL := by
          have : ¬ k < t.nL := by simpa using hc
          omega
        subst hk'
        refine And.intro trivial ?_
        refine And.intro trivial ?_
        refine CodeP.part (seg22 t hv w q m low la lm ll lh ht cap c hc1 hc2 hc3 hc4 lo' hlo hYv hYt cz true cp) ?_
        refine Ent.trans ?_ (ent22t t w q m low la lm ll lh cap c lo' cz cp)
        exact ent_tau [0, 1, 2, 3, 4, 5, 6, 7, 8, 9, 10, 11, 12, 13] ⟨by (repeat' (first | exact trivial | exact rfl | exact fun _ _ => rfl | exact Or.inl rfl | refine And.intro ?_ ?_)), by (repeat' (first | exact trivial | exact rfl | exact congrArg (SV.int .i64) (Int.natCast_succ _).symm | refine And.intro ?_ ?_)), rfl⟩
end Go.Proofs.YtipbempkngfdbaaDoor
/-
  TideMore: the sand in another order.
-/
namespace Go.Proofs.YtipbempkngfdbaaDoor
open Go Go.Sy
set_option linter.unusedSimpArgs false
set_option maxRecDepth 100000
set_option maxHeartbeats 4000000
attribute [local irreducible] CallP CodeP Ent YieldP
def pl12_13s : Plan := .eager 0 <| .eager 2 <| .eager 3 <| .eager 4 <| .eager 5 <| .eager 6 <| .eager 7 <| .eager 8 <| .eager 9 <| .alt 1 (.alt 10 (.alt 11 (.eager 12 <| .alt 13 .done .no) .no) .no) (.alt 10 (.alt 1 (.alt 11 (.eager 12 <| .alt 13 .done .no) .no) .no) .no)
theorem seg10 (t : TD) (hv : t.Valid) (w q m low la lm ll lh : Int) (ht : Base t q m low la lm ll lh) (cap c : Nat) (hc1 : t.nL + 1 ≤ cap) (hc2 : cap ≤ 9223372036854775807) (hc3 : t.nL ≤ c) (hc4 : c ≤ 9223372036854775807) (lo' : Nat → Int) (hlo : ∀ k, InR .i64 (lo' k)) (hYv : (t.lows lo' c).Valid) (hYt : Tight t (t.lows lo' c)) :
    CodeP Tryd.prog none t.HG.length (sufC Tryd.f12 7) ⟨T6 t w q m low, H7 t la lm ll lh cap c lo', []⟩ (KRet E Tryd.f12 t.HG.length (.bool true) t.HG) := by
  have hS := hv.2.1
  refine codeP_XK E_ok 1 ?_
  refine And.intro ?_ ?_
  · (repeat' (first | exact trivial | exact fun _ => rfl | exact rfl | refine And.intro ?_ ?_))
  refine loopP E_ok [2, 5, 6, 10, 11, 13, 14, 15, 16, 17, 18, 138] (fun g : Bool × Nat × Nat => [(139, .int .i64 g.2.1)]) (fun g H => match g.1 with | false => H | true => (H.set 9 (some (.cells [.osl t.bM 0 3 t.nM t.cM, .slice 12 2 0 g.2.1 g.2.2, .snil]))) ++ [some (.arr 2 g.2.1 g.2.2 (row2 (fun i => t.slo (t.nS - 1 - i)) (fun i => t.shi (t.nS - 1 - i))))])
    (fun g => g.2.1 ≤ t.nS ∧ g.1 = decide (0 < g.2.1) ∧ (g.1 = true → g.2.1 ≤ g.2.2 ∧ g.2.2 ≤ 9223372036854775807)) (fun g => t.nS - g.2.1) (false, 0, 0) ⟨Nat.zero_le _, rfl, fun h => by cases h⟩ ?_ ?_
  · exact ent_tau [0, 1, 2, 3, 4, 5, 6, 7, 8, 9, 10, 11] ⟨by (repeat' (first | exact trivial | exact rfl | exact fun _ _ => rfl | exact Or.inl rfl | refine And.intro ?_ ?_)), by (repeat' (first | exact trivial | exact rfl | exact congrArg (SV.int .i64) (Int.natCast_succ _).symm | refine And.intro ?_ ?_)), rfl⟩
  · rintro ⟨b, k, cp⟩ ⟨hk, hb, hcp⟩
    simp only at hk hb hcp
    have ej : 0 + ((t.nS : Int) - 1 - (k : Int)).toNat = t.nS - 1 - k := by omega
    cases b with
    | false =>
      have hn : k = 0 := by
        have : ¬ 0 < k := by simpa using hb
        omega
      subst hn
      refine And.intro ?_ (And.intro (fun hc => ?_) (fun hc => ?_))
      · (repeat' (first | exact trivial | exact fun _ => rfl | exact rfl | refine And.intro ?_ ?_))
      · have q1 : 0 + ((t.nS : Int) - 1 - ((0 : Nat) : Int)).toNat < t.nS := by omega
        refine And.intro ?_ ?_
        · (repeat' (first | exact trivial | exact fun _ => rfl | exact rfl | refine And.intro ?_ ?_))
        refine drawP E_ok [5] pl12_13s (by kernel_rfl) ?_
        (repeat' (first | exact trivial | exact fun _ => rfl | exact rfl | refine And.intro ?_ ?_))
        all_goals first | exact Nat.le_refl _ | exact (by decide) | exact un q1 | exact un (show (0 : Int) ≤ t.nS - 1 - ((0 : Nat) : Int) by omega) | exact un (show (t.nS : Int) - 1 - ((0 : Nat) : Int) < t.nS by omega) | omega | (dsimp only; omega) | intro cc hc5 hc6
        all_goals refine And.intro ?_ trivial
        all_goals refine And.intro trivial (And.intro rfl ?_)
        all_goals refine And.intro ?_ ⟨(true, 0 + 1, cc), ⟨by dsimp only; omega, by simp, fun _ => ⟨hc5, hc6⟩⟩, by dsimp only; omega, ?_⟩
        all_goals first | (refine ent_tau [0, 1, 2, 3, 4, 5, 6, 7, 8, 9, 10, 11, 13] ⟨?_, by (repeat' (first | exact trivial | exact rfl | exact congrArg (SV.int .i64) (Int.natCast_succ _).symm | refine And.intro ?_ ?_)), rfl⟩; (repeat' (first | exact trivial | exact rfl | exact fun _ _ => rfl | exact Or.inl rfl | refine And.intro ?_ ?_))) | (simp [AllP, under, gB, wB, inR_iff, IntKind.bits] <;> omega)
        all_goals exact fun i hi => by have : i = 0 := Nat.lt_one_iff.1 hi; subst this; exact row2_app t 0 0 _ (by omega) ej
      · exfalso
        simp at hc
        omega
    | true =>
      have hk0 : 0 < k := by simpa using hb
      obtain ⟨hcp1, hcp2⟩ := hcp rfl
      refine And.intro ?_ (And.intro (fun hc => ?_) (fun hc => ?_))
      · (repeat' (first | exact trivial | exact fun _ => rfl | exact rfl | refine And.intro ?_ ?_))
      · have hk' : k < t.nS := by simpa using hc
        have q1 : 0 + ((t.nS : Int) - 1 - (k : Int)).toNat < t.nS := by omega
        have bb : (k + 1) * 16 ≤ 140737488355328 := by omega
        refine And.intro ?_ ?_
        · (repeat' (first | exact trivial | exact fun _ => rfl | exact rfl | refine And.intro ?_ ?_))
        refine drawP E_ok [5] pl12_13s (by kernel_rfl) ?_
        (repeat' (first | exact trivial | exact fun _ => rfl | exact rfl | refine And.intro ?_ ?_))
        all_goals first | exact Nat.le_refl _ | exact (by decide) | exact bb | exact hcp2 | exact un q1 | exact un (show (0 : Int) ≤ t.nS - 1 - k by omega) | exact un (show (t.nS : Int) - 1 - k < t.nS by omega) | omega | (dsimp only; omega) | exact (fun i hi => by have := Nat.lt_one_iff.1 hi; subst this; rfl) | intro cc hc5 hc6
        all_goals refine And.intro ?_ trivial
        all_goals refine And.intro trivial (And.intro rfl ?_)
        all_goals refine And.intro ?_ ⟨(true, k + 1, cc), ⟨by dsimp only; omega, by simp, fun _ => ⟨hc5, hc6⟩⟩, by dsimp only; omega, ?_⟩
        all_goals first | (refine ent_tau [0, 1, 2, 3, 4, 5, 6, 7, 8, 9, 10, 11, 14] ⟨?_, by (repeat' (first | exact trivial | exact rfl | exact congrArg (SV.int .i64) (Int.natCast_succ _).symm | refine And.intro ?_ ?_)), rfl⟩; (repeat' (first | exact trivial | exact rfl | exact fun _ _ => rfl | exact Or.inl rfl | refine And.intro ?_ ?_))) | (simp [AllP, under, gB, wB, inR_iff, IntKind.bits] <;> omega)
        all_goals exact fun i hi => row2_app t k i _ hi ej
      · have hk' : k = t.nS := by
          have : ¬ k < t.nS := by simpa using hc
          omega
        subst hk'
        refine And.intro trivial ?_
        refine And.intro trivial ?_
        refine CodeP.part (seg11 t hv w q m low la lm ll lh ht cap c hc1 hc2 hc3 hc4 lo' hlo hYv hYt cp hcp1 hcp2) ?_
        exact ent_tau [0, 1, 2, 3, 4, 5, 6, 7, 8, 9, 10, 11, 12] ⟨by (repeat' (first | exact trivial | exact rfl | exact fun _ _ => rfl | exact Or.inl rfl | refine And.intro ?_ ?_)), by (repeat' (first | exact trivial | exact rfl | exact congrArg (SV.int .i64) (Int.natCast_succ _).symm | refine And.intro ?_ ?_)), rfl⟩
end Go.Proofs.YtipbempkngfdbaaDoor
/-
  TideMore: a look that says more.
-/
namespace Go.Proofs.YtipbempkngfdbaaDoor
open Go Go.Sy
set_option linter.unusedSimpArgs false
set_option maxRecDepth 100000
set_option maxHeartbeats 4000000
attribute [local irreducible] CallP CodeP Ent YieldP
def pl12_9s : Plan := .eager 0 <| .eager 1 <| .eager 2 <| .eager 3 <| .eager 5 <| .eager 6 <| .eager 7 <| .alt 4 (.alt 8 (.eager 9 <| (.eager 10 <| (.eager 11 <| (.eager 12 <| .alt 13 .done .no)))) .no) (.alt 8 (.eager 9 <| .alt 4 (.eager 10 <| (.eager 11 <| (.eager 12 <| .alt 13 .done .no))) .no) .no)
theorem row_lo (t : TD) (j i : Nat) (v : Int) : selL (decide (i = j)) (splice (row4 t.lp t.lm t.llo t.lhi j) 2 [.int .i64 v]) (row4 t.lp t.lm t.llo t.lhi i) = row4 t.lp t.lm (fun i => if i = j then v else t.llo i) t.lhi i := by
  by_cases h : i = j
  · subst h
    simp [selL, selV, splice, row4]
  · simp [selL, selV, splice, row4, h]
theorem lows_valid {t : TD} (hv : t.Valid) (c : Nat) {j : Nat} (hj : j < t.nL) : (t.lows (fun i => if i = j then (if t.llo j + 1 < t.lhi j then t.llo j + 1 else t.lhi j) else t.llo i) c).Valid := by
  obtain ⟨h1, h2, h3, h4, h5, h6⟩ := hv
  refine ⟨h1, h2, h3, h4, h5, fun i hi => ?_⟩
  have hi' : i < t.nL := hi
  have l1 := h6 i hi'
  have l2 := h6 j hj
  simp only [TD.lookOk] at l1 l2
  simp only [TD.lookOk, TD.lows]
  refine ⟨l1.1, l1.2.1, ?_⟩
  by_cases e : i = j
  · subst e
    simp only [if_true]
    split <;> omega
  · simp only [if_neg e]
    exact l1.2.2
theorem seg7 (t : TD) (hv : t.Valid) (w q m low la lm ll lh : Int) (ht : Base t q m low la lm ll lh) (hw : 0 ≤ w ∧ w ≤ 255) (cap c : Nat) (hc1 : t.nL + 1 ≤ cap) (hc2 : cap ≤ 9223372036854775807) (hc3 : t.nL ≤ c) (hc4 : c ≤ 9223372036854775807) : CodeP Tryd.prog none t.HG.length (sufC Tryd.f12 6) ⟨T6 t w q m low, H7 t la lm ll lh cap c t.llo, []⟩ (KRet E Tryd.f12 t.HG.length (.bool true) t.HG) := by
  have hL := hv.2.2.1
  refine codeP_XK E_ok 1 ?_
  refine And.intro ?_ (And.intro (fun h => ?_) (fun h => ?_))
  · (repeat' (first | exact trivial | exact fun _ => rfl | exact rfl | refine And.intro ?_ ?_))
  · have hL0 : 0 < t.nL := by
      have : (t.nL : Int) > 0 := of_decide_eq_true h
      omega
    have hw0 := Int.tmod_nonneg (t.nL : Int) hw.1
    have hw1 := Int.tmod_lt_of_pos w (show 0 < (t.nL : Int) by omega)
    have hw2 : (t.nL : Int) ≠ 0 := by omega
    refine And.intro ?_ ?_
    · (repeat' (first | exact trivial | exact fun _ => rfl | exact rfl | refine And.intro ?_ ?_))
    refine drawP E_ok [8] pl12_8 (by kernel_rfl) ?_
    refine And.intro ?_ ?_
    · (repeat' (first | exact trivial | exact fun _ => rfl | exact rfl | refine And.intro ?_ ?_))
      all_goals first | omega | exact un hw0 | exact un hw1 | exact un hw2
    refine And.intro rfl ?_
    refine And.intro ?_ ?_
    · (repeat' (first | exact trivial | exact fun _ => rfl | exact rfl | refine And.intro ?_ ?_))
    have hj : 0 + (w.tmod (t.nL : Int)).toNat < t.nL := by omega
    have lk := hv.2.2.2.2.2 (0 + (w.tmod (t.nL : Int)).toNat) hj
    simp only [TD.lookOk] at lk
    have hlo : ∀ k, InR .i64 ((fun i => if i = 0 + (w.tmod (t.nL : Int)).toNat then (if t.llo (0 + (w.tmod (t.nL : Int)).toNat) + 1 < t.lhi (0 + (w.tmod (t.nL : Int)).toNat) then t.llo (0 + (w.tmod (t.nL : Int)).toNat) + 1 else t.lhi (0 + (w.tmod (t.nL : Int)).toNat)) else t.llo i) k) := fun k => by
      show InR .i64 (if k = _ then _ else _)
      split
      · rw [inR_iff]
        split <;> omega
      · exact ht.ok.llo k
    refine drawP E_ok [] pl12_9s (by kernel_rfl) ?_
    (repeat' (first | exact trivial | exact fun _ => rfl | exact rfl | refine And.intro ?_ ?_))
    all_goals first | exact hj | exact un hj | omega | skip
    all_goals refine CodeP.part (seg10 t hv w q m low la lm ll lh ht cap c hc1 hc2 hc3 hc4 (fun i => if i = 0 + (w.tmod (t.nL : Int)).toNat then (if t.llo (0 + (w.tmod (t.nL : Int)).toNat) + 1 < t.lhi (0 + (w.tmod (t.nL : Int)).toNat) then t.llo (0 + (w.tmod (t.nL : Int)).toNat) + 1 else t.lhi (0 + (w.tmod (t.nL : Int)).toNat)) else t.llo i) hlo (lows_valid hv c hj) (narrow_tight hv _ hj true c)) ?_
    all_goals refine ent_tau [0, 1, 2, 3, 4, 5, 6, 7, 8, 9, 10, 11] ⟨?_, by (repeat' (first | exact trivial | exact rfl | exact congrArg (SV.int .i64) (Int.natCast_succ _).symm | refine And.intro ?_ ?_)), rfl⟩
    all_goals (repeat' (first | exact trivial | exact rfl | exact fun _ _ => rfl | exact Or.inl rfl | refine And.intro ?_ ?_))
    all_goals exact fun i hi => row_lo t _ i _
  · refine And.intro ?_ ?_
    · (repeat' (first | exact trivial | exact fun _ => rfl | exact rfl | refine And.intro ?_ ?_))
    refine CodeP.part (seg10 t hv w q m low la lm ll lh ht cap c hc1 hc2 hc3 hc4 t.llo ht.ok.llo hv (again_tight t true c)) ?_
    exact ent_tau [0, 1, 2, 3, 4, 5, 6, 7, 8, 9, 10, 11] ⟨by (repeat' (first | exact trivial | exact rfl | exact fun _ _ => rfl | exact Or.inl rfl | refine And.intro ?_ ?_)), by (repeat' (first | exact trivial | exact rfl | exact congrArg (SV.int .i64) (Int.natCast_succ _).symm | refine And.intro ?_ ?_)), rfl⟩
theorem seg6 (t : TD) (hv : t.Valid) (w q m low la lm ll lh : Int) (ht : Base t q m low la lm ll lh) (hw : 0 ≤ w ∧ w ≤ 255) (cap : Nat) (hc1 : t.nL + 1 ≤ cap) (hc2 : cap ≤ 9223372036854775807) : CodeP Tryd.prog none t.HG.length (sufC Tryd.f12 5) ⟨T6 t w q m low, H6 t la lm ll lh cap, []⟩ (KRet E Tryd.f12 t.HG.length (.bool true) t.HG) := by
  have hL := hv.2.2.1
  have b1 : (0 + t.nL) * 32 ≤ 140737488355328 := by omega
  have hrow : ∀ (g0 : Nat → List SV) (k : Nat), selL (decide (k < 0)) (g0 k) (row4 t.lp t.lm t.llo t.lhi (0 + (k - 0))) = row4 t.lp t.lm t.llo t.lhi k := fun g0 k => by
    rw [decide_eq_false (Nat.not_lt_zero k), selL_false, Nat.zero_add, Nat.sub_zero]
  refine codeP_XK E_ok 1 ?_
  (repeat' (first | exact trivial | exact fun _ => rfl | exact rfl | refine And.intro ?_ ?_))
  all_goals first | exact Nat.le_refl _ | exact Nat.zero_le _ | exact Nat.le_of_eq (Nat.zero_add _) | exact b1 | exact (fun k hk => rfl) | intro c hc3 hc4
  refine And.intro trivial ?_
  refine CodeP.part (seg7 t hv w q m low la lm ll lh ht hw cap c hc1 hc2 (by have : 0 + t.nL ≤ c := hc3; omega) hc4) ?_
  refine ent_tau [0, 1, 2, 3, 4, 5, 6, 7, 8, 9, 10, 12] ⟨?_, by (repeat' (first | exact trivial | exact rfl | exact congrArg (SV.int .i64) (Int.natCast_succ _).symm | refine And.intro ?_ ?_)), rfl⟩
  (repeat' (first | exact trivial | exact rfl | exact fun _ _ => rfl | exact Or.inl rfl | refine And.intro ?_ ?_))
  all_goals first | exact congrArg (fun n => [SV.osl t.bM 0 3 t.nM t.cM, .osl t.bS 1 2 t.nS t.cS, .slice 12 4 0 n c]) (Nat.zero_add t.nL) | exact Nat.zero_add t.nL | exact fun k hk => hrow _ k | skip
end Go.Proofs.YtipbempkngfdbaaDoor
