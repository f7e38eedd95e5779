/-
  Parts: D7, Mo, C8, Md, Mp, Mj, Mi.
-/
import Derived.Test.YtipbempkngfdbaaDoorK25
import Derived.Test.YtipbempkngfdbaaDoorK24
import Derived.Test.YtipbempkngfdbaaDoorK20
/-
  Contracts: TideNext's own function, and TideNext.
-/
namespace Go.Proofs.YtipbempkngfdbaaDoor
open Go Go.Sy
set_option linter.unusedSimpArgs false
set_option maxRecDepth 100000
set_option maxHeartbeats 4000000
attribute [local irreducible] CallP CodeP Ent YieldP

noncomputable def H38 (t : TD) (m : Int) : SHeap := [some (.roa 3 t.nM (row3 t.mi t.mlo t.mhi)), some (.roa 2 t.nS (row2 t.slo t.shi)), some (.roa 4 t.nL (row4 t.lp t.lm t.llo t.lhi)), some (.glob 0 [.int .i64 0, .int .i64 1, .int .i64 3, .int .i64 6, .int .i64 9, .int .i64 11, .int .i64 12]), some db, some (.roc [.osl t.bM 0 3 t.nM t.cM, .osl t.bS 1 2 t.nS t.cS, .osl t.bL 2 4 t.nL t.cL]), some (.roc [.int .i64 m])]
theorem cnt_le6 {t : TD} (hv : t.Valid) (m : Int) (p : Nat) (k : Int) : 0 ≤ (t.cnt m p k : Int) ∧ (t.cnt m p k : Int) ≤ 6561 := by
  have := tru_len hv
  have := cnt_le (t := t) m p k
  omega
theorem t38 (t : TD) (hv : t.Valid) (hL : t.nL < 6) (p : Nat) (hp : p < t.nS) (m : Int) (hm : t.isMin m) : CallP Tryd.prog 38 [.int .i64 p, .ptr 5 0, .ptr 6 0] (H38 t m) (Ret (.int .i64 (t.worst m p 61)) (H38 t m)) := by
  refine callR (E := E) E_ok Tryd.func38 rfl ?_
  refine And.intro ?_ ?_
  · (repeat' (first | exact trivial | exact fun _ => rfl | exact rfl | refine And.intro ?_ ?_))
  refine loopP E_ok [0, 1, 2] (fun k : Nat => [(4, .int .i64 (t.worst m p k)), (8, .int .i64 k)]) (fun _ H => H) (fun k => k ≤ 61) (fun k => 61 - k) 0 (by decide) ?_ ?_
  · exact ent_tau [0, 1, 2, 3, 4, 5, 6] ⟨by (repeat' (first | exact trivial | exact rfl | exact fun _ _ => rfl | exact Or.inl rfl | refine And.intro ?_ ?_)), by (repeat' (first | exact trivial | exact rfl | exact congrArg (SV.int .i64) (Int.natCast_succ _).symm | refine And.intro ?_ ?_)), rfl⟩
  · intro k hk
    have hw := worst_bd (t := t) (m := m) (p := p) (B := 6561) (by decide) (fun k => (cnt_le6 hv m p k).2) k
    have hck := cnt_le6 hv m p k
    refine And.intro ?_ (And.intro (fun hc => ?_) (fun hc => ?_))
    · (repeat' (first | exact trivial | exact fun _ => rfl | exact rfl | refine And.intro ?_ ?_))
    · have hk' : k < 61 := by
        have : (k : Int) < 61 := by simpa using hc
        omega
      refine And.intro ?_ ?_
      · (repeat' (first | exact trivial | exact fun _ => rfl | exact rfl | refine And.intro ?_ ?_))
      refine drawP E_ok [] pl38_4 (by kernel_rfl) ?_
      refine And.intro (And.intro ?_ ?_) trivial
      · (repeat' (first | exact trivial | exact fun _ => rfl | exact rfl | refine And.intro ?_ ?_))
      refine (t36 p m k k).use [] ?_ (by (repeat' (first | exact trivial | exact rfl | exact fun _ _ => rfl | exact Or.inl rfl | refine And.intro ?_ ?_))) rfl
      refine And.intro (And.intro ?_ ?_) trivial
      · (repeat' (first | exact trivial | exact fun _ => rfl | exact rfl | refine And.intro ?_ ?_))
      refine CallP.frameH (t35 t (by omega) p m k k) [0, 1, 2, 3, 4] (by (repeat' (first | exact trivial | exact rfl | exact fun _ _ => rfl | exact Or.inl rfl | refine And.intro ?_ ?_))) rfl ?_
      rintro ce h' ⟨cap, hc1, hc2, rfl, rfl⟩
      refine ⟨rfl, ?_⟩
      refine And.intro (And.intro ?_ ?_) trivial
      · (repeat' (first | exact trivial | exact fun _ => rfl | exact rfl | refine And.intro ?_ ?_))
      have c26 := t26 (t.plus p m k k cap)
      rw [plus_cnt hv hL hp hm (by omega) (by omega) cap] at c26
      refine CallP.argsD (args' := [.agg [.osl t.bM 0 3 t.nM t.cM, .osl t.bS 1 2 t.nS t.cS, .osl true 7 4 (t.nL + 1) cap]]) (fun η => by simp [den, denL]) ?_
      refine (c26).use [0, 1, 7, 3, 4] ?_ (by (repeat' (first | exact trivial | exact rfl | exact fun _ _ => rfl | exact Or.inl rfl | refine And.intro ?_ ?_))) rfl
      refine And.intro ?_ ?_
      · (repeat' (first | exact trivial | exact fun _ => rfl | exact rfl | refine And.intro ?_ ?_))
      refine And.intro rfl ?_
      refine And.intro ?_ (And.intro (fun h => absurd h (by simp)) (fun h => ?_))
      · (repeat' (first | exact trivial | exact fun _ => rfl | exact rfl | refine And.intro ?_ ?_))
      refine And.intro ?_ ⟨k + 1, hk', by omega, ?_⟩
      · simp [AllP, under, gB, wB, inR_iff, IntKind.bits]
        omega
      · refine ent_tau [0, 1, 2, 3, 4, 5, 6] ⟨by (repeat' (first | exact trivial | exact rfl | exact fun _ _ => rfl | exact Or.inl rfl | refine And.intro ?_ ?_)), ?_, rfl⟩
        (repeat' (first | exact trivial | exact rfl | exact congrArg (SV.int .i64) (Int.natCast_succ _).symm | refine And.intro ?_ ?_))
    · have hk' : k = 61 := by
        have : ¬ (k : Int) < 61 := by simpa using hc
        omega
      subst hk'
      refine And.intro ?_ ?_
      · (repeat' (first | exact trivial | exact fun _ => rfl | exact rfl | refine And.intro ?_ ?_))
      refine And.intro ?_ ?_
      · (repeat' (first | exact trivial | exact fun _ => rfl | exact rfl | refine And.intro ?_ ?_))
      exact ent_tau [0, 1, 2, 3, 4, 5, 6] ⟨by (repeat' (first | exact trivial | exact rfl | exact fun _ _ => rfl | exact Or.inl rfl | refine And.intro ?_ ?_)), by (repeat' (first | exact trivial | exact rfl | exact congrArg (SV.int .i64) (Int.natCast_succ _).symm | refine And.intro ?_ ?_)), rfl⟩
theorem t10 (t : TD) (ht : t.ok) (a w : Int) (ha : 0 ≤ a ∧ a ≤ 255) (hw : 0 ≤ w ∧ w ≤ 255) : CallP Tryd.prog 10 [t.A, .int .u8 a, .int .u8 w] t.HG (Ret (.bool true) t.HG) := by
  refine callR (E := E) E_ok Tryd.func10 rfl ?_
  refine And.intro ?_ ?_
  · simp [AllP, under, gB, wB, inR_iff, IntKind.bits]
  refine (t33 t).use [0, 1, 2] ?_ (by (repeat' (first | exact trivial | exact rfl | exact fun _ _ => rfl | exact Or.inl rfl | refine And.intro ?_ ?_))) rfl
  refine And.intro ?_ (And.intro (fun hl => ?_) (fun hl => ?_))
  · simp [AllP, under, gB, wB, inR_iff, IntKind.bits]
  · refine (t34 t ht).use [0, 1, 2] ?_ (by (repeat' (first | exact trivial | exact rfl | exact fun _ _ => rfl | exact Or.inl rfl | refine And.intro ?_ ?_))) rfl
    refine And.intro ?_ (And.intro (fun hb => ?_) (fun hb => ?_))
    · (repeat' (first | exact True.intro | exact d1 _ | exact d1t _ | exact d2 _ | exact d3 _ _ | exact d3f _ _ | exact fun _ _ => rfl | exact fun _ => rfl | exact rfl | refine And.intro ?_ ?_))
    · refine And.intro trivial ?_
      refine (t14).use [3, 4] ?_ (by (repeat' (first | exact trivial | exact rfl | exact fun _ _ => rfl | exact Or.inl rfl | refine And.intro ?_ ?_))) rfl
      refine And.intro trivial ?_
      exact ent_tau [0, 1, 2, 3, 4] ⟨by (repeat' (first | exact trivial | exact rfl | exact fun _ _ => rfl | exact Or.inl rfl | refine And.intro ?_ ?_)), by (repeat' (first | exact trivial | exact rfl | exact congrArg (SV.int .i64) (Int.natCast_succ _).symm | refine And.intro ?_ ?_)), rfl⟩
    · have hvL : t.Valid ∧ t.nL < 6 := by
        have h2 : t.valid = true ∧ (t.nL : Int) < 6 := by
          cases hc : decide (40 < max (max t.nM t.nS) t.nL)
          · rw [hc] at hb
            simpa using hb
          · rw [hc] at hb
            cases hb
        exact ⟨by simpa [TD.valid] using h2.1, by omega⟩
      obtain ⟨hv, hL⟩ := hvL
      have hM := hv.1
      have hS := hv.2.1
      have e1 : ((t.nM : Int) - 1).toNat = t.nM - 1 := by omega
      have eL : t.mi (0 + ((t.nM : Int) - 1).toNat) = t.mi (t.nM - 1) := by rw [e1, Nat.zero_add]
      have mk1 := hv.marks (i := 0) (by omega)
      have mk2 := hv.marks (i := t.nM - 1) (by omega)
      simp only [TD.markOk] at mk1 mk2
      have mle : t.mi 0 ≤ t.mi (t.nM - 1) := mi_le hv (Nat.zero_le _) (by omega)
      obtain ⟨bg, eb⟩ : ∃ x : Int, t.mi 0 + a.tmod (t.mi (t.nM - 1) - t.mi 0 + 1) = x := ⟨_, rfl⟩
      have hr0 := Int.tmod_nonneg (t.mi (t.nM - 1) - t.mi 0 + 1) ha.1
      have hr1 := Int.tmod_lt_of_pos a (show 0 < t.mi (t.nM - 1) - t.mi 0 + 1 by omega)
      have mB : t.isMin bg := ⟨by omega, by omega⟩
      have eB : t.mi 0 + a.tmod (t.mi (0 + ((t.nM : Int) - 1).toNat) - t.mi 0 + 1) = bg := by rw [eL]; exact eb
      have hcount := count_tru hv
      have c26 := t26 t
      rw [hcount] at c26
      have c37 := t37 t bg
      refine And.intro ?_ ?_
      · simp only [AllP, under, inR_iff, and_true, Int.toNat_zero, Nat.zero_add, e1]
        (repeat' refine And.intro ?_ ?_) <;> omega
      by_cases hn : t.tru = []
      · have e37 : t.nextT bg = ⟨(0, 0), 10⟩ := by
          unfold TD.nextT
          rw [if_neg (fun h => h hv), if_neg (fun h => h mB), if_pos ((all_nil hv).2 hn)]
        rw [e37, ← eB] at c37
        rw [hn] at c26
        refine (c37).use [0, 1, 2, 3, 4] ?_ (by (repeat' (first | exact trivial | exact rfl | exact fun _ _ => rfl | exact Or.inl rfl | refine And.intro ?_ ?_))) rfl
        refine And.intro ?_ ?_
        · (repeat' (first | exact trivial | exact fun _ => rfl | exact rfl | refine And.intro ?_ ?_))
        refine (c26).use [0, 1, 2, 3, 4] ?_ (by (repeat' (first | exact trivial | exact rfl | exact fun _ _ => rfl | exact Or.inl rfl | refine And.intro ?_ ?_))) rfl
        refine And.intro ?_ (And.intro (fun h => ?_) (fun h => absurd h (by simp)))
        · (repeat' (first | exact True.intro | exact d1 _ | exact d1t _ | exact d2 _ | exact d3 _ _ | exact d3f _ _ | exact fun _ _ => rfl | exact fun _ => rfl | exact rfl | refine And.intro ?_ ?_))
        refine And.intro ?_ (And.intro (fun h => ?_) (fun h => absurd h (by simp [gB, wB])))
        · (repeat' (first | exact True.intro | exact d1 _ | exact d1t _ | exact d2 _ | exact d3 _ _ | exact d3f _ _ | exact fun _ _ => rfl | exact fun _ => rfl | exact rfl | refine And.intro ?_ ?_))
        refine (t14).use [3, 4] ?_ (by (repeat' (first | exact trivial | exact rfl | exact fun _ _ => rfl | exact Or.inl rfl | refine And.intro ?_ ?_))) rfl
        refine And.intro ?_ ?_
        · (repeat' (first | exact trivial | exact fun _ => rfl | exact rfl | refine And.intro ?_ ?_))
        exact ent_tau [0, 1, 2, 3, 4] ⟨by (repeat' (first | exact trivial | exact rfl | exact fun _ _ => rfl | exact Or.inl rfl | refine And.intro ?_ ?_)), by (repeat' (first | exact trivial | exact rfl | exact congrArg (SV.int .i64) (Int.natCast_succ _).symm | refine And.intro ?_ ?_)), rfl⟩
      · obtain ⟨pl, e37, hpl, hw1, hw2, hmin⟩ := next_law hv hn mB
        obtain ⟨q, hq⟩ := Int.eq_ofNat_of_zero_le (Int.tmod_nonneg (t.nS : Int) hw.1)
        have hq2 := Int.tmod_lt_of_pos w (show 0 < (t.nS : Int) by omega)
        have hq3 : q < t.nS := by omega
        have cq := t38 t hv hL q hq3 bg mB
        have cp := t38 t hv hL pl hpl bg mB
        have hmq := hmin q hq3
        obtain ⟨wq, hwq⟩ : ∃ x, t.worst bg q 61 = x := ⟨_, rfl⟩
        obtain ⟨wp, hwp⟩ : ∃ x, t.worst bg pl 61 = x := ⟨_, rfl⟩
        rw [hwq, hwp] at hmq
        rw [hwq] at cq
        rw [hwp] at cp hw1 hw2 e37
        rw [e37] at c37
        rw [← hq] at cq
        rw [← eB] at cp cq c37
        have hp1 : ¬ (pl : Int) < 0 := by omega
        have hp2 : ¬ (pl : Int) ≥ t.nS := by omega
        refine (c37).use [0, 1, 2, 3, 4] ?_ (by (repeat' (first | exact trivial | exact rfl | exact fun _ _ => rfl | exact Or.inl rfl | refine And.intro ?_ ?_))) rfl
        refine And.intro ?_ ?_
        · (repeat' (first | exact trivial | exact fun _ => rfl | exact rfl | refine And.intro ?_ ?_))
        refine (c26).use [0, 1, 2, 3, 4] ?_ (by (repeat' (first | exact trivial | exact rfl | exact fun _ _ => rfl | exact Or.inl rfl | refine And.intro ?_ ?_))) rfl
        refine And.intro ?_ (And.intro (fun h => absurd h (by simp)) (fun h => ?_))
        · (repeat' (first | exact True.intro | exact d1 _ | exact d1t _ | exact d2 _ | exact d3 _ _ | exact d3f _ _ | exact fun _ _ => rfl | exact fun _ => rfl | exact rfl | refine And.intro ?_ ?_))
        refine And.intro ?_ (And.intro (fun h => ?_) (fun h => ?_))
        · (repeat' (first | exact True.intro | exact d1 _ | exact d1t _ | exact d2 _ | exact d3 _ _ | exact d3f _ _ | exact fun _ _ => rfl | exact fun _ => rfl | exact rfl | refine And.intro ?_ ?_))
        · exfalso
          simp at h
          omega
        refine And.intro ?_ ?_
        · (repeat' (first | exact trivial | exact fun _ => rfl | exact rfl | refine And.intro ?_ ?_))
          all_goals first | omega | exact un (by omega)
        refine (cq).use [0, 1, 2, 3, 4, 5, 6] ?_ (by (repeat' (first | exact trivial | exact rfl | exact fun _ _ => rfl | exact Or.inl rfl | refine And.intro ?_ ?_))) rfl
        refine And.intro ?_ ?_
        · (repeat' (first | exact trivial | exact fun _ => rfl | exact rfl | refine And.intro ?_ ?_))
        refine (cp).use [0, 1, 2, 3, 4, 5, 6] ?_ (by (repeat' (first | exact trivial | exact rfl | exact fun _ _ => rfl | exact Or.inl rfl | refine And.intro ?_ ?_))) rfl
        have hF : (bif bif bif decide (wp = wp) then decide (wp ≥ 1) else false then decide (wp ≤ (t.tru.length : Int)) else false then bif decide (wq > wp) then true else bif decide (wq = wp) then decide (w.tmod (t.nS : Int) ≥ (pl : Int)) else false else false) = true := by
          rw [hq, decide_eq_true (rfl : wp = wp), decide_eq_true (show wp ≥ 1 from hw1), decide_eq_true hw2]
          rcases Int.lt_or_eq_of_le hmq.1 with h1 | h1
          · rw [decide_eq_true (show wq > wp from h1)]
            rfl
          · have h2 : (q : Int) ≥ pl := by
              rcases Nat.lt_or_ge q pl with h3 | h3
              · have := hmq.2 h3
                omega
              · omega
            rw [decide_eq_false (show ¬ wq > wp by omega), decide_eq_true h1.symm, decide_eq_true h2]
            rfl
        refine And.intro ?_ (And.intro (fun hg => ?_) (fun hg => absurd (hF.symm.trans hg) (by decide)))
        · (repeat' (first | exact True.intro | exact d1 _ | exact d1t _ | exact d2 _ | exact d3 _ _ | exact d3f _ _ | exact fun _ _ => rfl | exact fun _ => rfl | exact rfl | refine And.intro ?_ ?_))
        refine (t14).use [3, 4] ?_ (by (repeat' (first | exact trivial | exact rfl | exact fun _ _ => rfl | exact Or.inl rfl | refine And.intro ?_ ?_))) rfl
        refine And.intro ?_ ?_
        · (repeat' (first | exact True.intro | exact d1 _ | exact d1t _ | exact d2 _ | exact d3 _ _ | exact d3f _ _ | exact fun _ _ => rfl | exact fun _ => rfl | exact rfl | refine And.intro ?_ ?_))
        refine ent_tau [0, 1, 2, 3, 4] ⟨by (repeat' (first | exact trivial | exact rfl | exact fun _ _ => rfl | exact Or.inl rfl | refine And.intro ?_ ?_)), ?_, rfl⟩
        (repeat' (first | exact trivial | exact rfl | exact fun _ _ => rfl | exact Or.inl rfl | refine And.intro ?_ ?_))
        exact congrArg (fun z => SV.bool (bif z then true else false)) hF
  · have hl2 : decide (40 < max (max t.nM t.nS) t.nL) = true := by
      cases hc : decide (40 < max (max t.nM t.nS) t.nL)
      · rw [hc] at hl
        cases hl
      · rfl
    refine And.intro ?_ (And.intro (fun hb => ?_) (fun hb => ?_))
    · (repeat' (first | exact True.intro | exact d1 _ | exact d1t _ | exact d2 _ | exact d3 _ _ | exact d3f _ _ | exact fun _ _ => rfl | exact fun _ => rfl | exact rfl | refine And.intro ?_ ?_))
      all_goals exact fun h => absurd (h.symm.trans hl) (by decide)
    · refine And.intro trivial ?_
      refine (t14).use [3, 4] ?_ (by (repeat' (first | exact trivial | exact rfl | exact fun _ _ => rfl | exact Or.inl rfl | refine And.intro ?_ ?_))) rfl
      refine And.intro trivial ?_
      exact ent_tau [0, 1, 2, 3, 4] ⟨by (repeat' (first | exact trivial | exact rfl | exact fun _ _ => rfl | exact Or.inl rfl | refine And.intro ?_ ?_)), by (repeat' (first | exact trivial | exact rfl | exact congrArg (SV.int .i64) (Int.natCast_succ _).symm | refine And.intro ?_ ?_)), rfl⟩
    · rw [hl2] at hb
      cases hb
end Go.Proofs.YtipbempkngfdbaaDoor
/-
  TideMore, cut into parts: what is known between them.
-/
namespace Go.Proofs.YtipbempkngfdbaaDoor
open Go Go.Sy
set_option linter.unusedSimpArgs false
set_option maxRecDepth 100000
set_option maxHeartbeats 4000000
attribute [local irreducible] CallP CodeP Ent YieldP

/-- What is known of the numbers. -/
structure Base (t : TD) (q m low la lm ll lh : Int) : Prop where
  ok : t.ok
  q : 0 ≤ q ∧ q < t.nS
  m : t.isMin m
  low : 0 ≤ low ∧ low < 61
  la : InR .i64 la
  lm : InR .i64 lm
  ll : InR .i64 ll
  lh : InR .i64 lh
/-- The state behind region 5. -/
noncomputable def T6 (t : TD) (w q : Int) (m low : Int) : Tm := mkT [] [(2, .int .u8 w), (5, .ptr 5 0), (6, .ptr 6 0), (10, .bool false), (11, .int .i64 t.nS), (13, .int .i64 q), (14, .int .i64 m), (15, .int .i64 low), (16, .ptr 7 0), (17, .ptr 8 0), (18, .ptr 9 0)] 0 (List.replicate 447 none)
noncomputable def H6 (t : TD) (la lm ll lh : Int) (cap : Nat) : SHeap := [some (.roa 3 t.nM (row3 t.mi t.mlo t.mhi)), some (.roa 2 t.nS (row2 t.slo t.shi)), some (.roa 4 t.nL (row4 t.lp t.lm t.llo t.lhi)), some (.glob 0 [.int .i64 0, .int .i64 1, .int .i64 3, .int .i64 6, .int .i64 9, .int .i64 11, .int .i64 12]), some db, some (.cells [.osl t.bM 0 3 t.nM t.cM, .osl t.bS 1 2 t.nS t.cS, .osl t.bL 2 4 t.nL t.cL]), some (.cells [.int .i64 la, .int .i64 lm, .int .i64 ll, .int .i64 lh]), some (.cells [.osl t.bM 0 3 t.nM t.cM, .osl t.bS 1 2 t.nS t.cS, .slice 10 4 0 (t.nL + 1) cap]), some (.cells [.osl t.bM 0 3 t.nM t.cM, .osl t.bS 1 2 t.nS t.cS, .osl t.bL 2 4 t.nL t.cL]), some (.cells [.osl t.bM 0 3 t.nM t.cM, .osl t.bS 1 2 t.nS t.cS, .osl t.bL 2 4 t.nL t.cL]), some (.arr 4 (t.nL + 1) cap (row4 (t.plus la lm ll lh cap).lp (t.plus la lm ll lh cap).lm (t.plus la lm ll lh cap).llo (t.plus la lm ll lh cap).lhi))]
/-- The state behind region 6. -/
noncomputable def H7 (t : TD) (la lm ll lh : Int) (cap c : Nat) (lo' : Nat → Int) : SHeap := [some (.roa 3 t.nM (row3 t.mi t.mlo t.mhi)), some (.roa 2 t.nS (row2 t.slo t.shi)), some (.roa 4 t.nL (row4 t.lp t.lm t.llo t.lhi)), some (.glob 0 [.int .i64 0, .int .i64 1, .int .i64 3, .int .i64 6, .int .i64 9, .int .i64 11, .int .i64 12]), some db, some (.cells [.osl t.bM 0 3 t.nM t.cM, .osl t.bS 1 2 t.nS t.cS, .osl t.bL 2 4 t.nL t.cL]), some (.cells [.int .i64 la, .int .i64 lm, .int .i64 ll, .int .i64 lh]), some (.cells [.osl t.bM 0 3 t.nM t.cM, .osl t.bS 1 2 t.nS t.cS, .slice 10 4 0 (t.nL + 1) cap]), some (.cells [.osl t.bM 0 3 t.nM t.cM, .osl t.bS 1 2 t.nS t.cS, .slice 11 4 0 t.nL c]), some (.cells [.osl t.bM 0 3 t.nM t.cM, .snil, .snil]), some (.arr 4 (t.nL + 1) cap (row4 (t.plus la lm ll lh cap).lp (t.plus la lm ll lh cap).lm (t.plus la lm ll lh cap).llo (t.plus la lm ll lh cap).lhi)), some (.arr 4 t.nL c (row4 t.lp t.lm lo' t.lhi))]
/-- The tide whose look says more. -/
def TD.lows (t : TD) (lo' : Nat → Int) (c : Nat) : TD := { t with llo := lo', bL := true, cL := c }
/-- The state behind region 10. -/
noncomputable def H11 (t : TD) (la lm ll lh : Int) (cap c : Nat) (lo' : Nat → Int) (cz : Nat) : SHeap := [some (.roa 3 t.nM (row3 t.mi t.mlo t.mhi)), some (.roa 2 t.nS (row2 t.slo t.shi)), some (.roa 4 t.nL (row4 t.lp t.lm t.llo t.lhi)), some (.glob 0 [.int .i64 0, .int .i64 1, .int .i64 3, .int .i64 6, .int .i64 9, .int .i64 11, .int .i64 12]), some db, some (.cells [.osl t.bM 0 3 t.nM t.cM, .osl t.bS 1 2 t.nS t.cS, .osl t.bL 2 4 t.nL t.cL]), some (.cells [.int .i64 la, .int .i64 lm, .int .i64 ll, .int .i64 lh]), some (.cells [.osl t.bM 0 3 t.nM t.cM, .osl t.bS 1 2 t.nS t.cS, .slice 10 4 0 (t.nL + 1) cap]), some (.cells [.osl t.bM 0 3 t.nM t.cM, .osl t.bS 1 2 t.nS t.cS, .slice 11 4 0 t.nL c]), some (.cells [.osl t.bM 0 3 t.nM t.cM, .slice 12 2 0 t.nS cz, .snil]), some (.arr 4 (t.nL + 1) cap (row4 (t.plus la lm ll lh cap).lp (t.plus la lm ll lh cap).lm (t.plus la lm ll lh cap).llo (t.plus la lm ll lh cap).lhi)), some (.arr 4 t.nL c (row4 t.lp t.lm lo' t.lhi)), some (.arr 2 t.nS cz (row2 (fun i => t.slo (t.nS - 1 - i)) (fun i => t.shi (t.nS - 1 - i))))]
theorem row2_app (t : TD) (k i j : Nat) (hi : i < k + 1) (ej : j = t.nS - 1 - k) : selL (decide (i < k)) (row2 (fun i => t.slo (t.nS - 1 - i)) (fun i => t.shi (t.nS - 1 - i)) i) (getOf 2 (row2 t.slo t.shi j) (0 + (i - k))) = row2 (fun i => t.slo (t.nS - 1 - i)) (fun i => t.shi (t.nS - 1 - i)) i := by
  subst ej
  rcases Nat.lt_succ_iff_lt_or_eq.1 hi with h | rfl
  · rw [decide_eq_true h, selL_true]
  · rw [decide_eq_false (Nat.lt_irrefl _), selL_false, Nat.sub_self]
    rfl
end Go.Proofs.YtipbempkngfdbaaDoor
/-
  What tide.Served returns, said alike whether it is nil or not.
-/
namespace Go.Sy
open Go

/-- An empty row beside a block that is only read. -/
theorem Sat.alias {η : Nam} {φ : Feet} {h : SHeap} {w0 w : World} {Ef : Nat → Prop} (s : Sat η φ h w0 Ef w) {i : Nat} {o : SObj} {a : Nat × Nat} (hi : h[i]? = some (some o)) (ha : η i = some a)
    (hc : ∃ c T fz, w.heap[a.1]? = some (.cells c T fz)) (hr : o.rw = false) (hf : o.foot a (φ i) a.1) (sz : Nat) (get : Nat → List SV) :
    Sat (fun j => if j = h.length then some a else η j) φ (h ++ [some (.roa sz 0 get)]) w0 Ef w := by
  have hη : ∀ j, j < h.length → (if j = h.length then some a else η j) = η j := fun j hj => if_neg (by omega)
  have le : η.le (fun j => if j = h.length then some a else η j) := fun j b e => by
    have hj : j < h.length := by
      obtain ⟨o1, h1⟩ := s.dom j b e
      rcases Nat.lt_or_ge j h.length with h2 | h2
      · exact h2
      · rw [List.getElem?_eq_none h2] at h1; cases h1
    show (if j = h.length then some a else η j) = some b
    rw [if_neg (by omega)]
    exact e
  have get? : ∀ (j : Nat) x, (h ++ [some (SObj.roa sz 0 get)])[j]? = some x → (j < h.length ∧ h[j]? = some x) ∨ (j = h.length ∧ x = some (.roa sz 0 get)) := fun j x e => by
    rcases Nat.lt_trichotomy j h.length with h1 | h1 | h1
    · rw [List.getElem?_append_left h1] at e
      exact .inl ⟨h1, e⟩
    · subst h1
      rw [List.getElem?_append_right (Nat.le_refl _)] at e
      simp at e
      exact .inr ⟨rfl, e.symm⟩
    · rw [List.getElem?_eq_none (by simp; omega)] at e
      cases e
  have old : ∀ (j : Nat) (b : Nat × Nat), j < h.length → (if j = h.length then some a else η j) = some b → η j = some b := fun j b hj e => by rwa [if_neg (by omega)] at e
  have new : ∀ (b : Nat × Nat), (if h.length = h.length then some a else η h.length) = some b → a = b := fun b e => by rw [if_pos rfl] at e; exact Option.some.inj e
  constructor
  · exact s.size
  · exact s.env
  · exact s.keep
  · intro j b e
    by_cases hj : j = h.length
    · subst hj
      exact ⟨.roa sz 0 get, by rw [List.getElem?_append_right (Nat.le_refl _)]; simp⟩
    · have e' : η j = some b := by simpa [hj] using e
      obtain ⟨o1, h1⟩ := s.dom j b e'
      refine ⟨o1, ?_⟩
      have : j < h.length := by
        rcases Nat.lt_or_ge j h.length with h2 | h2
        · exact h2
        · rw [List.getElem?_eq_none h2] at h1; cases h1
      rwa [List.getElem?_append_left this]
  · intro j o1 e
    rcases get? j _ e with ⟨h1, h2⟩ | ⟨rfl, _⟩
    · obtain ⟨b, hb⟩ := s.named j o1 h2
      exact ⟨b, by rw [hη j h1]; exact hb⟩
    · exact ⟨a, if_pos rfl⟩
  · intro j o1 b e e'
    rcases get? j _ e with ⟨h1, h2⟩ | ⟨rfl, h2⟩
    · exact SObj.holds_mono le (s.holds j o1 b h2 (old j b h1 e'))
    · cases h2
      cases new b e'
      obtain ⟨c, T, fz, h3⟩ := hc
      exact ⟨c, T, fz, h3, fun k hk => by omega⟩
  · intro j o1 b x e e' hx
    rcases get? j _ e with ⟨h1, h2⟩ | ⟨rfl, h2⟩
    · exact s.bnd j o1 b x h2 (old j b h1 e') hx
    · cases h2
      cases new b e'
      have hx' : a.1 = x := hx
      subst hx'
      exact s.bnd i o a a.1 hi ha hf
  · intro j o1 b x e e' hr1 hx
    rcases get? j _ e with ⟨h1, h2⟩ | ⟨rfl, h2⟩
    · exact s.own j o1 b x h2 (old j b h1 e') hr1 hx
    · cases h2
      cases hr1
  · intro j k oj ok aj ak x hjk ej ek ej' ek' hr1 hx hk
    rcases get? j _ ej with ⟨h1, h2⟩ | ⟨rfl, h2⟩
    · rcases get? k _ ek with ⟨h3, h4⟩ | ⟨rfl, h4⟩
      · exact s.sep j k oj ok aj ak x hjk h2 h4 (old j aj h1 ej') (old k ak h3 ek') hr1 hx hk
      · cases h4
        cases new ak ek'
        have hk' : a.1 = x := hk
        subst hk'
        have hji : j ≠ i := fun e => by
          subst e
          rw [h2] at hi
          cases hi
          rw [hr] at hr1
          cases hr1
        exact s.sep j i oj o aj a a.1 hji h2 hi (old j aj h1 ej') ha hr1 hx hf
    · cases h2
      cases hr1
/-- An empty row more, said beside a block that is only read. -/
theorem entAlias {n : Nat} {T : Tm} {H : SHeap} {D : List SV} {i sz0 m0 : Nat} {get0 : Nat → List SV} (hi : H[i]? = some (some (.roa sz0 m0 get0))) (sz : Nat) (get : Nat → List SV) : Ent n ⟨T, H, D⟩ ⟨T, H ++ [some (.roa sz 0 get)], D⟩ := by
  intro η φ w0 Ef w a hn hs hT hD
  obtain ⟨ad, ha⟩ := hs.named i _ hi
  obtain ⟨c, Ty, fz, hh, _⟩ := hs.holds i _ ad hi ha
  have hs2 := hs.alias hi ha ⟨c, Ty, fz, hh⟩ rfl rfl sz get
  have le : η.le (fun j => if j = H.length then some ad else η j) := fun j b e => by
    have hj : j < H.length := by
      obtain ⟨o1, h1⟩ := hs.dom j b e
      rcases Nat.lt_or_ge j H.length with h2 | h2
      · exact h2
      · rw [List.getElem?_eq_none h2] at h1; cases h1
    show (if j = H.length then some ad else η j) = some b
    rw [if_neg (by omega)]
    exact e
  refine ⟨_, _, fun j hj => if_neg ?_, ?_, hs2, hT.mono le, hD.mono le⟩
  · have : n ≤ H.length := hn
    omega
  · have : n ≤ H.length := hn
    simp only [List.length_append, List.length_singleton]
    omega
theorem entAliasR {n : Nat} {s : St} {T : Tm} {H : SHeap} {D : List SV} {i sz0 m0 : Nat} {get0 : Nat → List SV} {sz : Nat} {get : Nat → List SV} (h : Ent n s ⟨T, H, D⟩) (hi : H[i]? = some (some (.roa sz0 m0 get0))) : Ent n s ⟨T, H ++ [some (.roa sz 0 get)], D⟩ := h.trans (entAlias hi sz get)
end Go.Sy
namespace Go.Proofs.YtipbempkngfdbaaDoor
open Go Go.Sy
set_option maxRecDepth 100000

/-- What a call returns that returns spans. -/
def KOb (t : TD) (r : Told (List (Int × Int))) : CE → SHeap → Prop := fun ce h' =>
  (∃ (b : Bool) (cap : Nat), b = false ∧ r.v = [] ∧ ce = .ret (.tup [.osl b 5 2 r.v.length cap, .int .i64 r.e]) ∧ h' = t.HG) ∨
  (∃ (b : Bool) (cap : Nat), b = true ∧ 0 < r.v.length ∧ r.v.length ≤ cap ∧ cap ≤ 9223372036854775807 ∧ ce = .ret (.tup [.osl b 5 2 r.v.length cap, .int .i64 r.e]) ∧ h' = t.HG ++ [some (.arr 2 r.v.length cap (prow r.v))])
theorem t15b (t : TD) (p l h : Int) : CallP Tryd.prog 15 [t.A, .int .i64 p, .int .i64 l, .int .i64 h] t.HG (KOb t (t.servedT p l h)) := by
  intro η φ w0 Ef w vs hs hd
  refine (t15 t p l h η φ w0 Ef w vs hs hd).mono ?_
  rintro e w' ⟨ce, h', η', φ', hk, hlen, hp, hr, hs'⟩
  rcases hk with ⟨hv, rfl, rfl⟩ | ⟨hv, cap, hc1, hc2, rfl, rfl⟩
  · refine ⟨.ret (.tup [.osl false 5 2 (t.servedT p l h).v.length 0, .int .i64 (t.servedT p l h).e]), t.HG, η', φ', .inl ⟨false, 0, rfl, hv, rfl, rfl⟩, hlen, hp, ?_, hs'⟩
    obtain ⟨u, hu, rfl⟩ := hr
    refine ⟨u, ?_, rfl⟩
    simpa [den, denL, hv] using hu
  · refine ⟨.ret (.tup [.osl true 5 2 (t.servedT p l h).v.length cap, .int .i64 (t.servedT p l h).e]), t.HG ++ [some (.arr 2 (t.servedT p l h).v.length cap (prow (t.servedT p l h).v))], η', φ', .inr ⟨true, cap, rfl, hv, hc1, hc2, rfl, rfl⟩, hlen, hp, ?_, hs'⟩
    obtain ⟨u, hu, rfl⟩ := hr
    refine ⟨u, ?_, rfl⟩
    simpa [den, denL] using hu
end Go.Proofs.YtipbempkngfdbaaDoor
/-
  TideMore: looks in another order.
-/
namespace Go.Proofs.YtipbempkngfdbaaDoor
open Go Go.Sy
set_option linter.unusedSimpArgs false
set_option maxRecDepth 100000
set_option maxHeartbeats 4000000
attribute [local irreducible] CallP CodeP Ent YieldP

/-- The rows of looks, in another order. -/
def revL (t : TD) : Nat → List SV := (row4 (fun i => t.nS - 1 - t.lp (t.nL - 1 - i)) (fun i => t.lm (t.nL - 1 - i)) (fun i => t.llo (t.nL - 1 - i)) (fun i => t.lhi (t.nL - 1 - i)))
/-- The state in front of region 22. -/
noncomputable def H22 (t : TD) (la lm ll lh : Int) (cap c : Nat) (lo' : Nat → Int) (cz : Nat) (bz : Bool) (cl : Nat) : SHeap := [some (.roa 3 t.nM (row3 t.mi t.mlo t.mhi)), some (.roa 2 t.nS (row2 t.slo t.shi)), some (.roa 4 t.nL (row4 t.lp t.lm t.llo t.lhi)), some (.glob 0 [.int .i64 0, .int .i64 1, .int .i64 3, .int .i64 6, .int .i64 9, .int .i64 11, .int .i64 12]), some db, some (.cells [.osl t.bM 0 3 t.nM t.cM, .osl t.bS 1 2 t.nS t.cS, .osl t.bL 2 4 t.nL t.cL]), some (.cells [.int .i64 la, .int .i64 lm, .int .i64 ll, .int .i64 lh]),
  some (.cells [.osl t.bM 0 3 t.nM t.cM, .osl t.bS 1 2 t.nS t.cS, .osl true 10 4 (t.nL + 1) cap]), some (.cells [.osl t.bM 0 3 t.nM t.cM, .osl t.bS 1 2 t.nS t.cS, .osl true 11 4 t.nL c]), some (.cells [.osl t.bM 0 3 t.nM t.cM, .osl true 12 2 t.nS cz, .osl bz 13 4 t.nL cl]),
  some (.roa 4 (t.nL + 1) (row4 (t.plus la lm ll lh cap).lp (t.plus la lm ll lh cap).lm (t.plus la lm ll lh cap).llo (t.plus la lm ll lh cap).lhi)), some (.roa 4 t.nL (row4 t.lp t.lm lo' t.lhi)), some (.roa 2 t.nS (row2 (fun i => t.slo (t.nS - 1 - i)) (fun i => t.shi (t.nS - 1 - i)))), some (.roa 4 t.nL (revL t))]
/-- The same, as the code has made it. -/
noncomputable def Hs (t : TD) (la lm ll lh : Int) (cap c : Nat) (lo' : Nat → Int) (cz : Nat) (zl : SV) (rest : SHeap) : SHeap := [some (.roa 3 t.nM (row3 t.mi t.mlo t.mhi)), some (.roa 2 t.nS (row2 t.slo t.shi)), some (.roa 4 t.nL (row4 t.lp t.lm t.llo t.lhi)), some (.glob 0 [.int .i64 0, .int .i64 1, .int .i64 3, .int .i64 6, .int .i64 9, .int .i64 11, .int .i64 12]), some db, some (.cells [.osl t.bM 0 3 t.nM t.cM, .osl t.bS 1 2 t.nS t.cS, .osl t.bL 2 4 t.nL t.cL]), some (.cells [.int .i64 la, .int .i64 lm, .int .i64 ll, .int .i64 lh]),
  some (.cells [.osl t.bM 0 3 t.nM t.cM, .osl t.bS 1 2 t.nS t.cS, .slice 10 4 0 (t.nL + 1) cap]), some (.cells [.osl t.bM 0 3 t.nM t.cM, .osl t.bS 1 2 t.nS t.cS, .slice 11 4 0 t.nL c]), some (.cells [.osl t.bM 0 3 t.nM t.cM, .slice 12 2 0 t.nS cz, zl]),
  some (.arr 4 (t.nL + 1) cap (row4 (t.plus la lm ll lh cap).lp (t.plus la lm ll lh cap).lm (t.plus la lm ll lh cap).llo (t.plus la lm ll lh cap).lhi)), some (.arr 4 t.nL c (row4 t.lp t.lm lo' t.lhi)), some (.arr 2 t.nS cz (row2 (fun i => t.slo (t.nS - 1 - i)) (fun i => t.shi (t.nS - 1 - i))))] ++ rest
section
variable (t : TD) (w q m low la lm ll lh : Int) (cap c : Nat) (lo' : Nat → Int) (cz cl n : Nat) (hn : n ≤ 10)
theorem ent22t : Ent 5 ⟨T6 t w q m low, Hs t la lm ll lh cap c lo' cz (.slice 13 4 0 t.nL cl) [some (.arr 4 t.nL cl (revL t))], []⟩ ⟨T6 t w q m low, H22 t la lm ll lh cap c lo' cz true cl, []⟩ := by
  refine (entCells (i := 7) (cs := [.osl t.bM 0 3 t.nM t.cM, .osl t.bS 1 2 t.nS t.cS, .slice 10 4 0 (t.nL + 1) cap]) (cs' := [.osl t.bM 0 3 t.nM t.cM, .osl t.bS 1 2 t.nS t.cS, .osl true 10 4 (t.nL + 1) cap]) rfl (fun η => by simp [den, denL])).trans ?_
  refine (entCells (i := 8) (cs := [.osl t.bM 0 3 t.nM t.cM, .osl t.bS 1 2 t.nS t.cS, .slice 11 4 0 t.nL c]) (cs' := [.osl t.bM 0 3 t.nM t.cM, .osl t.bS 1 2 t.nS t.cS, .osl true 11 4 t.nL c]) rfl (fun η => by simp [den, denL])).trans ?_
  refine (entCells (i := 9) (cs := [.osl t.bM 0 3 t.nM t.cM, .slice 12 2 0 t.nS cz, .slice 13 4 0 t.nL cl]) (cs' := [.osl t.bM 0 3 t.nM t.cM, .osl true 12 2 t.nS cz, .osl true 13 4 t.nL cl]) rfl (fun η => by simp [den, denL])).trans ?_
  exact ent_tau [0, 1, 2, 3, 4, 5, 6, 7, 8, 9, 10, 11, 12, 13] ⟨by (repeat' (first | exact trivial | exact rfl | exact fun _ _ => rfl | exact Or.inl rfl | refine And.intro ?_ ?_)), by (repeat' (first | exact trivial | exact rfl | exact congrArg (SV.int .i64) (Int.natCast_succ _).symm | refine And.intro ?_ ?_)), rfl⟩
theorem ent22f (h0 : t.nL = 0) : Ent 5 ⟨T6 t w q m low, Hs t la lm ll lh cap c lo' cz .snil [], []⟩ ⟨T6 t w q m low, H22 t la lm ll lh cap c lo' cz false 0, []⟩ := by
  refine (entCells (i := 7) (cs := [.osl t.bM 0 3 t.nM t.cM, .osl t.bS 1 2 t.nS t.cS, .slice 10 4 0 (t.nL + 1) cap]) (cs' := [.osl t.bM 0 3 t.nM t.cM, .osl t.bS 1 2 t.nS t.cS, .osl true 10 4 (t.nL + 1) cap]) rfl (fun η => by simp [den, denL])).trans ?_
  refine (entCells (i := 8) (cs := [.osl t.bM 0 3 t.nM t.cM, .osl t.bS 1 2 t.nS t.cS, .slice 11 4 0 t.nL c]) (cs' := [.osl t.bM 0 3 t.nM t.cM, .osl t.bS 1 2 t.nS t.cS, .osl true 11 4 t.nL c]) rfl (fun η => by simp [den, denL])).trans ?_
  refine (entCells (i := 9) (cs := [.osl t.bM 0 3 t.nM t.cM, .slice 12 2 0 t.nS cz, .snil]) (cs' := [.osl t.bM 0 3 t.nM t.cM, .osl true 12 2 t.nS cz, .osl false 13 4 t.nL 0]) rfl (fun η => by simp [den, denL, h0])).trans ?_
  refine (entAlias (i := 0) (sz0 := 3) (m0 := t.nM) (get0 := row3 t.mi t.mlo t.mhi) rfl 4 (revL t)).trans ?_
  refine ent_tau [0, 1, 2, 3, 4, 5, 6, 7, 8, 9, 10, 11, 12, 13] ⟨?_, by (repeat' (first | exact trivial | exact rfl | exact congrArg (SV.int .i64) (Int.natCast_succ _).symm | refine And.intro ?_ ?_)), rfl⟩
  (repeat' (first | exact trivial | exact rfl | exact fun _ _ => rfl | exact Or.inl rfl | refine And.intro ?_ ?_))
  all_goals first | exact h0.symm | (intro k hk; exact absurd hk (Nat.not_lt_zero k))
end
end Go.Proofs.YtipbempkngfdbaaDoor
/-
  TideMore: more of what is known between its parts.
-/
namespace Go.Proofs.YtipbempkngfdbaaDoor
open Go Go.Sy
set_option linter.unusedSimpArgs false
set_option maxRecDepth 100000
set_option maxHeartbeats 4000000
attribute [local irreducible] CallP CodeP Ent YieldP

noncomputable def T24 (t : TD) (q m low : Int) (d1 d2 d3 : Nat) : Tm := mkT [] [(5, .ptr 5 0), (6, .ptr 6 0), (10, .bool false), (11, .int .i64 t.nS), (13, .int .i64 q), (14, .int .i64 m), (15, .int .i64 low), (16, .ptr 7 0), (17, .ptr 8 0), (18, .ptr 9 0), (23, .slice 14 3 0 t.nM d1), (24, .slice 15 2 0 t.nS d2), (25, .slice 16 4 0 t.nL d3)] 0 (List.replicate 447 none)
noncomputable def H24 (t : TD) (la lm ll lh : Int) (cap c : Nat) (lo' : Nat → Int) (cz : Nat) (bz : Bool) (cl d1 d2 d3 : Nat) : SHeap := H22 t la lm ll lh cap c lo' cz bz cl ++ [some (.arr 3 t.nM d1 (row3 t.mi t.mlo t.mhi)), some (.arr 2 t.nS d2 (row2 t.slo t.shi)), some (.arr 4 t.nL d3 (row4 t.lp t.lm t.llo t.lhi))]
theorem t41 (a b c d : Int) : CallP Tryd.prog 41 [.agg [.int .i64 a, .int .i64 b], .agg [.int .i64 c, .int .i64 d]] [] (Ret (.bool (bif decide (a ≥ c) then decide (b ≤ d) else false)) []) := by
  refine callR (E := E) E_ok Tryd.func41 rfl ?_
  refine And.intro ?_ ?_
  · (repeat' (first | exact True.intro | exact d1 _ | exact d1t _ | exact d2 _ | exact d3 _ _ | exact d3f _ _ | exact fun _ _ => rfl | exact fun _ => rfl | exact rfl | refine And.intro ?_ ?_))
  exact ent_tau [] ⟨by (repeat' (first | exact trivial | exact rfl | exact fun _ _ => rfl | exact Or.inl rfl | refine And.intro ?_ ?_)), by (repeat' (first | exact trivial | exact rfl | exact congrArg (SV.int .i64) (Int.natCast_succ _).symm | refine And.intro ?_ ?_)), rfl⟩
noncomputable def T28 (t : TD) (q m low : Int) (d1 d2 d3 : Nat) : Tm := mkT [] [(5, .ptr 5 0), (10, .bool false), (11, .int .i64 t.nS), (13, .int .i64 q), (14, .int .i64 m), (15, .int .i64 low), (16, .ptr 7 0), (17, .ptr 8 0), (18, .ptr 9 0), (23, .slice 14 3 0 t.nM d1), (24, .slice 15 2 0 t.nS d2), (25, .slice 16 4 0 t.nL d3), (26, .fn (.func 41) [] []), (27, .ptr 17 0), (28, .int .i64 (t.depthT q m).e), (29, .ptr 18 0), (30, .int .i64 (t.height m).e), (31, .int .i64 t.countT.v), (32, .int .i64 t.countT.e), (33, .int .i64 (t.placesT m low (if low + 3 < 60 then low + 3 else 60)).v.1), (34, .int .i64 (t.placesT m low (if low + 3 < 60 then low + 3 else 60)).v.2), (35, .int .i64 (t.placesT m low (if low + 3 < 60 then low + 3 else 60)).e)] 0 (List.replicate 447 none)
noncomputable def H28 (t : TD) (q m la lm ll lh : Int) (cap c : Nat) (lo' : Nat → Int) (cz : Nat) (bz : Bool) (cl d1 d2 d3 : Nat) : SHeap := H24 t la lm ll lh cap c lo' cz bz cl d1 d2 d3 ++ [some (.cells [.int .i64 (t.depthT q m).v.1, .int .i64 (t.depthT q m).v.2]), some (.cells [.int .i64 (t.height m).v.1, .int .i64 (t.height m).v.2])]
end Go.Proofs.YtipbempkngfdbaaDoor
/-
  TideMore: the last loops.
-/
namespace Go.Proofs.YtipbempkngfdbaaDoor
open Go Go.Sy
set_option linter.unusedSimpArgs false
set_option maxRecDepth 100000
set_option maxHeartbeats 4000000
attribute [local irreducible] CallP CodeP Ent YieldP

/-- Behind region 42: bits are to be compared, and copies. -/
noncomputable def T44 (t : TD) (d1 d2 d3 : Nat) (s1 s2 z1 z2 : Int) : Tm := mkT [] [(5, .ptr 5 0), (10, .bool false), (11, .int .i64 t.nS), (23, .slice 14 3 0 t.nM d1), (24, .slice 15 2 0 t.nS d2), (25, .slice 16 4 0 t.nL d3), (33, .int .i64 s1), (34, .int .i64 s2), (50, .int .i64 z1), (51, .int .i64 z2)] 0 (List.replicate 447 none)
theorem seg44 (t : TD) (hv : t.Valid) (w q m low la lm ll lh : Int) (ht : Base t q m low la lm ll lh) (cap c : Nat) (hc1 : t.nL + 1 ≤ cap) (hc2 : cap ≤ 9223372036854775807) (hc3 : t.nL ≤ c) (hc4 : c ≤ 9223372036854775807) (lo' : Nat → Int) (hlo : ∀ k, InR .i64 (lo' k)) (hYv : (t.lows lo' c).Valid) (hYt : Tight t (t.lows lo' c)) (cz : Nat) (bz : Bool) (cl : Nat) (d1 d2 d3 : Nat) (S P S' P' : Nat → Bool) (hb : ∀ q, q < t.nS → S' (t.nS - 1 - q) = S q ∧ P' (t.nS - 1 - q) = P q) : CodeP Tryd.prog none t.HG.length (sufC Tryd.f12 21) ⟨T44 t d1 d2 d3 (bitsF S t.nS) (bitsF P t.nS) (bitsF S' t.nS) (bitsF P' t.nS), H24 t la lm ll lh cap c lo' cz bz cl d1 d2 d3, []⟩ (KRet E Tryd.f12 t.HG.length (.bool true) t.HG) := by
  have hM := hv.1
  have hS := hv.2.1
  have hL := hv.2.2.1
  refine codeP_XK E_ok 1 ?_
  refine And.intro ?_ ?_
  · (repeat' (first | exact trivial | exact fun _ => rfl | exact rfl | refine And.intro ?_ ?_))
  refine loopP E_ok [5, 10, 11, 23, 24, 25, 33, 34, 50, 51, 367] (fun k : Nat => [(368, .int .i64 k)]) (fun _ H => H) (fun k => k ≤ t.nS) (fun k => t.nS - k) 0 (Nat.zero_le _) ?_ ?_
  · exact ent_tau [0, 1, 2, 3, 4, 5, 6, 7, 8, 9, 10, 11, 12, 13, 14, 15, 16] ⟨by (repeat' (first | exact trivial | exact rfl | exact fun _ _ => rfl | exact Or.inl rfl | refine And.intro ?_ ?_)), by (repeat' (first | exact trivial | exact rfl | exact congrArg (SV.int .i64) (Int.natCast_succ _).symm | refine And.intro ?_ ?_)), rfl⟩
  · intro k hk
    refine And.intro ?_ (And.intro (fun hc => ?_) (fun hc => ?_))
    · (repeat' (first | exact trivial | exact fun _ => rfl | exact rfl | refine And.intro ?_ ?_))
    · have hk' : k < t.nS := by simpa using hc
      have e1 : ((k : Int)).toNat = k := Int.toNat_natCast k
      have e2 : ((t.nS : Int) - 1 - (k : Int)).toNat = t.nS - 1 - k := by omega
      obtain ⟨b1, b2⟩ := hb k hk'
      have g1 : bitOp .and .i64 ((bitsF S t.nS).fdiv (2 ^ ((k : Int)).toNat)) 1 = bitOp .and .i64 ((bitsF S' t.nS).fdiv (2 ^ ((t.nS : Int) - 1 - (k : Int)).toNat)) 1 := by
        rw [e1, e2, bitsF_bit S (by omega) hk', bitsF_bit S' (by omega) (by omega), b1]
      have g2 : bitOp .and .i64 ((bitsF P t.nS).fdiv (2 ^ ((k : Int)).toNat)) 1 = bitOp .and .i64 ((bitsF P' t.nS).fdiv (2 ^ ((t.nS : Int) - 1 - (k : Int)).toNat)) 1 := by
        rw [e1, e2, bitsF_bit P (by omega) hk', bitsF_bit P' (by omega) (by omega), b2]
      have hF : (bif !decide (bitOp .and .i64 ((bitsF S t.nS).fdiv (2 ^ ((k : Int)).toNat)) 1 = bitOp .and .i64 ((bitsF S' t.nS).fdiv (2 ^ ((t.nS : Int) - 1 - (k : Int)).toNat)) 1) then true else !decide (bitOp .and .i64 ((bitsF P t.nS).fdiv (2 ^ ((k : Int)).toNat)) 1 = bitOp .and .i64 ((bitsF P' t.nS).fdiv (2 ^ ((t.nS : Int) - 1 - (k : Int)).toNat)) 1)) = false := by
        rw [decide_eq_true g1, decide_eq_true g2]
        rfl
      refine And.intro ?_ ?_
      · (repeat' (first | exact trivial | exact fun _ => rfl | exact rfl | refine And.intro ?_ ?_))
      refine drawP E_ok [] pl12_47 (by kernel_rfl) ?_
      refine And.intro ?_ ?_
      · (repeat' (first | exact True.intro | exact d1 _ | exact d1t _ | exact d2 _ | exact d3 _ _ | exact d3f _ _ | exact fun _ _ => rfl | exact fun _ => rfl | exact rfl | refine And.intro ?_ ?_))
        all_goals first | exact un (fun h => by rw [h]; rfl) | exact un (show (k : Int) < 64 by omega) | exact un (show (t.nS : Int) - 1 - k < 64 by omega) | exact d4 (show (k : Int) < 64 by omega) | exact d4 (show (t.nS : Int) - 1 - k < 64 by omega) | exact un (by omega) | exact d4 (by omega) | exact d4 ((inR_iff _).2 ⟨by omega, by omega⟩) | exact un ((inR_iff _).2 ⟨by omega, by omega⟩) 
      refine And.intro rfl ?_
      refine And.intro ?_ (And.intro (fun h => absurd (hF.symm.trans h) (by decide)) (fun h => ?_))
      · (repeat' (first | exact True.intro | exact d1 _ | exact d1t _ | exact d2 _ | exact d3 _ _ | exact d3f _ _ | exact fun _ _ => rfl | exact fun _ => rfl | exact rfl | refine And.intro ?_ ?_))
        all_goals first | exact un (fun h => by rw [h]; rfl) 
      refine And.intro ?_ ⟨k + 1, hk', by omega, ?_⟩
      · simp [AllP, under, gB, wB, inR_iff, IntKind.bits] <;> omega
      · exact ent_tau [0, 1, 2, 3, 4, 5, 6, 7, 8, 9, 10, 11, 12, 13, 14, 15, 16] ⟨by (repeat' (first | exact trivial | exact rfl | exact fun _ _ => rfl | exact Or.inl rfl | refine And.intro ?_ ?_)), by (repeat' (first | exact trivial | exact rfl | exact congrArg (SV.int .i64) (Int.natCast_succ _).symm | refine And.intro ?_ ?_)), rfl⟩
    · refine And.intro trivial ?_
      refine And.intro trivial ?_
      refine codeP_XK E_ok 1 ?_
      refine And.intro ?_ ?_
      · (repeat' (first | exact trivial | exact fun _ => rfl | exact rfl | refine And.intro ?_ ?_))
      refine loopP E_ok [5, 10, 23, 24, 25, 399] (fun k : Nat => [(400, .int .i64 k)]) (fun _ H => H) (fun k => k ≤ t.nM) (fun k => t.nM - k) 0 (Nat.zero_le _) ?_ ?_
      · exact ent_tau [0, 1, 2, 3, 4, 5, 6, 7, 8, 9, 10, 11, 12, 13, 14, 15, 16] ⟨by (repeat' (first | exact trivial | exact rfl | exact fun _ _ => rfl | exact Or.inl rfl | refine And.intro ?_ ?_)), by (repeat' (first | exact trivial | exact rfl | exact congrArg (SV.int .i64) (Int.natCast_succ _).symm | refine And.intro ?_ ?_)), rfl⟩
      · intro k hk
        refine And.intro ?_ (And.intro (fun hc => ?_) (fun hc => ?_))
        · (repeat' (first | exact trivial | exact fun _ => rfl | exact rfl | refine And.intro ?_ ?_))
        · have hk' : k < t.nM := by simpa using hc
          have q1 : 0 + ((k : Int)).toNat < t.nM := by omega
          refine And.intro ?_ ?_
          · (repeat' (first | exact trivial | exact fun _ => rfl | exact rfl | refine And.intro ?_ ?_))
          refine drawP E_ok [5, 14] pl12_53 (by kernel_rfl) ?_
          refine And.intro ?_ ?_
          · (repeat' (first | exact True.intro | exact d1 _ | exact d1t _ | exact d2 _ | exact d3 _ _ | exact d3f _ _ | exact fun _ _ => rfl | exact fun _ => rfl | exact rfl | refine And.intro ?_ ?_))
            all_goals first | exact un q1 | exact un (by omega) | exact q1 | omega
          refine And.intro rfl ?_
          refine And.intro ?_ (And.intro (fun h => ?_) (fun h => ?_))
          · (repeat' (first | exact True.intro | exact d1 _ | exact d1t _ | exact d2 _ | exact d3 _ _ | exact d3f _ _ | exact fun _ _ => rfl | exact fun _ => rfl | exact rfl | refine And.intro ?_ ?_))
          · exfalso
            simp at h
          refine And.intro ?_ ⟨k + 1, hk', by omega, ?_⟩
          · simp [AllP, under, gB, wB, inR_iff, IntKind.bits] <;> omega
          · exact ent_tau [0, 1, 2, 3, 4, 5, 6, 7, 8, 9, 10, 11, 12, 13, 14, 15, 16] ⟨by (repeat' (first | exact trivial | exact rfl | exact fun _ _ => rfl | exact Or.inl rfl | refine And.intro ?_ ?_)), by (repeat' (first | exact trivial | exact rfl | exact congrArg (SV.int .i64) (Int.natCast_succ _).symm | refine And.intro ?_ ?_)), rfl⟩
        · refine And.intro trivial ?_
          refine And.intro trivial ?_
          refine codeP_XK E_ok 1 ?_
          refine And.intro ?_ ?_
          · (repeat' (first | exact trivial | exact fun _ => rfl | exact rfl | refine And.intro ?_ ?_))
          refine loopP E_ok [5, 10, 24, 25, 415] (fun k : Nat => [(416, .int .i64 k)]) (fun _ H => H) (fun k => k ≤ t.nS) (fun k => t.nS - k) 0 (Nat.zero_le _) ?_ ?_
          · exact ent_tau [0, 1, 2, 3, 4, 5, 6, 7, 8, 9, 10, 11, 12, 13, 14, 15, 16] ⟨by (repeat' (first | exact trivial | exact rfl | exact fun _ _ => rfl | exact Or.inl rfl | refine And.intro ?_ ?_)), by (repeat' (first | exact trivial | exact rfl | exact congrArg (SV.int .i64) (Int.natCast_succ _).symm | refine And.intro ?_ ?_)), rfl⟩
          · intro k hk
            refine And.intro ?_ (And.intro (fun hc => ?_) (fun hc => ?_))
            · (repeat' (first | exact trivial | exact fun _ => rfl | exact rfl | refine And.intro ?_ ?_))
            · have hk' : k < t.nS := by simpa using hc
              have q1 : 0 + ((k : Int)).toNat < t.nS := by omega
              refine And.intro ?_ ?_
              · (repeat' (first | exact trivial | exact fun _ => rfl | exact rfl | refine And.intro ?_ ?_))
              refine drawP E_ok [5, 15] pl12_59 (by kernel_rfl) ?_
              refine And.intro ?_ ?_
              · (repeat' (first | exact True.intro | exact d1 _ | exact d1t _ | exact d2 _ | exact d3 _ _ | exact d3f _ _ | exact fun _ _ => rfl | exact fun _ => rfl | exact rfl | refine And.intro ?_ ?_))
                all_goals first | exact un q1 | exact un (by omega) | exact q1 | omega
              refine And.intro rfl ?_
              refine And.intro ?_ (And.intro (fun h => ?_) (fun h => ?_))
              · (repeat' (first | exact True.intro | exact d1 _ | exact d1t _ | exact d2 _ | exact d3 _ _ | exact d3f _ _ | exact fun _ _ => rfl | exact fun _ => rfl | exact rfl | refine And.intro ?_ ?_))
              · exfalso
                simp at h
              refine And.intro ?_ ⟨k + 1, hk', by omega, ?_⟩
              · simp [AllP, under, gB, wB, inR_iff, IntKind.bits] <;> omega
              · exact ent_tau [0, 1, 2, 3, 4, 5, 6, 7, 8, 9, 10, 11, 12, 13, 14, 15, 16] ⟨by (repeat' (first | exact trivial | exact rfl | exact fun _ _ => rfl | exact Or.inl rfl | refine And.intro ?_ ?_)), by (repeat' (first | exact trivial | exact rfl | exact congrArg (SV.int .i64) (Int.natCast_succ _).symm | refine And.intro ?_ ?_)), rfl⟩
            · refine And.intro trivial ?_
              refine And.intro trivial ?_
              refine codeP_XK E_ok 1 ?_
              refine And.intro ?_ ?_
              · (repeat' (first | exact trivial | exact fun _ => rfl | exact rfl | refine And.intro ?_ ?_))
              refine loopP E_ok [5, 10, 25, 431] (fun k : Nat => [(432, .int .i64 k)]) (fun _ H => H) (fun k => k ≤ t.nL) (fun k => t.nL - k) 0 (Nat.zero_le _) ?_ ?_
              · exact ent_tau [0, 1, 2, 3, 4, 5, 6, 7, 8, 9, 10, 11, 12, 13, 14, 15, 16] ⟨by (repeat' (first | exact trivial | exact rfl | exact fun _ _ => rfl | exact Or.inl rfl | refine And.intro ?_ ?_)), by (repeat' (first | exact trivial | exact rfl | exact congrArg (SV.int .i64) (Int.natCast_succ _).symm | refine And.intro ?_ ?_)), rfl⟩
              · intro k hk
                refine And.intro ?_ (And.intro (fun hc => ?_) (fun hc => ?_))
                · (repeat' (first | exact trivial | exact fun _ => rfl | exact rfl | refine And.intro ?_ ?_))
                · have hk' : k < t.nL := by simpa using hc
                  have q1 : 0 + ((k : Int)).toNat < t.nL := by omega
                  refine And.intro ?_ ?_
                  · (repeat' (first | exact trivial | exact fun _ => rfl | exact rfl | refine And.intro ?_ ?_))
                  refine drawP E_ok [5, 16] pl12_65 (by kernel_rfl) ?_
                  refine And.intro ?_ ?_
                  · (repeat' (first | exact True.intro | exact d1 _ | exact d1t _ | exact d2 _ | exact d3 _ _ | exact d3f _ _ | exact fun _ _ => rfl | exact fun _ => rfl | exact rfl | refine And.intro ?_ ?_))
                    all_goals first | exact un q1 | exact un (by omega) | exact q1 | omega
                  refine And.intro rfl ?_
                  refine And.intro ?_ (And.intro (fun h => ?_) (fun h => ?_))
                  · (repeat' (first | exact True.intro | exact d1 _ | exact d1t _ | exact d2 _ | exact d3 _ _ | exact d3f _ _ | exact fun _ _ => rfl | exact fun _ => rfl | exact rfl | refine And.intro ?_ ?_))
                  · exfalso
                    simp at h
                  refine And.intro ?_ ⟨k + 1, hk', by omega, ?_⟩
                  · simp [AllP, under, gB, wB, inR_iff, IntKind.bits] <;> omega
                  · exact ent_tau [0, 1, 2, 3, 4, 5, 6, 7, 8, 9, 10, 11, 12, 13, 14, 15, 16] ⟨by (repeat' (first | exact trivial | exact rfl | exact fun _ _ => rfl | exact Or.inl rfl | refine And.intro ?_ ?_)), by (repeat' (first | exact trivial | exact rfl | exact congrArg (SV.int .i64) (Int.natCast_succ _).symm | refine And.intro ?_ ?_)), rfl⟩
                · refine And.intro trivial ?_
                  refine And.intro trivial ?_
                  refine codeP_XK E_ok 9 ?_
                  refine And.intro ?_ ?_
                  · (repeat' (first | exact trivial | exact fun _ => rfl | exact rfl | refine And.intro ?_ ?_))
                  refine (t14).use [3, 4] ?_ (by (repeat' (first | exact trivial | exact rfl | exact fun _ _ => rfl | exact Or.inl rfl | refine And.intro ?_ ?_))) rfl
                  (repeat' (first | exact trivial | exact fun _ => rfl | exact rfl | refine And.intro ?_ ?_))
                  exact ent_tau [0, 1, 2, 3, 4] ⟨by (repeat' (first | exact trivial | exact rfl | exact fun _ _ => rfl | exact Or.inl rfl | refine And.intro ?_ ?_)), by (repeat' (first | exact trivial | exact rfl | exact congrArg (SV.int .i64) (Int.natCast_succ _).symm | refine And.intro ?_ ?_)), rfl⟩
end Go.Proofs.YtipbempkngfdbaaDoor
/-
  TideMore: what is told of the tide whose places are numbered otherwise.
-/
namespace Go.Proofs.YtipbempkngfdbaaDoor
open Go Go.Sy
set_option linter.unusedSimpArgs false
set_option maxRecDepth 100000
set_option maxHeartbeats 4000000
attribute [local irreducible] CallP CodeP Ent YieldP

theorem seg38 (t : TD) (hv : t.Valid) (w q m low la lm ll lh : Int) (ht : Base t q m low la lm ll lh) (cap c : Nat) (hc1 : t.nL + 1 ≤ cap) (hc2 : cap ≤ 9223372036854775807) (hc3 : t.nL ≤ c) (hc4 : c ≤ 9223372036854775807) (lo' : Nat → Int) (hlo : ∀ k, InR .i64 (lo' k)) (hYv : (t.lows lo' c).Valid) (hYt : Tight t (t.lows lo' c)) (cz : Nat) (bz : Bool) (cl : Nat) (d1 d2 d3 : Nat) : CodeP Tryd.prog none t.HG.length (sufC Tryd.f12 16) ⟨T28 t q m low d1 d2 d3, H28 t q m la lm ll lh cap c lo' cz bz cl d1 d2 d3, []⟩ (KRet E Tryd.f12 t.HG.length (.bool true) t.HG) := by
  obtain ⟨qn, rfl⟩ := Int.eq_ofNat_of_zero_le ht.q.1
  have hqn2 : qn < t.nS := by have := ht.q.2; omega
  have hS := hv.2.1
  have hlow := ht.low
  have eq1 : (t.nS : Int) - 1 - (qn : Int) = ((t.nS - 1 - qn : Nat) : Int) := by omega
  obtain ⟨S, P, S', P', pe, hp1, hp2, hb⟩ := rev_places true cz bz cl hv ht.m (l := low) (h := if low + 3 < 60 then low + 3 else 60) ⟨hlow.1, by omega⟩ (by split <;> omega)
  have c25 := t25 (t.rev true cz bz cl) ((t.nS - 1 - qn : Nat) : Int) m
  rw [rev_depth true cz bz cl hv hqn2 ht.m, ← eq1] at c25
  have c22 := t22 (t.rev true cz bz cl) m
  rw [rev_height true cz bz cl hv ht.m] at c22
  have c26 := t26 (t.rev true cz bz cl)
  rw [rev_count true cz bz cl hv] at c26
  have c32 := t32 (t.rev true cz bz cl) m low (if low + 3 < 60 then low + 3 else 60)
  rw [hp2] at c32
  refine codeP_XK E_ok 5 ?_
  refine And.intro ?_ ?_
  · (repeat' (first | exact trivial | exact fun _ => rfl | exact rfl | refine And.intro ?_ ?_))
    all_goals omega
  refine (c25).use [0, 12, 13, 3, 4] ?_ (by (repeat' (first | exact trivial | exact rfl | exact fun _ _ => rfl | exact Or.inl rfl | refine And.intro ?_ ?_))) rfl
  refine And.intro ?_ ?_
  · (repeat' (first | exact trivial | exact fun _ => rfl | exact rfl | refine And.intro ?_ ?_))
  refine (c22).use [0, 12, 13, 3, 4] ?_ (by (repeat' (first | exact trivial | exact rfl | exact fun _ _ => rfl | exact Or.inl rfl | refine And.intro ?_ ?_))) rfl
  refine And.intro ?_ ?_
  · (repeat' (first | exact trivial | exact fun _ => rfl | exact rfl | refine And.intro ?_ ?_))
  refine (c26).use [0, 12, 13, 3, 4] ?_ (by (repeat' (first | exact trivial | exact rfl | exact fun _ _ => rfl | exact Or.inl rfl | refine And.intro ?_ ?_))) rfl
  refine And.intro ?_ ?_
  · (repeat' (first | exact trivial | exact fun _ => rfl | exact rfl | refine And.intro ?_ ?_))
    all_goals omega
  refine (c32).use [0, 12, 13, 3, 4] ?_ (by (repeat' (first | exact trivial | exact rfl | exact fun _ _ => rfl | exact Or.inl rfl | refine And.intro ?_ ?_))) rfl
  refine And.intro ?_ (And.intro (fun h => ?_) (fun h => ?_))
  · (repeat' (first | exact True.intro | exact d1 _ | exact d1t _ | exact d2 _ | exact d3 _ _ | exact d3f _ _ | exact fun _ _ => rfl | exact fun _ => rfl | exact rfl | refine And.intro ?_ ?_))
    all_goals first | exact un (fun h => by rw [h]; rfl) | exact fun hg h => by rw [hg, h]; rfl
  · exfalso
    simp [hp1] at h
  refine And.intro trivial ?_
  refine CodeP.part (seg44 t hv w qn m low la lm ll lh ht cap c hc1 hc2 hc3 hc4 lo' hlo hYv hYt cz bz cl d1 d2 d3 S P S' P' hb) ?_
  refine ent_tau [0, 1, 2, 3, 4, 5, 6, 7, 8, 9, 10, 11, 12, 13, 14, 15, 16] ⟨by (repeat' (first | exact trivial | exact rfl | exact fun _ _ => rfl | exact Or.inl rfl | refine And.intro ?_ ?_)), ?_, rfl⟩
  (repeat' (first | exact trivial | exact rfl | exact congrArg (fun x : Told (Int × Int) => SV.int .i64 x.v.1) hp1 | exact congrArg (fun x : Told (Int × Int) => SV.int .i64 x.v.2) hp1 | refine And.intro ?_ ?_))
end Go.Proofs.YtipbempkngfdbaaDoor
