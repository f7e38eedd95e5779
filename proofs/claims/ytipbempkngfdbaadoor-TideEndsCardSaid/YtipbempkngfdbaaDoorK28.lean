/-
  Parts: D8.
-/
import Derived.Test.YtipbempkngfdbaaDoorK27
/-
  Contract: dipworkslaw01.TideEnds.
-/
namespace Go.Proofs.YtipbempkngfdbaaDoor
open Go Go.Sy
set_option linter.unusedSimpArgs false
set_option maxRecDepth 100000
set_option maxHeartbeats 4000000
attribute [local irreducible] CallP CodeP Ent YieldP

theorem t30 (n lo hi : Int) : CallP Tryd.prog 30 [.int .i64 n, .agg [.int .i64 lo, .int .i64 hi]] [] (Ret (.bool (bif decide (lo ≤ n) then decide (n ≤ hi) else false)) []) := by
  refine callR (E := E) E_ok Tryd.func30 rfl ?_
  refine And.intro ?_ ?_
  · (repeat' (first | exact True.intro | exact d1 _ | exact d1t _ | exact d2 _ | exact d3 _ _ | exact d3f _ _ | exact fun _ _ => rfl | exact fun _ => rfl | exact rfl | refine And.intro ?_ ?_))
  exact ent_tau [] ⟨by (repeat' (first | exact trivial | exact rfl | exact fun _ _ => rfl | exact Or.inl rfl | refine And.intro ?_ ?_)), by (repeat' (first | exact trivial | exact rfl | exact congrArg (SV.int .i64) (Int.natCast_succ _).symm | refine And.intro ?_ ?_)), rfl⟩
theorem hasN {t : TD} (hv : t.Valid) (m : Int) (p : Nat) (a n : Int) : 0 ≤ (t.upTo m p a n : Int) ∧ (t.upTo m p a n : Int) ≤ 6561 := by
  have h1 := tru_len hv
  have h2 : t.upTo m p a n ≤ t.tru.length := List.length_filter_le _ _
  omega
theorem t7 (t : TD) (ht : t.ok) (w a l d : Int) (hw : 0 ≤ w ∧ w ≤ 255) (ha : 0 ≤ a ∧ a ≤ 255) (hlr : 0 ≤ l ∧ l ≤ 255) (hd : 0 ≤ d ∧ d ≤ 255) :
    CallP Tryd.prog 7 [t.A, .int .u8 w, .int .u8 a, .int .u8 l, .int .u8 d] t.HG (Ret (.bool true) t.HG) := by
  refine callR (E := E) E_ok Tryd.func7 rfl ?_
  refine And.intro ?_ ?_
  · simp [AllP, under, gB, wB, inR_iff, IntKind.bits]
  refine (t33 t).use [0, 1, 2] ?_ (by (repeat' (first | exact trivial | exact rfl | exact fun _ _ => rfl | exact Or.inl rfl | refine And.intro ?_ ?_))) rfl
  refine And.intro ?_ (And.intro (fun hl => ?_) (fun hl => ?_))
  · simp [AllP, under, gB, wB, inR_iff, IntKind.bits]
  · refine (t34 t ht).use [0, 1, 2] ?_ (by (repeat' (first | exact trivial | exact rfl | exact fun _ _ => rfl | exact Or.inl rfl | refine And.intro ?_ ?_))) rfl
    refine And.intro ?_ (And.intro (fun hb => ?_) (fun hb => ?_))
    · (repeat' (first | exact True.intro | exact d1 _ | exact d1t _ | exact d2 _ | exact d3 _ _ | exact d3f _ _ | exact fun _ _ => rfl | exact fun _ => rfl | exact rfl | refine And.intro ?_ ?_))
    · refine And.intro trivial ?_
      refine (t14).use [3, 4] ?_ (by (repeat' (first | exact trivial | exact rfl | exact fun _ _ => rfl | exact Or.inl rfl | refine And.intro ?_ ?_))) rfl
      refine And.intro trivial ?_
      exact ent_tau [0, 1, 2, 3, 4] ⟨by (repeat' (first | exact trivial | exact rfl | exact fun _ _ => rfl | exact Or.inl rfl | refine And.intro ?_ ?_)), by (repeat' (first | exact trivial | exact rfl | exact congrArg (SV.int .i64) (Int.natCast_succ _).symm | refine And.intro ?_ ?_)), rfl⟩
    · have hvL : t.Valid ∧ t.nL < 6 := by
        have h2 : t.valid = true ∧ (t.nL : Int) < 6 := by
          cases hc : decide (40 < max (max t.nM t.nS) t.nL)
          · rw [hc] at hb
            simpa using hb
          · rw [hc] at hb
            cases hb
        exact ⟨by simpa [TD.valid] using h2.1, by omega⟩
      obtain ⟨hv, hL⟩ := hvL
      have hM := hv.1
      have hS := hv.2.1
      have e1 : ((t.nM : Int) - 1).toNat = t.nM - 1 := by omega
      have eL : t.mi (0 + ((t.nM : Int) - 1).toNat) = t.mi (t.nM - 1) := by rw [e1, Nat.zero_add]
      have mk1 := hv.marks (i := 0) (by omega)
      have mk2 := hv.marks (i := t.nM - 1) (by omega)
      simp only [TD.markOk] at mk1 mk2
      have mle : t.mi 0 ≤ t.mi (t.nM - 1) := mi_le hv (Nat.zero_le _) (by omega)
      obtain ⟨bg, eb⟩ : ∃ x : Int, t.mi 0 + a.tmod (t.mi (t.nM - 1) - t.mi 0 + 1) = x := ⟨_, rfl⟩
      have hr0 := Int.tmod_nonneg (t.mi (t.nM - 1) - t.mi 0 + 1) ha.1
      have hr1 := Int.tmod_lt_of_pos a (show 0 < t.mi (t.nM - 1) - t.mi 0 + 1 by omega)
      have mB : t.isMin bg := ⟨by omega, by omega⟩
      have eB : t.mi 0 + a.tmod (t.mi (0 + ((t.nM : Int) - 1).toNat) - t.mi 0 + 1) = bg := by rw [eL]; exact eb
      have hcount := count_tru hv
      obtain ⟨q, hq⟩ := Int.eq_ofNat_of_zero_le (Int.tmod_nonneg (t.nS : Int) hw.1)
      have hq2 := Int.tmod_lt_of_pos w (show 0 < (t.nS : Int) by omega)
      have hq3 : q < t.nS := by omega
      have hpl : t.isPl q := ⟨by omega, by omega⟩
      have c26 := t26 t
      rw [hcount] at c26
      have c25 := t25 t q bg
      refine And.intro ?_ ?_
      · (repeat' (first | exact trivial | exact fun _ => rfl | exact rfl | refine And.intro ?_ ?_))
      refine drawP E_ok [5] pl7_3 (by kernel_rfl) ?_
      refine And.intro ?_ ?_
      · (repeat' (first | exact trivial | exact fun _ => rfl | exact rfl | refine And.intro ?_ ?_))
        all_goals first | omega | exact un (by omega)
      refine And.intro rfl ?_
      refine And.intro ?_ ?_
      · simp only [AllP, under, inR_iff, and_true, Int.toNat_zero, Nat.zero_add, e1]
        (repeat' refine And.intro ?_ ?_) <;> omega
      by_cases hn : t.tru = []
      · have e25 : t.depthT q bg = ⟨(0, 0), 10⟩ := by
          unfold TD.depthT
          rw [if_neg (fun h => h hv), if_neg (fun h => h ⟨hpl, mB⟩), if_pos ((all_nil hv).2 hn)]
        rw [e25, ← eB, ← hq] at c25
        rw [hn] at c26
        refine (c25).use [0, 1, 2, 3, 4] ?_ (by (repeat' (first | exact trivial | exact rfl | exact fun _ _ => rfl | exact Or.inl rfl | refine And.intro ?_ ?_))) rfl
        refine And.intro ?_ ?_
        · (repeat' (first | exact trivial | exact fun _ => rfl | exact rfl | refine And.intro ?_ ?_))
        refine (c26).use [0, 1, 2, 3, 4] ?_ (by (repeat' (first | exact trivial | exact rfl | exact fun _ _ => rfl | exact Or.inl rfl | refine And.intro ?_ ?_))) rfl
        refine And.intro ?_ (And.intro (fun h => ?_) (fun h => ?_))
        · (repeat' (first | exact True.intro | exact d1 _ | exact d1t _ | exact d2 _ | exact d3 _ _ | exact d3f _ _ | exact fun _ _ => rfl | exact fun _ => rfl | exact rfl | refine And.intro ?_ ?_))
        · exfalso
          simp at h
        refine And.intro ?_ (And.intro (fun h => ?_) (fun h => absurd h (by simp)))
        · (repeat' (first | exact True.intro | exact d1 _ | exact d1t _ | exact d2 _ | exact d3 _ _ | exact d3f _ _ | exact fun _ _ => rfl | exact fun _ => rfl | exact rfl | refine And.intro ?_ ?_))
        refine And.intro trivial ?_
        refine (t14).use [3, 4] ?_ (by (repeat' (first | exact trivial | exact rfl | exact fun _ _ => rfl | exact Or.inl rfl | refine And.intro ?_ ?_))) rfl
        refine And.intro trivial ?_
        exact ent_tau [0, 1, 2, 3, 4] ⟨by (repeat' (first | exact trivial | exact rfl | exact fun _ _ => rfl | exact Or.inl rfl | refine And.intro ?_ ?_)), by (repeat' (first | exact trivial | exact rfl | exact congrArg (SV.int .i64) (Int.natCast_succ _).symm | refine And.intro ?_ ?_)), rfl⟩
      · obtain ⟨lo, hi, hD⟩ := dep_is hv hn hq3 mB
        have e25 := hD.v
        rw [e25, ← eB, ← hq] at c25
        obtain ⟨x0, hx0, _⟩ := hD.lo
        have hbd := hD.bnd x0 hx0
        have hlo : 0 ≤ lo := by
          obtain ⟨x, hx, e⟩ := hD.lo
          have := (dep_range hv hq3 mB hx).1
          omega
        have hhi : hi ≤ 60 := by
          obtain ⟨x, hx, e⟩ := hD.hi
          have := (dep_range hv hq3 mB hx).2
          omega
        have hmany : 0 < t.tru.length := List.length_pos_iff.2 hn
        refine (c25).use [0, 1, 2, 3, 4] ?_ (by (repeat' (first | exact trivial | exact rfl | exact fun _ _ => rfl | exact Or.inl rfl | refine And.intro ?_ ?_))) rfl
        refine And.intro ?_ ?_
        · (repeat' (first | exact trivial | exact fun _ => rfl | exact rfl | refine And.intro ?_ ?_))
        refine (c26).use [0, 1, 2, 3, 4] ?_ (by (repeat' (first | exact trivial | exact rfl | exact fun _ _ => rfl | exact Or.inl rfl | refine And.intro ?_ ?_))) rfl
        refine And.intro ?_ (And.intro (fun h => ?_) (fun h => ?_))
        · (repeat' (first | exact True.intro | exact d1 _ | exact d1t _ | exact d2 _ | exact d3 _ _ | exact d3f _ _ | exact fun _ _ => rfl | exact fun _ => rfl | exact rfl | refine And.intro ?_ ?_))
        · exfalso
          simp [hn] at h
          try omega
        refine And.intro ?_ (And.intro (fun h => absurd h (by simp)) (fun h => ?_))
        · (repeat' (first | exact True.intro | exact d1 _ | exact d1t _ | exact d2 _ | exact d3 _ _ | exact d3f _ _ | exact fun _ _ => rfl | exact fun _ => rfl | exact rfl | refine And.intro ?_ ?_))
        refine And.intro ?_ (And.intro (fun h => ?_) (fun h => ?_))
        · (repeat' (first | exact True.intro | exact d1 _ | exact d1t _ | exact d2 _ | exact d3 _ _ | exact d3f _ _ | exact fun _ _ => rfl | exact fun _ => rfl | exact rfl | refine And.intro ?_ ?_))
        · exfalso
          simp at h
          omega
        refine And.intro ?_ ?_
        · (repeat' (first | exact trivial | exact fun _ => rfl | exact rfl | refine And.intro ?_ ?_))
          all_goals (dsimp only; omega)
        obtain ⟨A, hA⟩ : ∃ A : Int, (if lo - 1 > 0 then lo - 1 else 0) = A := ⟨_, rfl⟩
        have hA2 : 0 ≤ A ∧ A ≤ lo ∧ lo - 1 ≤ A := by
          rw [← hA]
          split <;> omega
        refine loopP E_ok [3, 4, 5, 10, 14] (fun g : Int × Int => [(11, .int .i64 q), (13, .int .i64 bg), (16, .int .i64 t.tru.length), (18, .int .i64 g.2), (19, .int .i64 g.1)]) (fun _ H => H)
          (fun g => A ≤ g.1 ∧ g.1 ≤ hi + 2 ∧ g.1 ≤ 61 ∧ g.2 = t.upTo bg q A g.1) (fun g => (62 - g.1).toNat) (A, 0) ⟨Int.le_refl _, by simp only; omega, by simp only; omega, by simp only; rw [upTo_none]; rfl⟩ ?_ ?_
        · refine ent_tau [0, 1, 2, 3, 4, 5, 6] ⟨by (repeat' (first | exact trivial | exact rfl | exact fun _ _ => rfl | exact Or.inl rfl | refine And.intro ?_ ?_)), ?_, rfl⟩
          (repeat' (first | exact trivial | exact rfl | exact congrArg (SV.int .i64) hq | exact congrArg (SV.int .i64) eB | exact congrArg (SV.int .i64) hA | refine And.intro ?_ ?_))
        · rintro ⟨n, sm⟩ ⟨hn1, hn2, hn3, hsm⟩
          simp only at hn1 hn2 hn3 hsm
          have hup := hasN hv bg q A n
          refine And.intro ?_ (And.intro (fun hc => ?_) (fun hc => ?_))
          · simp [AllP, under, gB, wB, inR_iff, IntKind.bits]
            omega
          · have hc2 : n ≤ hi + 1 ∧ n ≤ 60 := by
              simp at hc
              omega
            have hck := cnt_le6 hv bg q n
            have c26n := t26 t
            refine And.intro ?_ ?_
            · (repeat' (first | exact trivial | exact fun _ => rfl | exact rfl | refine And.intro ?_ ?_))
            refine drawP E_ok [5] pl7_17 (by kernel_rfl) ?_
            refine And.intro (And.intro ?_ ?_) trivial
            · (repeat' (first | exact trivial | exact fun _ => rfl | exact rfl | refine And.intro ?_ ?_))
            refine (t36 q bg n n).use [] ?_ (by (repeat' (first | exact trivial | exact rfl | exact fun _ _ => rfl | exact Or.inl rfl | refine And.intro ?_ ?_))) rfl
            refine And.intro (And.intro ?_ ?_) trivial
            · (repeat' (first | exact trivial | exact fun _ => rfl | exact rfl | refine And.intro ?_ ?_))
            refine CallP.frameH (t35 t (by omega) q bg n n) [0, 1, 2, 3, 4] (by (repeat' (first | exact trivial | exact rfl | exact fun _ _ => rfl | exact Or.inl rfl | refine And.intro ?_ ?_))) rfl ?_
            rintro ce h' ⟨cap, hc3, hc4, rfl, rfl⟩
            refine ⟨rfl, ?_⟩
            refine And.intro (And.intro ?_ ?_) trivial
            · (repeat' (first | exact trivial | exact fun _ => rfl | exact rfl | refine And.intro ?_ ?_))
            have c26 := t26 (t.plus q bg n n cap)
            rw [plus_cnt hv hL hq3 mB (by omega) (by omega) cap] at c26
            refine CallP.argsD (args' := [.agg [.osl t.bM 0 3 t.nM t.cM, .osl t.bS 1 2 t.nS t.cS, .osl true 7 4 (t.nL + 1) cap]]) (fun η => by simp [den, denL]) ?_
            refine (c26).use [0, 1, 7, 3, 4] ?_ (by (repeat' (first | exact trivial | exact rfl | exact fun _ _ => rfl | exact Or.inl rfl | refine And.intro ?_ ?_))) rfl
            refine And.intro ?_ ?_
            · (repeat' (first | exact trivial | exact fun _ => rfl | exact rfl | refine And.intro ?_ ?_))
            refine And.intro rfl ?_
            have hz1 : (n = lo ∨ n = hi) → ¬ ((t.cnt bg q n : Int) = 0) := fun h => by
              rcases h with rfl | rfl
              · have := cnt_pos.2 hD.lo
                omega
              · have := cnt_pos.2 hD.hi
                omega
            have hz2 : ¬ (lo ≤ n ∧ n ≤ hi) → (t.cnt bg q n : Int) = 0 := fun h => by
              have : t.cnt bg q n = 0 := cnt_zero.2 fun x hx e => h (by have := hD.bnd x hx; omega)
              omega
            have hX : (bif bif !decide ((0 : Int) = 0) then true else decide ((t.cnt bg q n : Int) < 0) then true else bif bif decide (n = lo) then true else decide (n = hi) then decide ((t.cnt bg q n : Int) = 0) else false) = false := by
              rw [decide_eq_false (show ¬ (t.cnt bg q n : Int) < 0 by omega)]
              by_cases h : n = lo ∨ n = hi
              · rw [decide_eq_false (hz1 h)]
                simp
              · rw [decide_eq_false (fun e => h (.inl e)), decide_eq_false (fun e => h (.inr e))]
                rfl
            have hX2 : gB none (wB false (bif bif !decide ((0 : Int) = 0) then true else decide ((t.cnt bg q n : Int) < 0) then true else bif bif decide (n = lo) then true else decide (n = hi) then decide ((t.cnt bg q n : Int) = 0) else false)) = true := by
              rw [hX]
              rfl
            refine And.intro ?_ (And.intro (fun hg => ?_) (fun hg => absurd (hX2.symm.trans hg) (by decide)))
            · (repeat' (first | exact True.intro | exact d1 _ | exact d1t _ | exact d2 _ | exact d3 _ _ | exact d3f _ _ | exact fun _ _ => rfl | exact fun _ => rfl | exact rfl | refine And.intro ?_ ?_))
            refine (t30 n lo hi).use [] ?_ (by (repeat' (first | exact trivial | exact rfl | exact fun _ _ => rfl | exact Or.inl rfl | refine And.intro ?_ ?_))) rfl
            refine And.intro ?_ (And.intro (fun h => ?_) (fun h => ?_))
            · (repeat' (first | exact True.intro | exact d1 _ | exact d1t _ | exact d2 _ | exact d3 _ _ | exact d3f _ _ | exact fun _ _ => rfl | exact fun _ => rfl | exact rfl | refine And.intro ?_ ?_))
            · have hY : (bif (bif bif !decide ((0 : Int) = 0) then true else decide ((t.cnt bg q n : Int) < 0) then true else bif bif decide (n = lo) then true else decide (n = hi) then decide ((t.cnt bg q n : Int) = 0) else false) then true else bif !(bif decide (lo ≤ n) then decide (n ≤ hi) else false) then !decide ((t.cnt bg q n : Int) = 0) else false) = false := by
                rw [hX]
                by_cases h : lo ≤ n ∧ n ≤ hi
                · rw [decide_eq_true h.1, decide_eq_true h.2]
                  rfl
                · rw [decide_eq_true (hz2 h)]
                  simp
              exact absurd (hY.symm.trans h) (by decide)
            refine And.intro ?_ ⟨(n + 1, sm + t.cnt bg q n), ⟨by simp only; omega, by simp only; omega, by simp only; omega, by simp only; rw [hsm, upTo_step hn1]; push_cast; rfl⟩, by simp only; omega, ?_⟩
            · simp only [AllP, under, inR_iff, and_true, true_and]
              (repeat' refine And.intro ?_ ?_) <;> omega
            · exact ent_tau [0, 1, 2, 3, 4, 5, 6] ⟨by (repeat' (first | exact trivial | exact rfl | exact fun _ _ => rfl | exact Or.inl rfl | refine And.intro ?_ ?_)), by (repeat' (first | exact trivial | exact rfl | exact congrArg (SV.int .i64) (Int.natCast_succ _).symm | refine And.intro ?_ ?_)), rfl⟩
          · have hc2 : n > hi + 1 ∨ n > 60 := by
              simp at hc
              omega
            have hall : t.upTo bg q A n = t.tru.length := upTo_all fun x hx => by
              have h1 := hD.bnd x hx
              have h2 := dep_range hv hq3 mB hx
              omega
            rw [hall] at hsm
            obtain ⟨low, el⟩ : ∃ x : Int, l.tmod 61 = x := ⟨_, rfl⟩
            have hl0 : 0 ≤ low := el ▸ Int.tmod_nonneg 61 hlr.1
            have hl1 : low < 61 := el ▸ Int.tmod_lt_of_pos l (by decide)
            have hq0 := Int.tmod_nonneg 10 hd.1
            have hq1 := Int.tmod_lt_of_pos d (show (0 : Int) < 10 by decide)
            obtain ⟨high, eh⟩ : ∃ x : Int, (if l.tmod 61 + d.tmod 10 < 60 then l.tmod 61 + d.tmod 10 else 60) = x := ⟨_, rfl⟩
            have hh0 : low ≤ high ∧ high ≤ 60 := by
              rw [← eh, ← el]
              rw [← el] at hl1
              split <;> omega
            obtain ⟨S, Pp, eP, hP⟩ := places_law hv hn mB (l := low) (h := high) ⟨hl0, by omega⟩ ⟨by omega, hh0.2⟩
            have c32 := t32 t bg low high
            rw [eP, ← el, ← eh] at c32
            refine And.intro ?_ ?_
            · (repeat' (first | exact trivial | exact fun _ => rfl | exact rfl | refine And.intro ?_ ?_))
            refine And.intro ?_ ?_
            · (repeat' (first | exact trivial | exact fun _ => rfl | exact rfl | refine And.intro ?_ ?_))
              all_goals first | omega | exact un (by decide)
            refine (c32).use [0, 1, 2, 3, 4] ?_ (by (repeat' (first | exact trivial | exact rfl | exact fun _ _ => rfl | exact Or.inl rfl | refine And.intro ?_ ?_))) rfl
            refine And.intro ?_ ?_
            · (repeat' (first | exact trivial | exact fun _ => rfl | exact rfl | refine And.intro ?_ ?_))
            refine cutP [5, 10, 11, 13, 16, 18, 24, 25, 26] [(22, .int .i64 low), (23, .int .i64 high)] (fun H => H) ?_ ?_
            · refine ent_tau [0, 1, 2, 3, 4, 5, 6] ⟨by (repeat' (first | exact trivial | exact rfl | exact fun _ _ => rfl | exact Or.inl rfl | refine And.intro ?_ ?_)), ?_, rfl⟩
              (repeat' (first | exact trivial | exact rfl | exact congrArg (SV.int .i64) el | exact congrArg (SV.int .i64) eh | refine And.intro ?_ ?_))
            refine drawP E_ok [5] pl7_24 (by kernel_rfl) ?_
            refine And.intro (And.intro ?_ ?_) trivial
            · (repeat' (first | exact trivial | exact fun _ => rfl | exact rfl | refine And.intro ?_ ?_))
            refine (t36 q bg low high).use [] ?_ (by (repeat' (first | exact trivial | exact rfl | exact fun _ _ => rfl | exact Or.inl rfl | refine And.intro ?_ ?_))) rfl
            refine And.intro (And.intro ?_ ?_) trivial
            · (repeat' (first | exact trivial | exact fun _ => rfl | exact rfl | refine And.intro ?_ ?_))
            refine CallP.frameH (t35 t (by omega) q bg low high) [0, 1, 2, 3, 4] (by (repeat' (first | exact trivial | exact rfl | exact fun _ _ => rfl | exact Or.inl rfl | refine And.intro ?_ ?_))) rfl ?_
            rintro ce h' ⟨cap, hc3, hc4, rfl, rfl⟩
            refine ⟨rfl, ?_⟩
            refine And.intro (And.intro ?_ ?_) trivial
            · (repeat' (first | exact trivial | exact fun _ => rfl | exact rfl | refine And.intro ?_ ?_))
            have c26 := t26 (t.plus q bg low high cap)
            rw [plus_count hv hL hq3 mB (by omega) hh0.1 hh0.2 cap] at c26
            refine CallP.argsD (args' := [.agg [.osl t.bM 0 3 t.nM t.cM, .osl t.bS 1 2 t.nS t.cS, .osl true 7 4 (t.nL + 1) cap]]) (fun η => by simp [den, denL]) ?_
            refine (c26).use [0, 1, 7, 3, 4] ?_ (by (repeat' (first | exact trivial | exact rfl | exact fun _ _ => rfl | exact Or.inl rfl | refine And.intro ?_ ?_))) rfl
            refine And.intro ?_ ?_
            · (repeat' (first | exact trivial | exact fun _ => rfl | exact rfl | refine And.intro ?_ ?_))
            refine And.intro rfl ?_
            have hF : (bif bif bif bif decide (sm = (t.tru.length : Int)) then decide ((0 : Int) = 0) else false then decide ((0 : Int) = 0) else false then (decide (bitOp .and .i64 ((bitsF S t.nS).fdiv (2 ^ ((q : Int)).toNat)) 1 = 1) == decide (((t.tru.filter fun x => inB (t.dep bg q x) low high).length : Int) = (t.tru.length : Int))) else false then (decide (bitOp .and .i64 ((bitsF Pp t.nS).fdiv (2 ^ ((q : Int)).toNat)) 1 = 1) == decide (((t.tru.filter fun x => inB (t.dep bg q x) low high).length : Int) > 0)) else false) = true := by
              have b1 := bitsF_bit S (show t.nS ≤ 4 by omega) hq3
              have b2 := bitsF_bit Pp (show t.nS ≤ 4 by omega) hq3
              rw [show ((q : Int)).toNat = q from Int.toNat_natCast q]
              obtain ⟨p1, p2⟩ := hP q hq3
              have g1 : decide (bitOp .and .i64 ((bitsF S t.nS).fdiv (2 ^ q)) 1 = 1) = decide (((t.tru.filter fun x => inB (t.dep bg q x) low high).length : Int) = (t.tru.length : Int)) := by
                rw [b1, Bool.eq_iff_iff, decide_eq_true_eq, decide_eq_true_eq]
                constructor
                · intro h
                  have : S q = true := by
                    cases hc : S q
                    · rw [hc] at h; simp at h
                    · rfl
                  have := p1.1 this
                  unfold TD.num at this
                  omega
                · intro h
                  have : S q = true := p1.2 (by unfold TD.num; omega)
                  rw [this]
                  rfl
              have g2 : decide (bitOp .and .i64 ((bitsF Pp t.nS).fdiv (2 ^ q)) 1 = 1) = decide (((t.tru.filter fun x => inB (t.dep bg q x) low high).length : Int) > 0) := by
                rw [b2, Bool.eq_iff_iff, decide_eq_true_eq, decide_eq_true_eq]
                constructor
                · intro h
                  have : Pp q = true := by
                    cases hc : Pp q
                    · rw [hc] at h; simp at h
                    · rfl
                  have := p2.1 this
                  unfold TD.num at this
                  omega
                · intro h
                  have : Pp q = true := p2.2 (by unfold TD.num; omega)
                  rw [this]
                  rfl
              rw [g1, g2, decide_eq_true hsm]
              simp
            refine And.intro ?_ (And.intro (fun hg => ?_) (fun hg => absurd (hF.symm.trans hg) (by decide)))
            · (repeat' (first | exact True.intro | exact d1 _ | exact d1t _ | exact d2 _ | exact d3 _ _ | exact d3f _ _ | exact fun _ _ => rfl | exact fun _ => rfl | exact rfl | refine And.intro ?_ ?_))
              all_goals first | exact d4 (show (q : Int) < 64 by omega) | exact un (show (q : Int) < 64 by omega) | exact d4 (by omega) | exact un (by omega)
            refine (t14).use [3, 4] ?_ (by (repeat' (first | exact trivial | exact rfl | exact fun _ _ => rfl | exact Or.inl rfl | refine And.intro ?_ ?_))) rfl
            refine And.intro ?_ ?_
            · (repeat' (first | exact True.intro | exact d1 _ | exact d1t _ | exact d2 _ | exact d3 _ _ | exact d3f _ _ | exact fun _ _ => rfl | exact fun _ => rfl | exact rfl | refine And.intro ?_ ?_))
            refine ent_tau [0, 1, 2, 3, 4] ⟨by (repeat' (first | exact trivial | exact rfl | exact fun _ _ => rfl | exact Or.inl rfl | refine And.intro ?_ ?_)), ?_, rfl⟩
            (repeat' (first | exact trivial | exact rfl | exact fun _ _ => rfl | exact Or.inl rfl | refine And.intro ?_ ?_))
            exact congrArg (fun z => SV.bool (bif z then true else false)) hF
  · have hl2 : decide (40 < max (max t.nM t.nS) t.nL) = true := by
      cases hc : decide (40 < max (max t.nM t.nS) t.nL)
      · rw [hc] at hl
        cases hl
      · rfl
    refine And.intro ?_ (And.intro (fun hb => ?_) (fun hb => ?_))
    · (repeat' (first | exact True.intro | exact d1 _ | exact d1t _ | exact d2 _ | exact d3 _ _ | exact d3f _ _ | exact fun _ _ => rfl | exact fun _ => rfl | exact rfl | refine And.intro ?_ ?_))
      all_goals exact fun h => absurd (h.symm.trans hl) (by decide)
    · refine And.intro trivial ?_
      refine (t14).use [3, 4] ?_ (by (repeat' (first | exact trivial | exact rfl | exact fun _ _ => rfl | exact Or.inl rfl | refine And.intro ?_ ?_))) rfl
      refine And.intro trivial ?_
      exact ent_tau [0, 1, 2, 3, 4] ⟨by (repeat' (first | exact trivial | exact rfl | exact fun _ _ => rfl | exact Or.inl rfl | refine And.intro ?_ ?_)), by (repeat' (first | exact trivial | exact rfl | exact congrArg (SV.int .i64) (Int.natCast_succ _).symm | refine And.intro ?_ ?_)), rfl⟩
    · rw [hl2] at hb
      cases hb
end Go.Proofs.YtipbempkngfdbaaDoor
