/-
  Parts: C3, F1, F2, F3, C8, Al, F4, C11.
-/
import Derived.Test.YtipbempkngfdbaaDoorK23
import Derived.Test.YtipbempkngfdbaaDoorK20
import Derived.Test.YtipbempkngfdbaaDoorK22
import Derived.Test.YtipbempkngfdbaaDoorK18
set_option linter.unusedVariables false
/-
  Contract: dipworkslaw01.TideMoves.
-/
namespace Go.Proofs.YtipbempkngfdbaaDoor
open Go Go.Sy
set_option linter.unusedSimpArgs false
set_option maxRecDepth 100000
set_option maxHeartbeats 4000000
attribute [local irreducible] CallP CodeP Ent YieldP

theorem un {p : Prop} (h : p) : under none p := h
theorem tell (t : TD) (m : Int) {lo hi e : Int} (h : t.height m = ⟨(lo, hi), e⟩) : CallP Tryd.prog 22 [t.A, .int .i64 m] t.HG (Ret (.tup [.agg [.int .i64 lo, .int .i64 hi], .int .i64 e]) t.HG) := by
  have h2 := t22 t m
  rw [h] at h2
  exact h2
theorem Hull.le {t : TD} {m lo hi : Int} (h : Hull t m lo hi) : lo ≤ hi := by
  obtain ⟨u, hu, _⟩ := h.lo
  have := h.bnd u hu
  omega
theorem d1 (x : Bool) : under none (x = false → (some (gB none (wB false x))).getD true = true) := fun h => by rw [h]; rfl
theorem d1t (x : Bool) : under none (x = true → (some (gB none (wB true x))).getD true = true) := fun h => by rw [h]; rfl
theorem d3 (g x : Bool) : under (some g) (x = true → (some (gB (some g) (wB true x))).getD true = true) := fun hg h => by rw [hg, h]; rfl
theorem d3f (g x : Bool) : under (some g) (x = false → (some (gB (some g) (wB false x))).getD true = true) := fun hg h => by rw [hg, h]; rfl
theorem d4 {g : Bool} {p : Prop} (h : p) : under (some g) p := fun _ => h
theorem d2 (g : Bool) : under (some g) (g = true) := fun h => h
theorem t9 (t : TD) (ht : t.ok) (w a : Int) (hw : 0 ≤ w ∧ w ≤ 255) (ha : 0 ≤ a ∧ a ≤ 255) : CallP Tryd.prog 9 [t.A, .int .u8 w, .int .u8 a] t.HG (Ret (.bool true) t.HG) := by
  refine callR (E := E) E_ok Tryd.func9 rfl ?_
  refine And.intro ?_ ?_
  · simp [AllP, under, gB, wB, inR_iff, IntKind.bits]
  refine (t33 t).use [0, 1, 2] ?_ (by (repeat' (first | exact trivial | exact rfl | exact fun _ _ => rfl | exact Or.inl rfl | refine And.intro ?_ ?_))) rfl
  refine And.intro ?_ (And.intro (fun hl => ?_) (fun hl => ?_))
  · simp [AllP, under, gB, wB, inR_iff, IntKind.bits]
  · refine (t34 t ht).use [0, 1, 2] ?_ (by (repeat' (first | exact trivial | exact rfl | exact fun _ _ => rfl | exact Or.inl rfl | refine And.intro ?_ ?_))) rfl
    refine And.intro ?_ (And.intro (fun hb => ?_) (fun hb => ?_))
    · simp [AllP, under, gB, wB, inR_iff, IntKind.bits]
    · refine And.intro trivial ?_
      refine (t14).use [3, 4] ?_ (by (repeat' (first | exact trivial | exact rfl | exact fun _ _ => rfl | exact Or.inl rfl | refine And.intro ?_ ?_))) rfl
      refine And.intro trivial ?_
      exact ent_tau [0, 1, 2, 3, 4] ⟨by (repeat' (first | exact trivial | exact rfl | exact fun _ _ => rfl | exact Or.inl rfl | refine And.intro ?_ ?_)), by (repeat' (first | exact trivial | exact rfl | exact congrArg (SV.int .i64) (Int.natCast_succ _).symm | refine And.intro ?_ ?_)), rfl⟩
    · have hv : t.Valid := by
        cases hc : decide (40 < max (max t.nM t.nS) t.nL)
        · rw [hc] at hb
          have hb2 : (!t.valid) = false := hb
          simpa [TD.valid] using hb2
        · rw [hc] at hb
          cases hb
      have hM := hv.1
      have hq0 := Int.tmod_nonneg ((t.nM : Int) - 1) hw.1
      have hq1 := Int.tmod_lt_of_pos w (show 0 < (t.nM : Int) - 1 by omega)
      obtain ⟨j, ej⟩ : ∃ j : Nat, 1 + w.tmod ((t.nM : Int) - 1) = j := ⟨(1 + w.tmod ((t.nM : Int) - 1)).toNat, by omega⟩
      have hj1 : 1 ≤ j := by omega
      have hj : j < t.nM := by omega
      have e1 : 0 + ((j : Int) - 1).toNat = j - 1 := by omega
      have e2 : 0 + ((j : Int)).toNat = j := by omega
      refine And.intro ?_ ?_
      · simp only [AllP, under, inR_iff, and_true]
        refine ⟨?_, ?_, ?_, ?_⟩ <;> intros <;> omega
      refine cutP [] [(2, .int .u8 a), (3, .ptr 5 0), (6, .bool false), (7, .int .i64 j)] (fun _ => [some (.roa 3 t.nM (row3 t.mi t.mlo t.mhi)), some (.roa 2 t.nS (row2 t.slo t.shi)), some (.roa 4 t.nL (row4 t.lp t.lm t.llo t.lhi)), some (.glob 0 [.int .i64 0, .int .i64 1, .int .i64 3, .int .i64 6, .int .i64 9, .int .i64 11, .int .i64 12]), some db, some (.cells [.osl t.bM 0 3 t.nM t.cM, .osl t.bS 1 2 t.nS t.cS, .osl t.bL 2 4 t.nL t.cL])]) ?_ ?_
      · refine ent_tau [0, 1, 2, 3, 4, 5] ⟨by (repeat' (first | exact trivial | exact rfl | exact fun _ _ => rfl | exact Or.inl rfl | refine And.intro ?_ ?_)), ?_, rfl⟩
        (repeat' (first | exact trivial | exact rfl | exact congrArg (SV.int .i64) ej | refine And.intro ?_ ?_))
      refine drawP E_ok [5] pl9_4 (by kernel_rfl) ?_
      refine have main : (?X : Prop) := ?Y; ?_
      rotate_right
      · (repeat' (first | exact True.intro | exact fun _ => rfl | exact rfl | refine And.intro ?_ ?_))
        all_goals try (clear main; first | exact un (by omega) | omega)
        · refine cutP [] [(2, .int .u8 a), (3, .ptr 5 0), (6, .bool false), (7, .int .i64 j), (8, .ptr 6 0), (9, .ptr 7 0)] (fun _ => [some (.roa 3 t.nM (row3 t.mi t.mlo t.mhi)), some (.roa 2 t.nS (row2 t.slo t.shi)), some (.roa 4 t.nL (row4 t.lp t.lm t.llo t.lhi)), some (.glob 0 [.int .i64 0, .int .i64 1, .int .i64 3, .int .i64 6, .int .i64 9, .int .i64 11, .int .i64 12]), some db, some (.cells [.osl t.bM 0 3 t.nM t.cM, .osl t.bS 1 2 t.nS t.cS, .osl t.bL 2 4 t.nL t.cL]), some (.cells [.int .i64 (t.mi (j - 1)), .int .i64 (t.mlo (j - 1)), .int .i64 (t.mhi (j - 1))]), some (.cells [.int .i64 (t.mi j), .int .i64 (t.mlo j), .int .i64 (t.mhi j)])]) ?_ ?_
          · refine ent_tau [0, 1, 2, 3, 4, 5, 6, 7] ⟨?_, by (repeat' (first | exact trivial | exact rfl | exact congrArg (SV.int .i64) (Int.natCast_succ _).symm | refine And.intro ?_ ?_)), rfl⟩
            (repeat' (first | exact trivial | exact rfl | exact fun _ _ => rfl | exact Or.inl rfl | refine And.intro ?_ ?_))
            · rw [e1]
              rfl
            · rw [e2]
              rfl
          exact main
        · refine cutP [] [(2, .int .u8 a), (3, .ptr 5 0), (6, .bool false), (7, .int .i64 j), (8, .ptr 6 0), (9, .ptr 7 0)] (fun _ => [some (.roa 3 t.nM (row3 t.mi t.mlo t.mhi)), some (.roa 2 t.nS (row2 t.slo t.shi)), some (.roa 4 t.nL (row4 t.lp t.lm t.llo t.lhi)), some (.glob 0 [.int .i64 0, .int .i64 1, .int .i64 3, .int .i64 6, .int .i64 9, .int .i64 11, .int .i64 12]), some db, some (.cells [.osl t.bM 0 3 t.nM t.cM, .osl t.bS 1 2 t.nS t.cS, .osl t.bL 2 4 t.nL t.cL]), some (.cells [.int .i64 (t.mi (j - 1)), .int .i64 (t.mlo (j - 1)), .int .i64 (t.mhi (j - 1))]), some (.cells [.int .i64 (t.mi j), .int .i64 (t.mlo j), .int .i64 (t.mhi j)])]) ?_ ?_
          · refine ent_tau [0, 1, 2, 3, 4, 5, 7, 6] ⟨?_, by (repeat' (first | exact trivial | exact rfl | exact congrArg (SV.int .i64) (Int.natCast_succ _).symm | refine And.intro ?_ ?_)), rfl⟩
            (repeat' (first | exact trivial | exact rfl | exact fun _ _ => rfl | exact Or.inl rfl | refine And.intro ?_ ?_))
            · rw [e1]
              rfl
            · rw [e2]
              rfl
          exact main
      have st := hv.step (i := j) (by omega) hj
      have mk1 := hv.marks (i := j - 1) (by omega)
      have mk2 := hv.marks (i := j) hj
      simp only [TD.markOk] at mk1 mk2
      have r0 := Int.tmod_nonneg (t.mi j - t.mi (j - 1)) ha.1
      have r1 := Int.tmod_lt_of_pos a (show 0 < t.mi j - t.mi (j - 1) by omega)
      refine drawP E_ok [6, 7] pl9_5 (by kernel_rfl) ?_
      refine And.intro ?_ ?_
      · simp only [AllP, under, inR_iff, and_true]
        refine ⟨?_, ?_, ?_, ?_⟩ <;> omega
      refine And.intro rfl ?_
      have mA : ∀ m : Int, t.mi (j - 1) ≤ m → m ≤ t.mi j → t.isMin m := fun m h1 h2 => ⟨Int.le_trans (mi_le hv (Nat.zero_le _) (by omega)) h1, Int.le_trans h2 (mi_le hv (by omega) (by omega))⟩
      have mS : t.isMin ((t.mi (j - 1) + a.tmod (t.mi j - t.mi (j - 1)))) := mA _ (by omega) (by omega)
      have mN : t.isMin ((t.mi (j - 1) + a.tmod (t.mi j - t.mi (j - 1))) + 1) := mA _ (by omega) (by omega)
      have mX : t.isMin (t.mi (j - 1)) := mA _ (by omega) (by omega)
      have mY : t.isMin (t.mi j) := mA _ (by omega) (by omega)
      by_cases hn : t.all = []
      · have eZ : ∀ m, t.isMin m → t.height m = ⟨(0, 0), 10⟩ := fun m hm => by unfold TD.height; rw [if_neg (fun h => h hv), if_neg (fun h => h hm), if_pos hn]
        have cS := tell t ((t.mi (j - 1) + a.tmod (t.mi j - t.mi (j - 1)))) (eZ _ mS)
        have cN := tell t ((t.mi (j - 1) + a.tmod (t.mi j - t.mi (j - 1))) + 1) (eZ _ mN)
        have cX := tell t (t.mi (j - 1)) (eZ _ mX)
        have cY := tell t (t.mi j) (eZ _ mY)
        refine And.intro ?_ ?_
        · simp [AllP, under, gB, wB, inR_iff, IntKind.bits]
          first | done | omega
        refine (cS).use [0, 1, 2, 3, 4] ?_ (by (repeat' (first | exact trivial | exact rfl | exact fun _ _ => rfl | exact Or.inl rfl | refine And.intro ?_ ?_))) rfl
        refine And.intro ?_ ?_
        · simp [AllP, under, gB, wB, inR_iff, IntKind.bits]
          first | done | omega
        refine (cN).use [0, 1, 2, 3, 4] ?_ (by (repeat' (first | exact trivial | exact rfl | exact fun _ _ => rfl | exact Or.inl rfl | refine And.intro ?_ ?_))) rfl
        refine And.intro ?_ ?_
        · simp [AllP, under, gB, wB, inR_iff, IntKind.bits]
          first | done | omega
        refine (cX).use [0, 1, 2, 3, 4] ?_ (by (repeat' (first | exact trivial | exact rfl | exact fun _ _ => rfl | exact Or.inl rfl | refine And.intro ?_ ?_))) rfl
        refine And.intro ?_ ?_
        · simp [AllP, under, gB, wB, inR_iff, IntKind.bits]
          first | done | omega
        refine (cY).use [0, 1, 2, 3, 4] ?_ (by (repeat' (first | exact trivial | exact rfl | exact fun _ _ => rfl | exact Or.inl rfl | refine And.intro ?_ ?_))) rfl
        refine And.intro ?_ ?_
        · simp [AllP, under, gB, wB, inR_iff, IntKind.bits]
          first | done | omega
        refine And.intro (fun h => absurd h (by decide)) (fun _ => ?_)
        refine And.intro ?_ (And.intro (fun h => ?_) (fun h => absurd h (by decide)))
        · simp [AllP, under, gB, wB, inR_iff, IntKind.bits]
        refine And.intro ?_ (And.intro (fun h => ?_) (fun h => absurd h (by decide)))
        · (repeat' (first | exact trivial | exact fun _ => rfl | exact rfl | refine And.intro ?_ ?_))
        refine (t14).use [3, 4] ?_ (by (repeat' (first | exact trivial | exact rfl | exact fun _ _ => rfl | exact Or.inl rfl | refine And.intro ?_ ?_))) rfl
        refine And.intro ?_ ?_
        · (repeat' (first | exact trivial | exact fun _ => rfl | exact rfl | refine And.intro ?_ ?_))
        exact ent_tau [0, 1, 2, 3, 4] ⟨by (repeat' (first | exact trivial | exact rfl | exact fun _ _ => rfl | exact Or.inl rfl | refine And.intro ?_ ?_)), by (repeat' (first | exact trivial | exact rfl | exact congrArg (SV.int .i64) (Int.natCast_succ _).symm | refine And.intro ?_ ?_)), rfl⟩
      · obtain ⟨sl, sh, hS⟩ := hull hv hn mS
        obtain ⟨nl, nh, hN⟩ := hull hv hn mN
        obtain ⟨xl, xh, hX⟩ := hull hv hn mX
        obtain ⟨yl, yh, hY⟩ := hull hv hn mY
        have cS := tell t ((t.mi (j - 1) + a.tmod (t.mi j - t.mi (j - 1)))) hS.v
        have cN := tell t ((t.mi (j - 1) + a.tmod (t.mi j - t.mi (j - 1))) + 1) hN.v
        have cX := tell t (t.mi (j - 1)) hX.v
        have cY := tell t (t.mi j) hY.v
        refine And.intro ?_ ?_
        · simp [AllP, under, gB, wB, inR_iff, IntKind.bits]
          first | done | omega
        refine (cS).use [0, 1, 2, 3, 4] ?_ (by (repeat' (first | exact trivial | exact rfl | exact fun _ _ => rfl | exact Or.inl rfl | refine And.intro ?_ ?_))) rfl
        refine And.intro ?_ ?_
        · simp [AllP, under, gB, wB, inR_iff, IntKind.bits]
          first | done | omega
        refine (cN).use [0, 1, 2, 3, 4] ?_ (by (repeat' (first | exact trivial | exact rfl | exact fun _ _ => rfl | exact Or.inl rfl | refine And.intro ?_ ?_))) rfl
        refine And.intro ?_ ?_
        · simp [AllP, under, gB, wB, inR_iff, IntKind.bits]
          first | done | omega
        refine (cX).use [0, 1, 2, 3, 4] ?_ (by (repeat' (first | exact trivial | exact rfl | exact fun _ _ => rfl | exact Or.inl rfl | refine And.intro ?_ ?_))) rfl
        refine And.intro ?_ ?_
        · simp [AllP, under, gB, wB, inR_iff, IntKind.bits]
          first | done | omega
        refine (cY).use [0, 1, 2, 3, 4] ?_ (by (repeat' (first | exact trivial | exact rfl | exact fun _ _ => rfl | exact Or.inl rfl | refine And.intro ?_ ?_))) rfl
        refine And.intro ?_ ?_
        · simp [AllP, under, gB, wB, inR_iff, IntKind.bits]
          first | done | omega
        refine And.intro (fun h => absurd h (by decide)) (fun _ => ?_)
        refine And.intro ?_ (And.intro (fun h => absurd h (by decide)) (fun h => ?_))
        · simp [AllP, under, gB, wB, inR_iff, IntKind.bits]
        have hm := moves hv hj1 hj (by omega) (by omega) hS hN hX hY
        obtain ⟨m1, m2, m3, m4, m5⟩ := hm
        refine And.intro ?_ (And.intro (fun h => ?_) (fun h => ?_))
        · (repeat' (first | exact True.intro | exact d1 _ | exact d1t _ | exact d2 _ | exact d3 _ _ | exact d3f _ _ | exact fun _ _ => rfl | exact fun _ => rfl | exact rfl | refine And.intro ?_ ?_))
        · exfalso
          simp at h
          omega
        refine And.intro ?_ (And.intro (fun h => ?_) (fun h => ?_))
        · (repeat' (first | exact True.intro | exact d1 _ | exact d1t _ | exact d2 _ | exact d3 _ _ | exact d3f _ _ | exact fun _ _ => rfl | exact fun _ => rfl | exact rfl | refine And.intro ?_ ?_))
        · exfalso
          simp at h
          omega
        refine And.intro ?_ (And.intro (fun h => ?_) (fun h => ?_))
        · simp [AllP, under, gB, wB, inR_iff, IntKind.bits]
          omega
        · have h2 : (t.mi j - t.mi (j - 1)) % 2 = 0 := by
            have h3 : (t.mi j - t.mi (j - 1)).tmod 2 = 0 := by simpa using h
            rwa [Int.tmod_eq_emod_of_nonneg (by omega)] at h3
          have e3 : (t.mi (j - 1) + t.mi j).tdiv 2 = (t.mi (j - 1) + t.mi j) / 2 := Int.tdiv_eq_ediv_of_nonneg (by omega)
          have mK : t.isMin ((t.mi (j - 1) + t.mi j).tdiv 2) := mA _ (by omega) (by omega)
          obtain ⟨kl, kh, hK⟩ := hull hv hn mK
          have cK := tell t ((t.mi (j - 1) + t.mi j).tdiv 2) hK.v
          obtain ⟨g1, g2⟩ := movesHalf hv hj1 hj (by omega) hK hX hY
          have lX := hX.le
          have lY := hY.le
          have e4 : (xl + yl).tdiv 2 = (xl + yl) / 2 := Int.tdiv_eq_ediv_of_nonneg (by omega)
          have e5 : (xh + yh).tdiv 2 = (xh + yh) / 2 := Int.tdiv_eq_ediv_of_nonneg (by omega)
          refine And.intro ?_ ?_
          · simp [AllP, under, gB, wB, inR_iff, IntKind.bits]
            omega
          refine (cK).use [0, 1, 2, 3, 4] ?_ (by (repeat' (first | exact trivial | exact rfl | exact fun _ _ => rfl | exact Or.inl rfl | refine And.intro ?_ ?_))) rfl
          refine And.intro ?_ (And.intro (fun h => ?_) (fun h => ?_))
          · (repeat' (first | exact True.intro | exact d1 _ | exact d1t _ | exact d2 _ | exact d3 _ _ | exact d3f _ _ | exact fun _ _ => rfl | exact fun _ => rfl | exact rfl | refine And.intro ?_ ?_))
            all_goals first | omega | exact un (by omega) | exact d4 (by omega) | exact d4 ((inR_iff _).2 ⟨by omega, by omega⟩)
          · exfalso
            simp [e4, e5] at h
            omega
          refine And.intro trivial ?_
          refine (t14).use [3, 4] ?_ (by (repeat' (first | exact trivial | exact rfl | exact fun _ _ => rfl | exact Or.inl rfl | refine And.intro ?_ ?_))) rfl
          refine And.intro trivial ?_
          exact ent_tau [0, 1, 2, 3, 4] ⟨by (repeat' (first | exact trivial | exact rfl | exact fun _ _ => rfl | exact Or.inl rfl | refine And.intro ?_ ?_)), by (repeat' (first | exact trivial | exact rfl | exact congrArg (SV.int .i64) (Int.natCast_succ _).symm | refine And.intro ?_ ?_)), rfl⟩
        · refine And.intro trivial ?_
          refine (t14).use [3, 4] ?_ (by (repeat' (first | exact trivial | exact rfl | exact fun _ _ => rfl | exact Or.inl rfl | refine And.intro ?_ ?_))) rfl
          refine And.intro trivial ?_
          exact ent_tau [0, 1, 2, 3, 4] ⟨by (repeat' (first | exact trivial | exact rfl | exact fun _ _ => rfl | exact Or.inl rfl | refine And.intro ?_ ?_)), by (repeat' (first | exact trivial | exact rfl | exact congrArg (SV.int .i64) (Int.natCast_succ _).symm | refine And.intro ?_ ?_)), rfl⟩
  · have hl2 : decide (40 < max (max t.nM t.nS) t.nL) = true := by
      cases hc : decide (40 < max (max t.nM t.nS) t.nL)
      · rw [hc] at hl
        cases hl
      · rfl
    refine And.intro ?_ (And.intro (fun hb => ?_) (fun hb => ?_))
    · (repeat' (first | exact True.intro | exact d1 _ | exact d1t _ | exact d2 _ | exact d3 _ _ | exact d3f _ _ | exact fun _ _ => rfl | exact fun _ => rfl | exact rfl | refine And.intro ?_ ?_))
      exact fun h => absurd (h.symm.trans hl) (by decide)
    · refine And.intro trivial ?_
      refine (t14).use [3, 4] ?_ (by (repeat' (first | exact trivial | exact rfl | exact fun _ _ => rfl | exact Or.inl rfl | refine And.intro ?_ ?_))) rfl
      refine And.intro trivial ?_
      exact ent_tau [0, 1, 2, 3, 4] ⟨by (repeat' (first | exact trivial | exact rfl | exact fun _ _ => rfl | exact Or.inl rfl | refine And.intro ?_ ?_)), by (repeat' (first | exact trivial | exact rfl | exact congrArg (SV.int .i64) (Int.natCast_succ _).symm | refine And.intro ?_ ?_)), rfl⟩
    · rw [hl2] at hb
      cases hb
end Go.Proofs.YtipbempkngfdbaaDoor
/-
  Contract: the draws of TideTrue.
-/
namespace Go.Proofs.YtipbempkngfdbaaDoor
open Go Go.Sy
set_option linter.unusedSimpArgs false
set_option maxRecDepth 100000
set_option maxHeartbeats 4000000
attribute [local irreducible] CallP CodeP Ent YieldP

/-- The numbers that are drawn from: a counter, and a slice in a box. -/
def HD (b : Bool) (n cap : Nat) (by' : Nat → Int) (c : Int) : SHeap := [some (.cells [.int .i64 c]), some (.roc [.osl b 2 1 n cap]), some (.roa 1 n fun k => [.int .u16 (by' k)])]
theorem t81 (b : Bool) (n cap : Nat) (by' : Nat → Int) (hby : ∀ k, 0 ≤ by' k ∧ by' k ≤ 65535) (hn : n ≤ 9223372036854775807) (c : Int) (hc : 0 ≤ c ∧ c ≤ 1000000) (m : Int) (hm : 1 ≤ m ∧ m ≤ 1000) :
    CallP Tryd.prog 81 [.int .i64 m, .ptr 0 0, .ptr 1 0] (HD b n cap by' c) (fun ce h' => ∃ v : Int, 0 ≤ v ∧ v < m ∧ ce = .ret (.int .i64 v) ∧ h' = HD b n cap by' (c + 1)) := by
  refine callK (E := E) E_ok Tryd.func81 rfl ?_
  refine And.intro ?_ (And.intro (fun h => ?_) (fun h => ?_))
  · (repeat' (first | exact trivial | exact fun _ => rfl | exact rfl | refine And.intro ?_ ?_))
    all_goals omega
  · have r0 := Int.tmod_nonneg m (show 0 ≤ c + 1 by omega)
    have r1 := Int.tmod_lt_of_pos (c + 1) (show 0 < m by omega)
    refine And.intro ?_ ?_
    · (repeat' (first | exact trivial | exact fun _ => rfl | exact rfl | refine And.intro ?_ ?_))
      all_goals exact un (by omega)
    refine ⟨_, _, ⟨(c + 1).tmod m, r0, r1, rfl, rfl⟩, ?_⟩
    exact ent_tau [0, 1, 2] ⟨by (repeat' (first | exact trivial | exact rfl | exact fun _ _ => rfl | exact Or.inl rfl | refine And.intro ?_ ?_)), by (repeat' (first | exact trivial | exact rfl | exact congrArg (SV.int .i64) (Int.natCast_succ _).symm | refine And.intro ?_ ?_)), rfl⟩
  · have hn0 : n ≠ 0 := fun e => by
      subst e
      exact absurd h (by decide)
    have j0 := Int.tmod_nonneg (n : Int) (show 0 ≤ c + 1 by omega)
    have j1 := Int.tmod_lt_of_pos (c + 1) (show 0 < (n : Int) by omega)
    have hb1 := hby (0 + ((c + 1).tmod (n : Int)).toNat)
    have r0 := Int.tmod_nonneg m (show 0 ≤ by' (0 + ((c + 1).tmod (n : Int)).toNat) + 67 * (c + 1) by omega)
    have r1 := Int.tmod_lt_of_pos (by' (0 + ((c + 1).tmod (n : Int)).toNat) + 67 * (c + 1)) (show 0 < m by omega)
    refine And.intro ?_ ?_
    · (repeat' (first | exact trivial | exact fun _ => rfl | exact rfl | refine And.intro ?_ ?_))
    refine drawP E_ok [0] pl81_4 (by kernel_rfl) ?_
    refine And.intro ?_ ?_
    · (repeat' (first | exact True.intro | exact d1 _ | exact d1t _ | exact d2 _ | exact d3 _ _ | exact d3f _ _ | exact fun _ _ => rfl | exact fun _ => rfl | exact rfl | refine And.intro ?_ ?_))
      all_goals first | omega | exact un (by omega) | exact un ((inR_iff _).2 ⟨by omega, by omega⟩)
    refine And.intro rfl ?_
    refine And.intro trivial ?_
    refine ⟨_, _, ⟨(by' (0 + ((c + 1).tmod (n : Int)).toNat) + 67 * (c + 1)).tmod m, r0, r1, rfl, rfl⟩, ?_⟩
    exact ent_tau [0, 1, 2] ⟨by (repeat' (first | exact trivial | exact rfl | exact fun _ _ => rfl | exact Or.inl rfl | refine And.intro ?_ ?_)), by (repeat' (first | exact trivial | exact rfl | exact congrArg (SV.int .i64) (Int.natCast_succ _).symm | refine And.intro ?_ ?_)), rfl⟩
/-- The same, and a box that holds the function that draws. -/
def HDf (b : Bool) (n cap : Nat) (by' : Nat → Int) (c : Int) : SHeap := HD b n cap by' c ++ [some (.roc [.fn (.func 81) [] [.ptr 0 0, .ptr 1 0]])]
theorem t82 (b : Bool) (n cap : Nat) (by' : Nat → Int) (hby : ∀ k, 0 ≤ by' k ∧ by' k ≤ 65535) (hn : n ≤ 9223372036854775807) (c : Int) (hc : 0 ≤ c ∧ c ≤ 999000) (x : Int) (hx : 0 ≤ x ∧ x ≤ 60) :
    CallP Tryd.prog 82 [.int .i64 x, .ptr 3 0] (HDf b n cap by' c) (fun ce h' => ∃ lo hi : Int, (0 ≤ lo ∧ lo ≤ x ∧ x ≤ hi ∧ hi ≤ 60 ∧ hi - lo ≤ 2) ∧ ce = .ret (.agg [.int .i64 lo, .int .i64 hi]) ∧ h' = HDf b n cap by' (c + 2)) := by
  refine callK (E := E) E_ok Tryd.func82 rfl ?_
  refine And.intro ?_ ?_
  · (repeat' (first | exact trivial | exact fun _ => rfl | exact rfl | refine And.intro ?_ ?_))
  refine CallP.frameH (t81 b n cap by' hby hn c (by omega) 2 (by decide)) [0, 1, 2] (by (repeat' (first | exact trivial | exact rfl | exact fun _ _ => rfl | exact Or.inl rfl | refine And.intro ?_ ?_))) rfl ?_
  rintro ce h' ⟨v, hv0, hv1, rfl, rfl⟩
  refine ⟨rfl, ?_⟩
  obtain ⟨lo, elo⟩ : ∃ lo : Int, (if x - v > 0 then x - v else 0) = lo := ⟨_, rfl⟩
  have hlo : 0 ≤ lo ∧ lo ≤ x ∧ x - lo ≤ 1 := by
    rw [← elo]
    split <;> omega
  refine And.intro ?_ ?_
  · (repeat' (first | exact trivial | exact fun _ => rfl | exact rfl | refine And.intro ?_ ?_))
    all_goals omega
  have cd := t81 b n cap by' hby hn (c + 1) (by omega) (3 - (x - lo)) (by omega)
  rw [← elo] at cd
  refine CallP.frameH cd [0, 1, 2] (by (repeat' (first | exact trivial | exact rfl | exact fun _ _ => rfl | exact Or.inl rfl | refine And.intro ?_ ?_))) rfl ?_
  rintro ce h' ⟨u, hu0, hu1, rfl, rfl⟩
  refine ⟨rfl, ?_⟩
  obtain ⟨hi, ehi⟩ : ∃ hi : Int, (if x + u < 60 then x + u else 60) = hi := ⟨_, rfl⟩
  have hhi : x ≤ hi ∧ hi ≤ 60 ∧ hi ≤ x + u := by
    rw [← ehi]
    split <;> omega
  have c24 := t24 lo hi
  rw [← elo, ← ehi] at c24
  refine And.intro ?_ ?_
  · (repeat' (first | exact trivial | exact fun _ => rfl | exact rfl | refine And.intro ?_ ?_))
    all_goals omega
  refine (c24).use [] ?_ (by (repeat' (first | exact trivial | exact rfl | exact fun _ _ => rfl | exact Or.inl rfl | refine And.intro ?_ ?_))) rfl
  refine And.intro ?_ ⟨_, _, ⟨lo, hi, ⟨hlo.1, hlo.2.1, hhi.1, hhi.2.1, by omega⟩, rfl, rfl⟩, ?_⟩
  · (repeat' (first | exact trivial | exact fun _ => rfl | exact rfl | refine And.intro ?_ ?_))
  refine ent_tau [0, 1, 2, 3] ⟨?_, ?_, rfl⟩
  · (repeat' (first | exact trivial | exact rfl | exact fun _ _ => rfl | exact Or.inl rfl | refine And.intro ?_ ?_))
    exact congrArg (fun z => [SV.int .i64 z]) (show c + 1 + 1 = c + 2 by omega)
  · refine ⟨rfl, ?_, trivial⟩
    rw [← elo, ← ehi]
    rfl
end Go.Proofs.YtipbempkngfdbaaDoor
/-
  The plain law of stands: sixth by sixth.
-/
namespace Go.Proofs.YtipbempkngfdbaaDoor
open Go Go.Sy
set_option maxRecDepth 100000
set_option maxHeartbeats 4000000

def stepL : List Int := [1, 2, 3, 3, 2, 1]
/-- How much time of a sixth is taken. -/
def stp (lg l : Int) : Int := if lg < l then lg else l
/-- How far the water has moved behind k sixths, and how much time is left. -/
def mvK (lg d : Int) : Nat → Int × Int
  | 0 => (0, 6 * d)
  | k + 1 => ((mvK lg d k).1 + stepL.getD k 0 * stp lg (mvK lg d k).2, (mvK lg d k).2 - stp lg (mvK lg d k).2)
theorem mvK_moved {lg d : Int} (hl : 0 < lg) (h0 : 0 ≤ d) (h1 : d ≤ lg) : (mvK lg d 6).1 = moved lg d := by
  have e := Int.mul_ediv_add_emod (6 * d) lg
  have r0 := Int.emod_nonneg (6 * d) (b := lg) (by omega)
  have r1 := Int.emod_lt_of_pos (6 * d) hl
  have q0 := Int.ediv_nonneg (show 0 ≤ 6 * d by omega) (show 0 ≤ lg by omega)
  have q6 : 6 * d / lg ≤ 6 := Int.ediv_le_of_le_mul hl (by omega)
  unfold moved
  generalize 6 * d / lg = q at *
  generalize 6 * d % lg = r at *
  have hq : q = 0 ∨ q = 1 ∨ q = 2 ∨ q = 3 ∨ q = 4 ∨ q = 5 ∨ q = 6 := by omega
  have st : ∀ l : Int, ∃ a, stp lg l = a ∧ ((lg < l ∧ a = lg) ∨ (l ≤ lg ∧ a = l)) := fun l => by
    unfold stp; by_cases h : lg < l
    · exact ⟨lg, if_pos h, .inl ⟨h, rfl⟩⟩
    · exact ⟨l, if_neg h, .inr ⟨by omega, rfl⟩⟩
  simp only [mvK, stepL, List.getD_cons_zero, List.getD_cons_succ]
  obtain ⟨a0, e0, c0⟩ := st (6 * d)
  rw [e0]
  obtain ⟨a1, e1, c1⟩ := st (6 * d - a0)
  rw [e1]
  obtain ⟨a2, e2, c2⟩ := st (6 * d - a0 - a1)
  rw [e2]
  obtain ⟨a3, e3, c3⟩ := st (6 * d - a0 - a1 - a2)
  rw [e3]
  obtain ⟨a4, e4, c4⟩ := st (6 * d - a0 - a1 - a2 - a3)
  rw [e4]
  obtain ⟨a5, e5, c5⟩ := st (6 * d - a0 - a1 - a2 - a3 - a4)
  rw [e5]
  clear st e0 e1 e2 e3 e4 e5
  have t0 : tw 0 = 0 := by decide
  have t1 : tw 1 = 1 := by decide
  have t2 : tw 2 = 3 := by decide
  have t3 : tw 3 = 6 := by decide
  have t4 : tw 4 = 9 := by decide
  have t5 : tw 5 = 11 := by decide
  have t6 : tw 6 = 12 := by decide
  have t7 : tw 7 = 12 := by decide
  rcases hq with rfl | rfl | rfl | rfl | rfl | rfl | rfl
  · rw [show (0:Int) + 1 = 1 from rfl, t0, t1]; omega
  · rw [show (1:Int) + 1 = 2 from rfl, t1, t2]; omega
  · rw [show (2:Int) + 1 = 3 from rfl, t2, t3]; omega
  · rw [show (3:Int) + 1 = 4 from rfl, t3, t4]; omega
  · rw [show (4:Int) + 1 = 5 from rfl, t4, t5]; omega
  · rw [show (5:Int) + 1 = 6 from rfl, t5, t6]; omega
  · rw [show (6:Int) + 1 = 7 from rfl, t6, t7]; omega
end Go.Proofs.YtipbempkngfdbaaDoor
/-
  Contract: stands: how high the water stands, sixth by sixth.
-/
namespace Go.Proofs.YtipbempkngfdbaaDoor
open Go Go.Sy
set_option linter.unusedSimpArgs false
set_option maxRecDepth 100000
set_option maxHeartbeats 4000000
attribute [local irreducible] CallP CodeP Ent YieldP

theorem nx_is {t : TD} (hv : t.Valid) {m : Int} (hm : t.isMin m) {i : Nat} (h1 : 1 ≤ i) (hi : i < t.nM) (hb : m ≤ t.mi i) (hall : ∀ j, 1 ≤ j → j < i → t.mi j < m) : t.mi (i - 1) ≤ m := by
  rcases Nat.eq_or_lt_of_le h1 with rfl | h
  · exact hm.1
  · exact Int.le_of_lt (hall (i - 1) (by omega) (by omega))
theorem stepL_range (k : Nat) : 0 ≤ stepL.getD k 0 ∧ stepL.getD k 0 ≤ 3 := by
  by_cases hk : k < 6
  · have : k = 0 ∨ k = 1 ∨ k = 2 ∨ k = 3 ∨ k = 4 ∨ k = 5 := by omega
    rcases this with rfl | rfl | rfl | rfl | rfl | rfl <;> decide
  · rw [show stepL.getD k 0 = 0 from by simp only [List.getD]; rw [List.getElem?_eq_none (show stepL.length ≤ k by show 6 ≤ k; omega)]; rfl]
    decide
theorem mvK_range {lg d : Int} (hl : 0 < lg) (h0 : 0 ≤ d) (h1 : d ≤ lg) : ∀ k : Nat, (0 ≤ (mvK lg d k).2 ∧ (mvK lg d k).2 ≤ 6 * lg) ∧ 0 ≤ (mvK lg d k).1 ∧ (mvK lg d k).1 ≤ k * (3 * lg)
  | 0 => by simp only [mvK]; omega
  | k + 1 => by
    obtain ⟨a, b, c⟩ := mvK_range hl h0 h1 k
    have hs : 0 ≤ stp lg (mvK lg d k).2 ∧ stp lg (mvK lg d k).2 ≤ (mvK lg d k).2 ∧ stp lg (mvK lg d k).2 ≤ lg := by
      unfold stp
      split <;> omega
    have hg := stepL_range k
    simp only [mvK]
    have p0 := Int.mul_nonneg hg.1 hs.1
    have p1 : stepL.getD k 0 * stp lg (mvK lg d k).2 ≤ 3 * stp lg (mvK lg d k).2 := Int.mul_le_mul_of_nonneg_right hg.2 hs.1
    refine ⟨by omega, by omega, ?_⟩
    rw [Int.natCast_succ, Int.add_mul, Int.one_mul]
    omega
/-- A tide's rows, and heights of its marks. -/
def HS (t : TD) (h : Nat → Int) (n : Nat) : SHeap := t.H ++ [some (.roa 1 n fun k => [.int .i64 (h k)])]
theorem t29 (t : TD) (hv : t.Valid) (h : Nat → Int) (hh : okH h) (n c : Nat) (hn : t.nM ≤ n) (hn2 : n ≤ 1000) (m : Int) (hm : t.isMin m) :
    CallP Tryd.prog 29 [t.A, .osl true 3 1 n c, .int .i64 m] (HS t h n) (Ret (.int .i64 (t.stand h m)) (HS t h n)) := by
  have hM := hv.1
  refine callR (E := E) E_ok Tryd.func29 rfl ?_
  refine And.intro ?_ ?_
  · (repeat' (first | exact trivial | exact fun _ => rfl | exact rfl | refine And.intro ?_ ?_))
  refine loopP E_ok [0, 1, 2, 3, 6] (fun i : Nat => [(7, .int .i64 i)]) (fun _ h => h) (fun i => 1 ≤ i ∧ i < t.nM ∧ ∀ j, 1 ≤ j → j < i → t.mi j < m) (fun i => t.nM - i) 1 ⟨Nat.le_refl _, by omega, fun j h1 h2 => by omega⟩ ?_ ?_
  · exact ent_tau [0, 1, 2, 3, 4] ⟨by (repeat' (first | exact trivial | exact rfl | exact fun _ _ => rfl | exact Or.inl rfl | refine And.intro ?_ ?_)), by (repeat' (first | exact trivial | exact rfl | exact congrArg (SV.int .i64) (Int.natCast_succ _).symm | refine And.intro ?_ ?_)), rfl⟩
  rintro i ⟨h1, hi, hall⟩
  refine And.intro ?_ (And.intro (fun hc => ?_) (fun hc => ?_))
  · (repeat' (first | exact trivial | exact fun _ => rfl | exact rfl | refine And.intro ?_ ?_))
  · have e1 : 0 + ((i : Int) - 1).toNat = i - 1 := by omega
    have e2 : 0 + (i : Int).toNat = i := by omega
    refine And.intro ?_ ?_
    · (repeat' (first | exact trivial | exact fun _ => rfl | exact rfl | refine And.intro ?_ ?_))
    refine drawP E_ok [4] pl29_4 (by kernel_rfl) ?_
    refine And.intro ?_ ?_
    · (repeat' (first | exact True.intro | exact d1 _ | exact d1t _ | exact d2 _ | exact d3 _ _ | exact d3f _ _ | exact fun _ _ => rfl | exact fun _ => rfl | exact rfl | refine And.intro ?_ ?_))
      all_goals first | omega | exact un (by omega)
    refine And.intro rfl ?_
    rw [e1, e2]
    have ha : t.mi (i - 1) ≤ m := by
      rcases Nat.eq_or_lt_of_le h1 with rfl | h
      · exact hm.1
      · exact Int.le_of_lt (hall (i - 1) (by omega) (by omega))
    have hst := hv.step (i := i) (by omega) hi
    have hmk := (hv.marks hi).1
    have hmk' := (hv.marks (i := i - 1) (by omega)).1
    refine And.intro ?_ (And.intro (fun hd => ?_) (fun hd => ?_))
    · (repeat' (first | exact True.intro | exact d1 _ | exact d1t _ | exact d2 _ | exact d3 _ _ | exact d3f _ _ | exact fun _ _ => rfl | exact fun _ => rfl | exact rfl | refine And.intro ?_ ?_))
      all_goals first | exact un (fun h => by rw [h]; rfl)
    · have hb : t.mi i < m := by
        simp only [decide_eq_false (show ¬ m < t.mi (i - 1) by omega), cond_false, decide_eq_true_eq] at hd
        omega
      refine And.intro ?_ ⟨i + 1, ⟨by omega, ?_, fun j j1 j2 => ?_⟩, by omega, ?_⟩
      · simp [AllP, under, gB, wB, inR_iff, IntKind.bits]
        omega
      · refine Nat.lt_of_not_le fun h => ?_
        have : i = t.nM - 1 := by omega
        subst this
        have := hm.2
        omega
      · rcases Nat.lt_succ_iff_lt_or_eq.1 j2 with h | rfl
        · exact hall j j1 h
        · exact hb
      · exact ent_tau [0, 1, 2, 3, 4] ⟨by (repeat' (first | exact trivial | exact rfl | exact fun _ _ => rfl | exact Or.inl rfl | refine And.intro ?_ ?_)), by (repeat' (first | exact trivial | exact rfl | exact congrArg (SV.int .i64) (Int.natCast_succ _).symm | refine And.intro ?_ ?_)), rfl⟩
    · have hb : m ≤ t.mi i := by
        simp only [decide_eq_false (show ¬ m < t.mi (i - 1) by omega), cond_false, decide_eq_false_iff_not] at hd
        omega
      have hS := stand_at hv h1 hi ha hb h
      generalize hfr : t.mi (i - 1) = fr at *
      refine And.intro ?_ ?_
      · (repeat' (first | exact trivial | exact fun _ => rfl | exact rfl | refine And.intro ?_ ?_))
        all_goals omega
      refine loopP E_ok [0, 1, 2, 3, 6, 7, 8, 9, 48, 49] (fun k : Nat => [(10, .int .i64 (mvK (t.mi i - fr) (m - fr) k).1), (11, .int .i64 (mvK (t.mi i - fr) (m - fr) k).2), (50, .int .i64 k)]) (fun _ h => h) (fun k => k ≤ 6) (fun k => 6 - k) 0 (Nat.zero_le _) ?_ ?_
      · exact ent_tau [0, 1, 2, 3, 4, 5] ⟨by (repeat' (first | exact trivial | exact rfl | exact fun _ _ => rfl | exact Or.inl rfl | refine And.intro ?_ ?_)), by (repeat' (first | exact trivial | exact rfl | exact congrArg (SV.int .i64) (Int.natCast_succ _).symm | refine And.intro ?_ ?_)), rfl⟩
      intro k hk
      obtain ⟨⟨r0, r1⟩, r2, r3⟩ := mvK_range (lg := t.mi i - fr) (d := m - fr) (by omega) (by omega) (by omega) k
      have ek : 0 + (k : Int).toNat = k := by omega
      have hs : 0 ≤ stp (t.mi i - fr) (mvK (t.mi i - fr) (m - fr) k).2 ∧ stp (t.mi i - fr) (mvK (t.mi i - fr) (m - fr) k).2 ≤ (mvK (t.mi i - fr) (m - fr) k).2 ∧ stp (t.mi i - fr) (mvK (t.mi i - fr) (m - fr) k).2 ≤ t.mi i - fr := by
        unfold stp
        split <;> omega
      have hg := stepL_range k
      have p0 := Int.mul_nonneg hg.1 hs.1
      have p1 : stepL.getD k 0 * stp (t.mi i - fr) (mvK (t.mi i - fr) (m - fr) k).2 ≤ 3 * stp (t.mi i - fr) (mvK (t.mi i - fr) (m - fr) k).2 := Int.mul_le_mul_of_nonneg_right hg.2 hs.1
      have hz : (k : Int) * (3 * (t.mi i - fr)) ≤ 6 * (3 * (t.mi i - fr)) := Int.mul_le_mul_of_nonneg_right (by omega) (by omega)
      have eS : (if t.mi i - fr < (mvK (t.mi i - fr) (m - fr) k).2 then t.mi i - fr else (mvK (t.mi i - fr) (m - fr) k).2) = stp (t.mi i - fr) (mvK (t.mi i - fr) (m - fr) k).2 := rfl
      have eP : ([1, 2, 3, 3, 2, 1] : List Int).getD (0 + (k : Int).toNat) 0 * (if t.mi i - fr < (mvK (t.mi i - fr) (m - fr) k).2 then t.mi i - fr else (mvK (t.mi i - fr) (m - fr) k).2) = stepL.getD k 0 * stp (t.mi i - fr) (mvK (t.mi i - fr) (m - fr) k).2 := by rw [ek]; rfl
      refine And.intro ?_ (And.intro (fun he => ?_) (fun he => ?_))
      · (repeat' (first | exact trivial | exact fun _ => rfl | exact rfl | refine And.intro ?_ ?_))
      · have hk6 : k < 6 := by
          have := of_decide_eq_true he
          omega
        refine And.intro ?_ ?_
        · (repeat' (first | exact trivial | exact fun _ => rfl | exact rfl | refine And.intro ?_ ?_))
          all_goals first | (rw [eP]; clear eP eS; omega) | (rw [eS]; clear eP eS; omega) | (clear eP eS; omega) | exact un (by clear eP eS; omega)
        refine ⟨k + 1, by omega, by omega, ?_⟩
        refine ent_tau [0, 1, 2, 3, 4, 5] ⟨by (repeat' (first | exact trivial | exact rfl | exact fun _ _ => rfl | exact Or.inl rfl | refine And.intro ?_ ?_)), ?_, rfl⟩
        (repeat' (first | exact trivial | exact rfl | exact congrArg (SV.int .i64) (Int.natCast_succ _).symm | refine And.intro ?_ ?_))
        · exact congrArg (fun z => SV.int .i64 ((mvK (t.mi i - fr) (m - fr) k).1 + z)) eP
      · have hk6 : k = 6 := by
          have := of_decide_eq_false he
          omega
        subst hk6
        clear eP eS p0 p1 hz hs hg
        rw [mvK_moved (by omega) (by omega) (by omega)] at r2 r3
        have eM := mvK_moved (lg := t.mi i - fr) (d := m - fr) (by omega) (by omega) (by omega)
        have hm0 := hh i
        have hm1 := hh (i - 1)
        have hmv : 0 ≤ moved (t.mi i - fr) (m - fr) ∧ moved (t.mi i - fr) (m - fr) ≤ 12 * (t.mi i - fr) := by
          have a1 := moved_mono (lg := t.mi i - fr) (d := 0) (d' := m - fr) (by omega) (by omega)
          have a2 := moved_mono (lg := t.mi i - fr) (d := m - fr) (d' := t.mi i - fr) (by omega) (by omega)
          rw [moved_zero] at a1
          rw [moved_all (by omega)] at a2
          exact ⟨a1, a2⟩
        refine And.intro ?_ ?_
        · trivial
        refine And.intro ?_ ?_
        · (repeat' (first | exact trivial | exact fun _ => rfl | exact rfl | refine And.intro ?_ ?_))
          all_goals omega
        have st := stand_range hv hm hh
        have q1 := Int.mul_nonneg hm0.1 hmv.1
        have q2 : h i * moved (t.mi i - fr) (m - fr) ≤ 60 * moved (t.mi i - fr) (m - fr) := Int.mul_le_mul_of_nonneg_right hm0.2 hmv.1
        have q0 : 0 ≤ 12 * (t.mi i - fr) - moved (t.mi i - fr) (m - fr) := by omega
        have q3 := Int.mul_nonneg hm1.1 q0
        have q4 : h (i - 1) * (12 * (t.mi i - fr) - moved (t.mi i - fr) (m - fr)) ≤ 60 * (12 * (t.mi i - fr) - moved (t.mi i - fr) (m - fr)) := Int.mul_le_mul_of_nonneg_right hm1.2 q0
        have ed : (h (i - 1) * (12 * (t.mi i - fr) - moved (t.mi i - fr) (m - fr)) + h i * moved (t.mi i - fr) (m - fr)).tdiv (12 * (t.mi i - fr)) = t.stand h m := by
          rw [Int.tdiv_eq_ediv_of_nonneg (by omega), hS]
          rfl
        refine drawP E_ok [] pl29_14 (by kernel_rfl) ?_
        refine And.intro ?_ ?_
        · rw [e1, e2, eM, ed]
          (repeat' (first | exact True.intro | exact d1 _ | exact d1t _ | exact d2 _ | exact d3 _ _ | exact d3f _ _ | exact fun _ _ => rfl | exact fun _ => rfl | exact rfl | refine And.intro ?_ ?_))
          all_goals first | omega | exact un (by omega) | exact un ((inR_iff _).2 ⟨by omega, by omega⟩)
        refine And.intro rfl ?_
        rw [e1, e2, eM, ed]
        refine And.intro ?_ ?_
        · (repeat' (first | exact trivial | exact fun _ => rfl | exact rfl | refine And.intro ?_ ?_))
        refine And.intro ?_ ?_
        · (repeat' (first | exact trivial | exact fun _ => rfl | exact rfl | refine And.intro ?_ ?_))
        exact ent_tau [0, 1, 2, 3] ⟨by (repeat' (first | exact trivial | exact rfl | exact fun _ _ => rfl | exact Or.inl rfl | refine And.intro ?_ ?_)), by (repeat' (first | exact trivial | exact rfl | exact congrArg (SV.int .i64) (Int.natCast_succ _).symm | refine And.intro ?_ ?_)), rfl⟩
  · have := of_decide_eq_false hc
    omega
end Go.Proofs.YtipbempkngfdbaaDoor
/-
  What tide.Served returns, said alike whether it is nil or not.
-/
namespace Go.Sy
open Go

/-- An empty row beside a block that is only read. -/
theorem Sat.alias {η : Nam} {φ : Feet} {h : SHeap} {w0 w : World} {Ef : Nat → Prop} (s : Sat η φ h w0 Ef w) {i : Nat} {o : SObj} {a : Nat × Nat} (hi : h[i]? = some (some o)) (ha : η i = some a)
    (hc : ∃ c T fz, w.heap[a.1]? = some (.cells c T fz)) (hr : o.rw = false) (hf : o.foot a (φ i) a.1) (sz : Nat) (get : Nat → List SV) :
    Sat (fun j => if j = h.length then some a else η j) φ (h ++ [some (.roa sz 0 get)]) w0 Ef w := by
  have hη : ∀ j, j < h.length → (if j = h.length then some a else η j) = η j := fun j hj => if_neg (by omega)
  have le : η.le (fun j => if j = h.length then some a else η j) := fun j b e => by
    have hj : j < h.length := by
      obtain ⟨o1, h1⟩ := s.dom j b e
      rcases Nat.lt_or_ge j h.length with h2 | h2
      · exact h2
      · rw [List.getElem?_eq_none h2] at h1; cases h1
    show (if j = h.length then some a else η j) = some b
    rw [if_neg (by omega)]
    exact e
  have get? : ∀ (j : Nat) x, (h ++ [some (SObj.roa sz 0 get)])[j]? = some x → (j < h.length ∧ h[j]? = some x) ∨ (j = h.length ∧ x = some (.roa sz 0 get)) := fun j x e => by
    rcases Nat.lt_trichotomy j h.length with h1 | h1 | h1
    · rw [List.getElem?_append_left h1] at e
      exact .inl ⟨h1, e⟩
    · subst h1
      rw [List.getElem?_append_right (Nat.le_refl _)] at e
      simp at e
      exact .inr ⟨rfl, e.symm⟩
    · rw [List.getElem?_eq_none (by simp; omega)] at e
      cases e
  have old : ∀ (j : Nat) (b : Nat × Nat), j < h.length → (if j = h.length then some a else η j) = some b → η j = some b := fun j b hj e => by rwa [if_neg (by omega)] at e
  have new : ∀ (b : Nat × Nat), (if h.length = h.length then some a else η h.length) = some b → a = b := fun b e => by rw [if_pos rfl] at e; exact Option.some.inj e
  constructor
  · exact s.size
  · exact s.env
  · exact s.keep
  · intro j b e
    by_cases hj : j = h.length
    · subst hj
      exact ⟨.roa sz 0 get, by rw [List.getElem?_append_right (Nat.le_refl _)]; simp⟩
    · have e' : η j = some b := by simpa [hj] using e
      obtain ⟨o1, h1⟩ := s.dom j b e'
      refine ⟨o1, ?_⟩
      have : j < h.length := by
        rcases Nat.lt_or_ge j h.length with h2 | h2
        · exact h2
        · rw [List.getElem?_eq_none h2] at h1; cases h1
      rwa [List.getElem?_append_left this]
  · intro j o1 e
    rcases get? j _ e with ⟨h1, h2⟩ | ⟨rfl, _⟩
    · obtain ⟨b, hb⟩ := s.named j o1 h2
      exact ⟨b, by rw [hη j h1]; exact hb⟩
    · exact ⟨a, if_pos rfl⟩
  · intro j o1 b e e'
    rcases get? j _ e with ⟨h1, h2⟩ | ⟨rfl, h2⟩
    · exact SObj.holds_mono le (s.holds j o1 b h2 (old j b h1 e'))
    · cases h2
      cases new b e'
      obtain ⟨c, T, fz, h3⟩ := hc
      exact ⟨c, T, fz, h3, fun k hk => by omega⟩
  · intro j o1 b x e e' hx
    rcases get? j _ e with ⟨h1, h2⟩ | ⟨rfl, h2⟩
    · exact s.bnd j o1 b x h2 (old j b h1 e') hx
    · cases h2
      cases new b e'
      have hx' : a.1 = x := hx
      subst hx'
      exact s.bnd i o a a.1 hi ha hf
  · intro j o1 b x e e' hr1 hx
    rcases get? j _ e with ⟨h1, h2⟩ | ⟨rfl, h2⟩
    · exact s.own j o1 b x h2 (old j b h1 e') hr1 hx
    · cases h2
      cases hr1
  · intro j k oj ok aj ak x hjk ej ek ej' ek' hr1 hx hk
    rcases get? j _ ej with ⟨h1, h2⟩ | ⟨rfl, h2⟩
    · rcases get? k _ ek with ⟨h3, h4⟩ | ⟨rfl, h4⟩
      · exact s.sep j k oj ok aj ak x hjk h2 h4 (old j aj h1 ej') (old k ak h3 ek') hr1 hx hk
      · cases h4
        cases new ak ek'
        have hk' : a.1 = x := hk
        subst hk'
        have hji : j ≠ i := fun e => by
          subst e
          rw [h2] at hi
          cases hi
          rw [hr] at hr1
          cases hr1
        exact s.sep j i oj o aj a a.1 hji h2 hi (old j aj h1 ej') ha hr1 hx hf
    · cases h2
      cases hr1
/-- An empty row more, said beside a block that is only read. -/
theorem entAlias {n : Nat} {T : Tm} {H : SHeap} {D : List SV} {i sz0 m0 : Nat} {get0 : Nat → List SV} (hi : H[i]? = some (some (.roa sz0 m0 get0))) (sz : Nat) (get : Nat → List SV) : Ent n ⟨T, H, D⟩ ⟨T, H ++ [some (.roa sz 0 get)], D⟩ := by
  intro η φ w0 Ef w a hn hs hT hD
  obtain ⟨ad, ha⟩ := hs.named i _ hi
  obtain ⟨c, Ty, fz, hh, _⟩ := hs.holds i _ ad hi ha
  have hs2 := hs.alias hi ha ⟨c, Ty, fz, hh⟩ rfl rfl sz get
  have le : η.le (fun j => if j = H.length then some ad else η j) := fun j b e => by
    have hj : j < H.length := by
      obtain ⟨o1, h1⟩ := hs.dom j b e
      rcases Nat.lt_or_ge j H.length with h2 | h2
      · exact h2
      · rw [List.getElem?_eq_none h2] at h1; cases h1
    show (if j = H.length then some ad else η j) = some b
    rw [if_neg (by omega)]
    exact e
  refine ⟨_, _, fun j hj => if_neg ?_, ?_, hs2, hT.mono le, hD.mono le⟩
  · have : n ≤ H.length := hn
    omega
  · have : n ≤ H.length := hn
    simp only [List.length_append, List.length_singleton]
    omega
theorem entAliasR {n : Nat} {s : St} {T : Tm} {H : SHeap} {D : List SV} {i sz0 m0 : Nat} {get0 : Nat → List SV} {sz : Nat} {get : Nat → List SV} (h : Ent n s ⟨T, H, D⟩) (hi : H[i]? = some (some (.roa sz0 m0 get0))) : Ent n s ⟨T, H ++ [some (.roa sz 0 get)], D⟩ := h.trans (entAlias hi sz get)
end Go.Sy
namespace Go.Proofs.YtipbempkngfdbaaDoor
open Go Go.Sy
set_option maxRecDepth 100000

/-- What a call returns that returns spans. -/
def KOb (t : TD) (r : Told (List (Int × Int))) : CE → SHeap → Prop := fun ce h' =>
  (∃ (b : Bool) (cap : Nat), b = false ∧ r.v = [] ∧ ce = .ret (.tup [.osl b 5 2 r.v.length cap, .int .i64 r.e]) ∧ h' = t.HG) ∨
  (∃ (b : Bool) (cap : Nat), b = true ∧ 0 < r.v.length ∧ r.v.length ≤ cap ∧ cap ≤ 9223372036854775807 ∧ ce = .ret (.tup [.osl b 5 2 r.v.length cap, .int .i64 r.e]) ∧ h' = t.HG ++ [some (.arr 2 r.v.length cap (prow r.v))])
theorem t15b (t : TD) (p l h : Int) : CallP Tryd.prog 15 [t.A, .int .i64 p, .int .i64 l, .int .i64 h] t.HG (KOb t (t.servedT p l h)) := by
  intro η φ w0 Ef w vs hs hd
  refine (t15 t p l h η φ w0 Ef w vs hs hd).mono ?_
  rintro e w' ⟨ce, h', η', φ', hk, hlen, hp, hr, hs'⟩
  rcases hk with ⟨hv, rfl, rfl⟩ | ⟨hv, cap, hc1, hc2, rfl, rfl⟩
  · refine ⟨.ret (.tup [.osl false 5 2 (t.servedT p l h).v.length 0, .int .i64 (t.servedT p l h).e]), t.HG, η', φ', .inl ⟨false, 0, rfl, hv, rfl, rfl⟩, hlen, hp, ?_, hs'⟩
    obtain ⟨u, hu, rfl⟩ := hr
    refine ⟨u, ?_, rfl⟩
    simpa [den, denL, hv] using hu
  · refine ⟨.ret (.tup [.osl true 5 2 (t.servedT p l h).v.length cap, .int .i64 (t.servedT p l h).e]), t.HG ++ [some (.arr 2 (t.servedT p l h).v.length cap (prow (t.servedT p l h).v))], η', φ', .inr ⟨true, cap, rfl, hv, hc1, hc2, rfl, rfl⟩, hlen, hp, ?_, hs'⟩
    obtain ⟨u, hu, rfl⟩ := hr
    refine ⟨u, ?_, rfl⟩
    simpa [den, denL] using hu
end Go.Proofs.YtipbempkngfdbaaDoor
/-
  A contract that wants an empty row, where there is none. No program is named.
-/
set_option linter.unusedSimpArgs false
namespace Go.Sy
open Go
/-- A contract that wants an empty row, where there is none. -/
theorem CallP.alias {P : Program} {f : FuncId} {args : List SV} {h : SHeap} {i sz0 m0 : Nat} {get0 : Nat → List SV} (hi : h[i]? = some (some (.roa sz0 m0 get0))) {sz : Nat} {get : Nat → List SV} {v : SV}
    (hc : CallP P f args (h ++ [some (.roa sz 0 get)]) (Ret v (h ++ [some (.roa sz 0 get)]))) : CallP P f args h (fun ce h' => ce = .ret v ∧ h' = h ++ [some .dead]) := by
  intro η φ w0 Ef w vs hs hd
  obtain ⟨a, ha⟩ := hs.named i _ hi
  obtain ⟨c, Ty, fz, hh, _⟩ := hs.holds i _ a hi ha
  have hs2 := hs.alias hi ha ⟨c, Ty, fz, hh⟩ rfl rfl sz get
  have le : η.le (fun j => if j = h.length then some a else η j) := fun j b e => by
    have hj : j < h.length := by
      obtain ⟨o1, h1⟩ := hs.dom j b e
      rcases Nat.lt_or_ge j h.length with h2 | h2
      · exact h2
      · rw [List.getElem?_eq_none h2] at h1; cases h1
    show (if j = h.length then some a else η j) = some b
    rw [if_neg (by omega)]
    exact e
  refine (hc _ _ _ _ _ _ hs2 (denL_mono le _ _ hd)).mono ?_
  rintro e w' ⟨ce, h', η', φ', ⟨rfl, rfl⟩, hlen, hp, hr, hs'⟩
  refine ⟨_, _, η', φ', ⟨rfl, rfl⟩, by simp, fun j hj => ?_, hr, ?_⟩
  · rw [hp j (by simp; omega)]
    exact if_neg (by omega)
  · have := hs'.less (i := h.length) (o := .roa sz 0 get) (o' := .dead) (by rw [List.getElem?_append_right (Nat.le_refl _)]; simp) (fun _ _ hb => hb.elim) (fun hr => by cases hr) (fun _ _ => trivial)
    rwa [List.set_append_right _ _ (Nat.le_refl _), Nat.sub_self] at this
end Go.Sy
/-
  Contract: made, its last part: looks that are right.
-/
namespace Go.Proofs.YtipbempkngfdbaaDoor
open Go Go.Sy
set_option linter.unusedSimpArgs false
set_option maxRecDepth 100000
set_option maxHeartbeats 4000000
attribute [local irreducible] CallP CodeP Ent YieldP

/-- What is left to show of a function with choices. -/
def KRetK (E : Env) (f : Func) (n : Nat) (K : CE → SHeap → Prop) : SE → St → Prop := fun se s => retKS E f.results.toList (fun ce h1 => ∃ ce' h2, K ce' h2 ∧ EntC n ce h1 ce' h2) se s []
/-- A tide whose looks are right, if marks and sand are so high. -/
structure Made (t : TD) (h s : Nat → Int) : Prop where
  v : t.Valid
  ok : t.ok
  hh : okH h
  hm : ∀ i, i < t.nM → t.mlo i ≤ h i ∧ h i ≤ t.mhi i
  hz : ∀ i, t.nM ≤ i → h i = 0
  ss : ∀ p, p < t.nS → (t.slo p ≤ s p ∧ s p ≤ t.shi p) ∧ 0 ≤ s p ∧ s p ≤ 60
  sz : ∀ p, t.nS ≤ p → s p = 0
  fit : ∀ i, i < t.nL → t.fit h i (s (t.lp i).toNat) = true
def TD.wl (t : TD) (k : Nat) (lp lm llo lhi : Nat → Int) (b : Bool) (cl : Nat) : TD := { t with nL := k, lp := lp, lm := lm, llo := llo, lhi := lhi, bL := b, cL := cl }
def rowI (h : Nat → Int) (k : Nat) : List SV := [.int .i64 (h k)]
def KMade (b : Bool) (n cap : Nat) (by' : Nat → Int) : CE → SHeap → Prop := fun ce h' => ∃ (t : TD) (h s : Nat → Int) (ch cs : Nat) (c : Int), Made t h s ∧ (0 ≤ c ∧ c ≤ 600000) ∧ t.bM = true ∧ t.bS = true ∧ (t.nM ≤ t.cM ∧ t.cM ≤ 9223372036854775807) ∧ (t.nS ≤ t.cS ∧ t.cS ≤ 9223372036854775807) ∧ (t.nM ≤ ch ∧ ch ≤ 9223372036854775807) ∧ (t.nS ≤ cs ∧ cs ≤ 9223372036854775807) ∧
  ((t.nL = 0 ∧ t.bL = false ∧ t.cL = 0 ∧ ce = .ret (.tup [.agg [.osl true 3 3 t.nM t.cM, .osl true 4 2 t.nS t.cS, .osl false 7 4 0 0], .osl true 5 1 t.nM ch, .osl true 6 1 t.nS cs]) ∧ h' = HD b n cap by' c ++ [some (.arr 3 t.nM t.cM (row3 t.mi t.mlo t.mhi)), some (.arr 2 t.nS t.cS (row2 t.slo t.shi)), some (.arr 1 t.nM ch (rowI h)), some (.arr 1 t.nS cs (rowI s))]) ∨
  (0 < t.nL ∧ t.bL = true ∧ (t.nL ≤ t.cL ∧ t.cL ≤ 9223372036854775807) ∧ ce = .ret (.tup [.agg [.osl true 3 3 t.nM t.cM, .osl true 4 2 t.nS t.cS, .osl true 7 4 t.nL t.cL], .osl true 5 1 t.nM ch, .osl true 6 1 t.nS cs]) ∧ h' = HD b n cap by' c ++ [some (.arr 3 t.nM t.cM (row3 t.mi t.mlo t.mhi)), some (.arr 2 t.nS t.cS (row2 t.slo t.shi)), some (.arr 1 t.nM ch (rowI h)), some (.arr 1 t.nS cs (rowI s)), some (.arr 4 t.nL t.cL (row4 t.lp t.lm t.llo t.lhi))]))

theorem row4_upd (a b c d : Nat → Int) (k i : Nat) (x y z w : Int) (hi : i < k + 1) : selL (decide (i < k)) (row4 a b c d i) (getOf 4 [.int .i64 x, .int .i64 y, .int .i64 z, .int .i64 w] (0 + (i - k))) = row4 (upd a k x) (upd b k y) (upd c k z) (upd d k w) i := by
  rcases Nat.lt_succ_iff_lt_or_eq.1 hi with h | rfl
  · rw [decide_eq_true h, selL_true]
    simp [row4, upd, Nat.ne_of_lt h]
  · rw [decide_eq_false (Nat.lt_irrefl _), selL_false, Nat.sub_self]
    simp [row4, upd]
    rfl
theorem one1 {get : Nat → List SV} (h : allOne (get 0) = true) : allOneN get 0 1 := fun k hk => by
  have h0 : k = 0 := by omega
  subst h0
  exact h
theorem t29s (t : TD) (hv : t.Valid) (eM : t.bM = true) (eS : t.bS = true) (eL : t.bL = true) (h : Nat → Int) (hh : okH h) (n c : Nat) (hn : t.nM ≤ n) (hn2 : n ≤ 1000) (m : Int) (hm : t.isMin m) :
    CallP Tryd.prog 29 [.agg [.slice 0 3 0 t.nM t.cM, .slice 1 2 0 t.nS t.cS, .slice 2 4 0 t.nL t.cL], .slice 3 1 0 n c, .int .i64 m] (HS t h n) (Ret (.int .i64 (t.stand h m)) (HS t h n)) := by
  refine CallP.argsD (fun η => ?_) (t29 t hv h hh n c hn hn2 m hm)
  simp [denL, den, TD.A, eM, eS, eL]
theorem t29n (t : TD) (hv : t.Valid) (eM : t.bM = true) (eS : t.bS = true) (eL : t.bL = false) (eN : t.nL = 0) (eC : t.cL = 0) (h : Nat → Int) (hh : okH h) (n c : Nat) (hn : t.nM ≤ n) (hn2 : n ≤ 1000) (m : Int) (hm : t.isMin m) :
    CallP Tryd.prog 29 [.agg [.slice 0 3 0 t.nM t.cM, .slice 1 2 0 t.nS t.cS, .snil], .slice 2 1 0 n c, .int .i64 m] [some (.roa 3 t.nM (row3 t.mi t.mlo t.mhi)), some (.roa 2 t.nS (row2 t.slo t.shi)), some (.roa 1 n fun k => [.int .i64 (h k)])]
      (fun ce h' => ce = .ret (.int .i64 (t.stand h m)) ∧ h' = [some (.roa 3 t.nM (row3 t.mi t.mlo t.mhi)), some (.roa 2 t.nS (row2 t.slo t.shi)), some (.roa 1 n fun k => [.int .i64 (h k)])] ++ [some .dead]) := by
  refine CallP.alias (i := 0) (sz := 4) (get := row4 t.lp t.lm t.llo t.lhi) rfl ?_
  refine CallP.argsD (args' := [.agg [.osl t.bM 0 3 t.nM t.cM, .osl t.bS 1 2 t.nS t.cS, .osl t.bL 3 4 t.nL t.cL], .osl true 2 1 n c, .int .i64 m]) (fun η => ?_) ?_
  · simp [denL, den, eM, eS, eL, eN, eC]
  have ct := t29 t hv h hh n c hn hn2 m hm
  rw [HS, TD.H, TD.A, eN] at ct
  rw [eN]
  refine (ct).use [0, 1, 3, 2] ?_ (by (repeat' (first | exact trivial | exact rfl | exact fun _ _ => rfl | exact Or.inl rfl | refine And.intro ?_ ?_))) rfl
  exact ⟨rfl, rfl⟩

end Go.Proofs.YtipbempkngfdbaaDoor
/-
  Truths one by one: heights of marks and of sand, and which of them fit the looks.
-/
namespace Go.Proofs.YtipbempkngfdbaaDoor
open Go Go.Sy
set_option maxRecDepth 100000
set_option maxHeartbeats 4000000

/-! ### Lists -/
def catG {α : Type} (f : Int → List α) (lo : Int) : Nat → List α
  | 0 => []
  | c + 1 => catG f lo c ++ f (lo + c)
theorem catG_mem {α : Type} {f : Int → List α} {lo : Int} {x : α} : ∀ {c : Nat}, x ∈ catG f lo c ↔ ∃ v, lo ≤ v ∧ v < lo + c ∧ x ∈ f v
  | 0 => by
    simp only [catG, List.not_mem_nil, false_iff]
    rintro ⟨v, h1, h2, _⟩
    omega
  | c + 1 => by
    simp only [catG, List.mem_append, catG_mem (c := c)]
    constructor
    · rintro (⟨v, h1, h2, h3⟩ | h)
      · exact ⟨v, h1, by omega, h3⟩
      · exact ⟨lo + c, by omega, by omega, h⟩
    · rintro ⟨v, h1, h2, h3⟩
      by_cases h : v = lo + c
      · subst h; exact .inr h3
      · exact .inl ⟨v, h1, by omega, h3⟩
theorem catF_eq (f : Int → List Tr) (lo : Int) : ∀ c, catF f lo c = catG f lo c
  | 0 => rfl
  | c + 1 => by rw [catF, catG, catF_eq f lo c]
theorem catG_bind {α β : Type} (f : Int → List α) (g : α → List β) (lo : Int) : ∀ c, (catG f lo c).flatMap g = catG (fun v => (f v).flatMap g) lo c
  | 0 => rfl
  | c + 1 => by rw [catG, catG, List.flatMap_append, catG_bind f g lo c]
theorem catG_congr {α : Type} {f g : Int → List α} {lo : Int} : ∀ {c : Nat}, (∀ v, lo ≤ v → v < lo + c → f v = g v) → catG f lo c = catG g lo c
  | 0, _ => rfl
  | c + 1, h => by rw [catG, catG, catG_congr (c := c) fun v h1 h2 => h v h1 (by omega), h _ (by omega) (by omega)]
theorem catG_filter {α : Type} (f : Int → List α) (q : α → Bool) (lo : Int) : ∀ c, (catG f lo c).filter q = catG (fun v => (f v).filter q) lo c
  | 0 => rfl
  | c + 1 => by rw [catG, catG, List.filter_append, catG_filter f q lo c]
/-- All functions with numbers of spans, from place n - r on. -/
def lsts (lo hi : Nat → Int) (n : Nat) : Nat → (Nat → Int) → List (Nat → Int)
  | 0, h => [h]
  | r + 1, h => catG (fun v => lsts lo hi n r (upd h (n - (r + 1)) v)) (lo (n - (r + 1))) (hi (n - (r + 1)) - lo (n - (r + 1)) + 1).toNat
theorem lsts_mem {lo hi : Nat → Int} {n : Nat} : ∀ {r : Nat} {h x : Nat → Int}, r ≤ n → (x ∈ lsts lo hi n r h ↔ (∀ i, n - r ≤ i → i < n → lo i ≤ x i ∧ x i ≤ hi i) ∧ ∀ i, (i < n - r ∨ n ≤ i) → x i = h i)
  | 0, h, x, _ => by
    simp only [lsts, List.mem_singleton]
    constructor
    · rintro rfl
      exact ⟨fun i h1 h2 => by omega, fun i _ => rfl⟩
    · rintro ⟨_, h2⟩
      exact funext fun i => h2 i (by omega)
  | r + 1, h, x, hr => by
    simp only [lsts, catG_mem]
    constructor
    · rintro ⟨v, h1, h2, h3⟩
      obtain ⟨a, b⟩ := (lsts_mem (by omega)).1 h3
      have e := b (n - (r + 1)) (by omega)
      simp only [upd, if_true] at e
      refine ⟨fun i hi hi' => ?_, fun i hi => ?_⟩
      · by_cases hj : i = n - (r + 1)
        · subst hj; omega
        · exact a i (by omega) hi'
      · rw [b i (by omega)]
        simp only [upd]
        rw [if_neg (by omega)]
    · rintro ⟨a, b⟩
      have := a (n - (r + 1)) (Nat.le_refl _) (by omega)
      refine ⟨x (n - (r + 1)), this.1, by omega, (lsts_mem (by omega)).2 ⟨fun i hi hi' => a i (by omega) hi', fun i hi => ?_⟩⟩
      simp only [upd]
      split
      · rename_i e
        rw [e]
      · exact b i (by omega)
theorem catG_nodup {α : Type} {f : Int → List α} {lo : Int} (k : α → Int) : ∀ {c : Nat}, (∀ v, lo ≤ v → v < lo + c → (f v).Nodup ∧ ∀ x ∈ f v, k x = v) → (catG f lo c).Nodup
  | 0, _ => List.nodup_nil
  | c + 1, h => by
    rw [catG, List.nodup_append]
    refine ⟨catG_nodup k fun v h1 h2 => h v h1 (by omega), (h _ (by omega) (by omega)).1, fun a ha b hb e => ?_⟩
    subst e
    obtain ⟨v, h1, h2, h3⟩ := catG_mem.1 ha
    have e1 := (h v h1 (by omega)).2 a h3
    have e2 := (h _ (by omega) (by omega)).2 a hb
    omega
theorem lsts_nodup {lo hi : Nat → Int} {n : Nat} : ∀ {r : Nat} {h : Nat → Int}, r ≤ n → (lsts lo hi n r h).Nodup
  | 0, h, _ => by simp [lsts]
  | r + 1, h, hr => by
    rw [lsts]
    refine catG_nodup (fun x => x (n - (r + 1))) fun v _ _ => ⟨lsts_nodup (by omega), fun x hx => ?_⟩
    have := ((lsts_mem (by omega)).1 hx).2 (n - (r + 1)) (by omega)
    simpa [upd] using this

/-! ### Products -/
/-- How many numbers of the first c from lo on are so. -/
def cntI (q : Int → Bool) (lo : Int) : Nat → Nat
  | 0 => 0
  | c + 1 => cntI q lo c + if q (lo + c) = true then 1 else 0
def prodF (f : Nat → Nat) (a : Nat) : Nat → Nat
  | 0 => 1
  | r + 1 => f a * prodF f (a + 1) r
/-- From a on, r of them. -/
def allF (f : Nat → Bool) (a : Nat) : Nat → Bool
  | 0 => true
  | r + 1 => f a && allF f (a + 1) r
theorem allF_iff {f : Nat → Bool} : ∀ {r a : Nat}, allF f a r = true ↔ ∀ i, a ≤ i → i < a + r → f i = true
  | 0, a => by
    simp only [allF, true_iff]
    intro i h1 h2
    omega
  | r + 1, a => by
    simp only [allF, Bool.and_eq_true, allF_iff (r := r)]
    constructor
    · rintro ⟨h1, h2⟩ i hi hi'
      rcases Nat.eq_or_lt_of_le hi with rfl | h
      · exact h1
      · exact h2 i (by omega) (by omega)
    · exact fun h => ⟨h a (by omega) (by omega), fun i h1 h2 => h i (by omega) (by omega)⟩
theorem catG_count {α : Type} {f : Int → List α} {q : Int → Bool} {lo : Int} {N : Nat} : ∀ {c : Nat}, (∀ v, lo ≤ v → v < lo + c → (f v).length = if q v = true then N else 0) → (catG f lo c).length = cntI q lo c * N
  | 0, _ => by simp [catG, cntI]
  | c + 1, h => by
    rw [catG, List.length_append, catG_count (c := c) fun v h1 h2 => h v h1 (by omega), h _ (by omega) (by omega), cntI, Nat.add_mul]
    congr 1
    split <;> simp
theorem lsts_count {lo hi : Nat → Int} {n : Nat} (q : Nat → Int → Bool) : ∀ {r : Nat} {h : Nat → Int}, r ≤ n →
    ((lsts lo hi n r h).filter fun x => allF (fun i => q i (x i)) (n - r) r).length = prodF (fun i => cntI (q i) (lo i) (hi i - lo i + 1).toNat) (n - r) r
  | 0, h, _ => by simp [lsts, allF, prodF]
  | r + 1, h, hr => by
    have e1 : n - (r + 1) + 1 = n - r := by omega
    rw [lsts, catG_filter, prodF, e1]
    refine catG_count fun v _ _ => ?_
    have e : ∀ x ∈ lsts lo hi n r (upd h (n - (r + 1)) v), allF (fun i => q i (x i)) (n - (r + 1)) (r + 1) = (q (n - (r + 1)) v && allF (fun i => q i (x i)) (n - r) r) := fun x hx => by
      have := ((lsts_mem (by omega)).1 hx).2 (n - (r + 1)) (by omega)
      simp only [upd, if_true] at this
      rw [allF, e1, this]
    rw [List.filter_congr e]
    cases hq : q (n - (r + 1)) v
    · simp
    · simp only [Bool.true_and, if_true]
      exact lsts_count q (by omega)
theorem manyF_prod (x : Tr) (f : Nat → Nat) : ∀ (r a : Nat), (∀ i, a ≤ i → i < a + r → oc64 (x.s i) = (f i : Int)) → manyF x (a + r) = manyF x a * (prodF f a r : Int)
  | 0, a, _ => by simp [prodF]
  | r + 1, a, h => by
    have := manyF_prod x f r (a + 1) fun i h1 h2 => h i (by omega) (by omega)
    rw [show a + (r + 1) = a + 1 + r by omega, this, manyF, h a (by omega) (by omega), prodF, Int.mul_assoc]
    push_cast
    rfl
end Go.Proofs.YtipbempkngfdbaaDoor
