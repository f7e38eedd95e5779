/-
  Parts: Ma, D10.
-/
import Derived.Test.YtipbempkngfdbaaDoorK27
import Derived.Test.YtipbempkngfdbaaDoorK23
/-
  TideMore: the first part.
-/
namespace Go.Proofs.YtipbempkngfdbaaDoor
open Go Go.Sy
set_option linter.unusedSimpArgs false
set_option maxRecDepth 100000
set_option maxHeartbeats 4000000
attribute [local irreducible] CallP CodeP Ent YieldP

def pl12_5s : Plan := .eager 0 <| .eager 1 <| .eager 3 <| .eager 4 <| .alt 2 (.alt 5 (.alt 6 (.alt 7 (.alt 8 (.alt 9 (.alt 10 .done .no) .no) .no) .no) (.alt 7 (.alt 6 (.alt 8 (.alt 9 (.alt 10 .done .no) .no) .no) .no) .no)) (.alt 6 (.alt 5 (.alt 7 (.alt 8 (.alt 9 (.alt 10 .done .no) .no) .no) .no) (.alt 7 (.alt 5 (.alt 8 (.alt 9 (.alt 10 .done .no) .no) .no) .no) .no)) (.alt 7 (.alt 5 (.alt 6 (.alt 8 (.alt 9 (.alt 10 .done .no) .no) .no) .no) (.alt 6 (.alt 5 (.alt 8 (.alt 9 (.alt 10 .done .no) .no) .no) .no) .no)) .no))) (.alt 5 (.alt 2 (.alt 6 (.alt 7 (.alt 8 (.alt 9 (.alt 10 .done .no) .no) .no) .no) (.alt 7 (.alt 6 (.alt 8 (.alt 9 (.alt 10 .done .no) .no) .no) .no) .no)) (.alt 6 (.alt 2 (.alt 7 (.alt 8 (.alt 9 (.alt 10 .done .no) .no) .no) .no) (.alt 7 (.alt 2 (.alt 8 (.alt 9 (.alt 10 .done .no) .no) .no) .no) .no)) (.alt 7 (.alt 2 (.alt 6 (.alt 8 (.alt 9 (.alt 10 .done .no) .no) .no) .no) (.alt 6 (.alt 2 (.alt 8 (.alt 9 (.alt 10 .done .no) .no) .no) .no) .no)) .no))) (.alt 6 (.alt 2 (.alt 5 (.alt 7 (.alt 8 (.alt 9 (.alt 10 .done .no) .no) .no) .no) (.alt 7 (.alt 5 (.alt 8 (.alt 9 (.alt 10 .done .no) .no) .no) .no) .no)) (.alt 5 (.alt 2 (.alt 7 (.alt 8 (.alt 9 (.alt 10 .done .no) .no) .no) .no) (.alt 7 (.alt 2 (.alt 8 (.alt 9 (.alt 10 .done .no) .no) .no) .no) .no)) (.alt 7 (.alt 2 (.alt 5 (.alt 8 (.alt 9 (.alt 10 .done .no) .no) .no) .no) (.alt 5 (.alt 2 (.alt 8 (.alt 9 (.alt 10 .done .no) .no) .no) .no) .no)) .no))) (.alt 7 (.alt 2 (.alt 5 (.alt 6 (.alt 8 (.alt 9 (.alt 10 .done .no) .no) .no) .no) (.alt 6 (.alt 5 (.alt 8 (.alt 9 (.alt 10 .done .no) .no) .no) .no) .no)) (.alt 5 (.alt 2 (.alt 6 (.alt 8 (.alt 9 (.alt 10 .done .no) .no) .no) .no) (.alt 6 (.alt 2 (.alt 8 (.alt 9 (.alt 10 .done .no) .no) .no) .no) .no)) (.alt 6 (.alt 2 (.alt 5 (.alt 8 (.alt 9 (.alt 10 .done .no) .no) .no) .no) (.alt 5 (.alt 2 (.alt 8 (.alt 9 (.alt 10 .done .no) .no) .no) .no) .no)) .no))) .no)))
theorem t12 (t : TD) (ht : t.ok) (la lm ll lh : Int) (hlk : (InR .i64 la ∧ InR .i64 lm) ∧ InR .i64 ll ∧ InR .i64 lh) (w a l : Int) (hw : 0 ≤ w ∧ w ≤ 255) (ha : 0 ≤ a ∧ a ≤ 255) (hl0 : 0 ≤ l ∧ l ≤ 255) :
    CallP Tryd.prog 12 [t.A, .agg [.int .i64 la, .int .i64 lm, .int .i64 ll, .int .i64 lh], .int .u8 w, .int .u8 a, .int .u8 l] t.HG (Ret (.bool true) t.HG) := by
  refine callRK (E := E) E_ok 5 Tryd.func12 rfl ?_
  refine And.intro ?_ ?_
  · simp [AllP, under, gB, wB, inR_iff, IntKind.bits]
  refine (t33 t).use [0, 1, 2] ?_ (by (repeat' (first | exact trivial | exact rfl | exact fun _ _ => rfl | exact Or.inl rfl | refine And.intro ?_ ?_))) rfl
  refine And.intro ?_ (And.intro (fun hl => ?_) (fun hl => ?_))
  · simp [AllP, under, gB, wB, inR_iff, IntKind.bits]
  · refine (t34 t ht).use [0, 1, 2] ?_ (by (repeat' (first | exact trivial | exact rfl | exact fun _ _ => rfl | exact Or.inl rfl | refine And.intro ?_ ?_))) rfl
    refine And.intro ?_ (And.intro (fun hb => ?_) (fun hb => ?_))
    · (repeat' (first | exact True.intro | exact d1 _ | exact d1t _ | exact d2 _ | exact d3 _ _ | exact d3f _ _ | exact fun _ _ => rfl | exact fun _ => rfl | exact rfl | refine And.intro ?_ ?_))
    · refine And.intro trivial ?_
      refine (t14).use [3, 4] ?_ (by (repeat' (first | exact trivial | exact rfl | exact fun _ _ => rfl | exact Or.inl rfl | refine And.intro ?_ ?_))) rfl
      refine And.intro trivial ?_
      exact ent_tau [0, 1, 2, 3, 4] ⟨by (repeat' (first | exact trivial | exact rfl | exact fun _ _ => rfl | exact Or.inl rfl | refine And.intro ?_ ?_)), by (repeat' (first | exact trivial | exact rfl | exact congrArg (SV.int .i64) (Int.natCast_succ _).symm | refine And.intro ?_ ?_)), rfl⟩
    · have hv : t.Valid := by
        cases hc : decide (40 < max (max t.nM t.nS) t.nL)
        · rw [hc] at hb
          have hb2 : (!t.valid) = false := hb
          simpa [TD.valid] using hb2
        · rw [hc] at hb
          cases hb
      have hM := hv.1
      have hS := hv.2.1
      have hL := hv.2.2.1
      have e1 : ((t.nM : Int) - 1).toNat = t.nM - 1 := by omega
      have eL : t.mi (0 + ((t.nM : Int) - 1).toNat) = t.mi (t.nM - 1) := by rw [e1, Nat.zero_add]
      have mk1 := hv.marks (i := 0) (by omega)
      have mk2 := hv.marks (i := t.nM - 1) (by omega)
      simp only [TD.markOk] at mk1 mk2
      have mle : t.mi 0 ≤ t.mi (t.nM - 1) := mi_le hv (Nat.zero_le _) (by omega)
      obtain ⟨bg, eb⟩ : ∃ x : Int, t.mi 0 + a.tmod (t.mi (t.nM - 1) - t.mi 0 + 1) = x := ⟨_, rfl⟩
      have hr0 := Int.tmod_nonneg (t.mi (t.nM - 1) - t.mi 0 + 1) ha.1
      have hr1 := Int.tmod_lt_of_pos a (show 0 < t.mi (t.nM - 1) - t.mi 0 + 1 by omega)
      have mB : t.isMin bg := ⟨by omega, by omega⟩
      have eB : t.mi 0 + a.tmod (t.mi (0 + ((t.nM : Int) - 1).toNat) - t.mi 0 + 1) = bg := by rw [eL]; exact eb
      obtain ⟨q, hq⟩ : ∃ x : Int, w.tmod (t.nS : Int) = x := ⟨_, rfl⟩
      obtain ⟨low, el⟩ : ∃ x : Int, l.tmod 61 = x := ⟨_, rfl⟩
      have hbase : Base t q bg low la lm ll lh := ⟨ht, by rw [← hq]; exact ⟨Int.tmod_nonneg _ hw.1, Int.tmod_lt_of_pos w (by omega)⟩, mB, by rw [← el]; exact ⟨Int.tmod_nonneg _ hl0.1, Int.tmod_lt_of_pos l (by decide)⟩, hlk.1.1, hlk.1.2, hlk.2.1, hlk.2.2⟩
      refine And.intro ?_ ?_
      · (repeat' (first | exact trivial | exact fun _ => rfl | exact rfl | refine And.intro ?_ ?_))
      refine drawP E_ok [5] pl12_3 (by kernel_rfl) ?_
      refine And.intro ?_ ?_
      · (repeat' (first | exact trivial | exact fun _ => rfl | exact rfl | refine And.intro ?_ ?_))
        all_goals first | exact un (show 0 + Int.toNat 0 < t.nM from (by show 0 < t.nM; omega)) | exact un (by omega)
      refine And.intro rfl ?_
      refine And.intro ?_ ?_
      · (repeat' (first | exact trivial | exact fun _ => rfl | exact rfl | refine And.intro ?_ ?_))
      refine drawP E_ok [5] pl12_4 (by kernel_rfl) ?_
      refine And.intro ?_ ?_
      · simp only [AllP, under, inR_iff, and_true, Int.toNat_zero, Nat.zero_add, e1]
        (repeat' refine And.intro ?_ ?_) <;> omega
      refine And.intro rfl ?_
      refine And.intro ?_ ?_
      · (repeat' (first | exact trivial | exact fun _ => rfl | exact rfl | refine And.intro ?_ ?_))
      refine drawP E_ok [5, 6] pl12_5s (by kernel_rfl) ?_
      (repeat' (first | exact trivial | exact fun _ => rfl | exact rfl | refine And.intro ?_ ?_))
      all_goals refine CallP.frameH (t35 t (by omega) la lm ll lh) [0, 1, 2, 3, 4] (by (repeat' (first | exact trivial | exact rfl | exact fun _ _ => rfl | exact Or.inl rfl | refine And.intro ?_ ?_))) rfl ?_
      all_goals rintro ce h' ⟨cap, hc1, hc2, rfl, rfl⟩
      all_goals refine ⟨rfl, ?_⟩
      all_goals (repeat' (first | exact trivial | exact fun _ => rfl | exact rfl | refine And.intro ?_ ?_))
      · refine CodeP.pre ?_ (seg6 t hv w q bg low la lm ll lh hbase hw cap hc1 hc2)
        exact ent_tau [0, 1, 2, 3, 4, 5, 6, 8, 9, 10, 7] ⟨by (repeat' (first | exact trivial | exact rfl | exact fun _ _ => rfl | exact Or.inl rfl | refine And.intro ?_ ?_)), by (repeat' (first | exact trivial | exact rfl | exact congrArg (SV.int .i64) eB | exact congrArg (SV.int .i64) hq | exact congrArg (SV.int .i64) el | refine And.intro ?_ ?_)), rfl⟩
      · refine CodeP.pre ?_ (seg6 t hv w q bg low la lm ll lh hbase hw cap hc1 hc2)
        exact ent_tau [0, 1, 2, 3, 4, 5, 6, 8, 10, 9, 7] ⟨by (repeat' (first | exact trivial | exact rfl | exact fun _ _ => rfl | exact Or.inl rfl | refine And.intro ?_ ?_)), by (repeat' (first | exact trivial | exact rfl | exact congrArg (SV.int .i64) eB | exact congrArg (SV.int .i64) hq | exact congrArg (SV.int .i64) el | refine And.intro ?_ ?_)), rfl⟩
      · refine CodeP.pre ?_ (seg6 t hv w q bg low la lm ll lh hbase hw cap hc1 hc2)
        exact ent_tau [0, 1, 2, 3, 4, 5, 6, 9, 8, 10, 7] ⟨by (repeat' (first | exact trivial | exact rfl | exact fun _ _ => rfl | exact Or.inl rfl | refine And.intro ?_ ?_)), by (repeat' (first | exact trivial | exact rfl | exact congrArg (SV.int .i64) eB | exact congrArg (SV.int .i64) hq | exact congrArg (SV.int .i64) el | refine And.intro ?_ ?_)), rfl⟩
      · refine CodeP.pre ?_ (seg6 t hv w q bg low la lm ll lh hbase hw cap hc1 hc2)
        exact ent_tau [0, 1, 2, 3, 4, 5, 6, 10, 8, 9, 7] ⟨by (repeat' (first | exact trivial | exact rfl | exact fun _ _ => rfl | exact Or.inl rfl | refine And.intro ?_ ?_)), by (repeat' (first | exact trivial | exact rfl | exact congrArg (SV.int .i64) eB | exact congrArg (SV.int .i64) hq | exact congrArg (SV.int .i64) el | refine And.intro ?_ ?_)), rfl⟩
      · refine CodeP.pre ?_ (seg6 t hv w q bg low la lm ll lh hbase hw cap hc1 hc2)
        exact ent_tau [0, 1, 2, 3, 4, 5, 6, 9, 10, 8, 7] ⟨by (repeat' (first | exact trivial | exact rfl | exact fun _ _ => rfl | exact Or.inl rfl | refine And.intro ?_ ?_)), by (repeat' (first | exact trivial | exact rfl | exact congrArg (SV.int .i64) eB | exact congrArg (SV.int .i64) hq | exact congrArg (SV.int .i64) el | refine And.intro ?_ ?_)), rfl⟩
      · refine CodeP.pre ?_ (seg6 t hv w q bg low la lm ll lh hbase hw cap hc1 hc2)
        exact ent_tau [0, 1, 2, 3, 4, 5, 6, 10, 9, 8, 7] ⟨by (repeat' (first | exact trivial | exact rfl | exact fun _ _ => rfl | exact Or.inl rfl | refine And.intro ?_ ?_)), by (repeat' (first | exact trivial | exact rfl | exact congrArg (SV.int .i64) eB | exact congrArg (SV.int .i64) hq | exact congrArg (SV.int .i64) el | refine And.intro ?_ ?_)), rfl⟩
      · refine CodeP.pre ?_ (seg6 t hv w q bg low la lm ll lh hbase hw cap hc1 hc2)
        exact ent_tau [0, 1, 2, 3, 4, 5, 6, 7, 9, 10, 8] ⟨by (repeat' (first | exact trivial | exact rfl | exact fun _ _ => rfl | exact Or.inl rfl | refine And.intro ?_ ?_)), by (repeat' (first | exact trivial | exact rfl | exact congrArg (SV.int .i64) eB | exact congrArg (SV.int .i64) hq | exact congrArg (SV.int .i64) el | refine And.intro ?_ ?_)), rfl⟩
      · refine CodeP.pre ?_ (seg6 t hv w q bg low la lm ll lh hbase hw cap hc1 hc2)
        exact ent_tau [0, 1, 2, 3, 4, 5, 6, 7, 10, 9, 8] ⟨by (repeat' (first | exact trivial | exact rfl | exact fun _ _ => rfl | exact Or.inl rfl | refine And.intro ?_ ?_)), by (repeat' (first | exact trivial | exact rfl | exact congrArg (SV.int .i64) eB | exact congrArg (SV.int .i64) hq | exact congrArg (SV.int .i64) el | refine And.intro ?_ ?_)), rfl⟩
      · refine CodeP.pre ?_ (seg6 t hv w q bg low la lm ll lh hbase hw cap hc1 hc2)
        exact ent_tau [0, 1, 2, 3, 4, 5, 6, 7, 8, 10, 9] ⟨by (repeat' (first | exact trivial | exact rfl | exact fun _ _ => rfl | exact Or.inl rfl | refine And.intro ?_ ?_)), by (repeat' (first | exact trivial | exact rfl | exact congrArg (SV.int .i64) eB | exact congrArg (SV.int .i64) hq | exact congrArg (SV.int .i64) el | refine And.intro ?_ ?_)), rfl⟩
      · refine CodeP.pre ?_ (seg6 t hv w q bg low la lm ll lh hbase hw cap hc1 hc2)
        exact ent_tau [0, 1, 2, 3, 4, 5, 6, 7, 8, 9, 10] ⟨by (repeat' (first | exact trivial | exact rfl | exact fun _ _ => rfl | exact Or.inl rfl | refine And.intro ?_ ?_)), by (repeat' (first | exact trivial | exact rfl | exact congrArg (SV.int .i64) eB | exact congrArg (SV.int .i64) hq | exact congrArg (SV.int .i64) el | refine And.intro ?_ ?_)), rfl⟩
      · refine CodeP.pre ?_ (seg6 t hv w q bg low la lm ll lh hbase hw cap hc1 hc2)
        exact ent_tau [0, 1, 2, 3, 4, 5, 6, 7, 10, 8, 9] ⟨by (repeat' (first | exact trivial | exact rfl | exact fun _ _ => rfl | exact Or.inl rfl | refine And.intro ?_ ?_)), by (repeat' (first | exact trivial | exact rfl | exact congrArg (SV.int .i64) eB | exact congrArg (SV.int .i64) hq | exact congrArg (SV.int .i64) el | refine And.intro ?_ ?_)), rfl⟩
      · refine CodeP.pre ?_ (seg6 t hv w q bg low la lm ll lh hbase hw cap hc1 hc2)
        exact ent_tau [0, 1, 2, 3, 4, 5, 6, 7, 9, 8, 10] ⟨by (repeat' (first | exact trivial | exact rfl | exact fun _ _ => rfl | exact Or.inl rfl | refine And.intro ?_ ?_)), by (repeat' (first | exact trivial | exact rfl | exact congrArg (SV.int .i64) eB | exact congrArg (SV.int .i64) hq | exact congrArg (SV.int .i64) el | refine And.intro ?_ ?_)), rfl⟩
      · refine CodeP.pre ?_ (seg6 t hv w q bg low la lm ll lh hbase hw cap hc1 hc2)
        exact ent_tau [0, 1, 2, 3, 4, 5, 6, 9, 7, 10, 8] ⟨by (repeat' (first | exact trivial | exact rfl | exact fun _ _ => rfl | exact Or.inl rfl | refine And.intro ?_ ?_)), by (repeat' (first | exact trivial | exact rfl | exact congrArg (SV.int .i64) eB | exact congrArg (SV.int .i64) hq | exact congrArg (SV.int .i64) el | refine And.intro ?_ ?_)), rfl⟩
      · refine CodeP.pre ?_ (seg6 t hv w q bg low la lm ll lh hbase hw cap hc1 hc2)
        exact ent_tau [0, 1, 2, 3, 4, 5, 6, 10, 7, 9, 8] ⟨by (repeat' (first | exact trivial | exact rfl | exact fun _ _ => rfl | exact Or.inl rfl | refine And.intro ?_ ?_)), by (repeat' (first | exact trivial | exact rfl | exact congrArg (SV.int .i64) eB | exact congrArg (SV.int .i64) hq | exact congrArg (SV.int .i64) el | refine And.intro ?_ ?_)), rfl⟩
      · refine CodeP.pre ?_ (seg6 t hv w q bg low la lm ll lh hbase hw cap hc1 hc2)
        exact ent_tau [0, 1, 2, 3, 4, 5, 6, 8, 7, 10, 9] ⟨by (repeat' (first | exact trivial | exact rfl | exact fun _ _ => rfl | exact Or.inl rfl | refine And.intro ?_ ?_)), by (repeat' (first | exact trivial | exact rfl | exact congrArg (SV.int .i64) eB | exact congrArg (SV.int .i64) hq | exact congrArg (SV.int .i64) el | refine And.intro ?_ ?_)), rfl⟩
      · refine CodeP.pre ?_ (seg6 t hv w q bg low la lm ll lh hbase hw cap hc1 hc2)
        exact ent_tau [0, 1, 2, 3, 4, 5, 6, 8, 7, 9, 10] ⟨by (repeat' (first | exact trivial | exact rfl | exact fun _ _ => rfl | exact Or.inl rfl | refine And.intro ?_ ?_)), by (repeat' (first | exact trivial | exact rfl | exact congrArg (SV.int .i64) eB | exact congrArg (SV.int .i64) hq | exact congrArg (SV.int .i64) el | refine And.intro ?_ ?_)), rfl⟩
      · refine CodeP.pre ?_ (seg6 t hv w q bg low la lm ll lh hbase hw cap hc1 hc2)
        exact ent_tau [0, 1, 2, 3, 4, 5, 6, 10, 7, 8, 9] ⟨by (repeat' (first | exact trivial | exact rfl | exact fun _ _ => rfl | exact Or.inl rfl | refine And.intro ?_ ?_)), by (repeat' (first | exact trivial | exact rfl | exact congrArg (SV.int .i64) eB | exact congrArg (SV.int .i64) hq | exact congrArg (SV.int .i64) el | refine And.intro ?_ ?_)), rfl⟩
      · refine CodeP.pre ?_ (seg6 t hv w q bg low la lm ll lh hbase hw cap hc1 hc2)
        exact ent_tau [0, 1, 2, 3, 4, 5, 6, 9, 7, 8, 10] ⟨by (repeat' (first | exact trivial | exact rfl | exact fun _ _ => rfl | exact Or.inl rfl | refine And.intro ?_ ?_)), by (repeat' (first | exact trivial | exact rfl | exact congrArg (SV.int .i64) eB | exact congrArg (SV.int .i64) hq | exact congrArg (SV.int .i64) el | refine And.intro ?_ ?_)), rfl⟩
      · refine CodeP.pre ?_ (seg6 t hv w q bg low la lm ll lh hbase hw cap hc1 hc2)
        exact ent_tau [0, 1, 2, 3, 4, 5, 6, 9, 10, 7, 8] ⟨by (repeat' (first | exact trivial | exact rfl | exact fun _ _ => rfl | exact Or.inl rfl | refine And.intro ?_ ?_)), by (repeat' (first | exact trivial | exact rfl | exact congrArg (SV.int .i64) eB | exact congrArg (SV.int .i64) hq | exact congrArg (SV.int .i64) el | refine And.intro ?_ ?_)), rfl⟩
      · refine CodeP.pre ?_ (seg6 t hv w q bg low la lm ll lh hbase hw cap hc1 hc2)
        exact ent_tau [0, 1, 2, 3, 4, 5, 6, 10, 9, 7, 8] ⟨by (repeat' (first | exact trivial | exact rfl | exact fun _ _ => rfl | exact Or.inl rfl | refine And.intro ?_ ?_)), by (repeat' (first | exact trivial | exact rfl | exact congrArg (SV.int .i64) eB | exact congrArg (SV.int .i64) hq | exact congrArg (SV.int .i64) el | refine And.intro ?_ ?_)), rfl⟩
      · refine CodeP.pre ?_ (seg6 t hv w q bg low la lm ll lh hbase hw cap hc1 hc2)
        exact ent_tau [0, 1, 2, 3, 4, 5, 6, 8, 10, 7, 9] ⟨by (repeat' (first | exact trivial | exact rfl | exact fun _ _ => rfl | exact Or.inl rfl | refine And.intro ?_ ?_)), by (repeat' (first | exact trivial | exact rfl | exact congrArg (SV.int .i64) eB | exact congrArg (SV.int .i64) hq | exact congrArg (SV.int .i64) el | refine And.intro ?_ ?_)), rfl⟩
      · refine CodeP.pre ?_ (seg6 t hv w q bg low la lm ll lh hbase hw cap hc1 hc2)
        exact ent_tau [0, 1, 2, 3, 4, 5, 6, 8, 9, 7, 10] ⟨by (repeat' (first | exact trivial | exact rfl | exact fun _ _ => rfl | exact Or.inl rfl | refine And.intro ?_ ?_)), by (repeat' (first | exact trivial | exact rfl | exact congrArg (SV.int .i64) eB | exact congrArg (SV.int .i64) hq | exact congrArg (SV.int .i64) el | refine And.intro ?_ ?_)), rfl⟩
      · refine CodeP.pre ?_ (seg6 t hv w q bg low la lm ll lh hbase hw cap hc1 hc2)
        exact ent_tau [0, 1, 2, 3, 4, 5, 6, 10, 8, 7, 9] ⟨by (repeat' (first | exact trivial | exact rfl | exact fun _ _ => rfl | exact Or.inl rfl | refine And.intro ?_ ?_)), by (repeat' (first | exact trivial | exact rfl | exact congrArg (SV.int .i64) eB | exact congrArg (SV.int .i64) hq | exact congrArg (SV.int .i64) el | refine And.intro ?_ ?_)), rfl⟩
      · refine CodeP.pre ?_ (seg6 t hv w q bg low la lm ll lh hbase hw cap hc1 hc2)
        exact ent_tau [0, 1, 2, 3, 4, 5, 6, 9, 8, 7, 10] ⟨by (repeat' (first | exact trivial | exact rfl | exact fun _ _ => rfl | exact Or.inl rfl | refine And.intro ?_ ?_)), by (repeat' (first | exact trivial | exact rfl | exact congrArg (SV.int .i64) eB | exact congrArg (SV.int .i64) hq | exact congrArg (SV.int .i64) el | refine And.intro ?_ ?_)), rfl⟩
  · have hl2 : decide (40 < max (max t.nM t.nS) t.nL) = true := by
      cases hc : decide (40 < max (max t.nM t.nS) t.nL)
      · rw [hc] at hl
        cases hl
      · rfl
    refine And.intro ?_ (And.intro (fun hb => ?_) (fun hb => ?_))
    · (repeat' (first | exact True.intro | exact d1 _ | exact d1t _ | exact d2 _ | exact d3 _ _ | exact d3f _ _ | exact fun _ _ => rfl | exact fun _ => rfl | exact rfl | refine And.intro ?_ ?_))
      all_goals exact fun h => absurd (h.symm.trans hl) (by decide)
    · refine And.intro trivial ?_
      refine (t14).use [3, 4] ?_ (by (repeat' (first | exact trivial | exact rfl | exact fun _ _ => rfl | exact Or.inl rfl | refine And.intro ?_ ?_))) rfl
      refine And.intro trivial ?_
      exact ent_tau [0, 1, 2, 3, 4] ⟨by (repeat' (first | exact trivial | exact rfl | exact fun _ _ => rfl | exact Or.inl rfl | refine And.intro ?_ ?_)), by (repeat' (first | exact trivial | exact rfl | exact congrArg (SV.int .i64) (Int.natCast_succ _).symm | refine And.intro ?_ ?_)), rfl⟩
    · rw [hl2] at hb
      cases hb
end Go.Proofs.YtipbempkngfdbaaDoor
/-
  A look that is handed to a statement.
-/
namespace Go.Proofs.YtipbempkngfdbaaDoor
open Go Go.Sy Go.ChangeShapes Go.WideShapes Go.ChangeAt Go.RowKit
set_option maxRecDepth 100000

structure LookD where
  p : Int
  m : Int
  lo : Int
  hi : Int
def LookD.S (k : LookD) : SV := .agg [.int .i64 k.p, .int .i64 k.m, .int .i64 k.lo, .int .i64 k.hi]
def LookD.V (k : LookD) : Value := .agg #[.int .i64 k.p, .int .i64 k.m, .int .i64 k.lo, .int .i64 k.hi]
theorem den_look (η : Nam) (k : LookD) : den η k.S = some k.V := by
  simp [LookD.S, LookD.V, den, denL]
theorem lookOpen {H : Type} {enc : TypeId × Value → H} {w : World} {base : Nat} {sp : Nat → Bool} {held : Bool} {v : Value} {d : DataW H} {ps : List MemPlace} {r : Reach} {b0 : Nat}
    (hval : Value.okWide Tryd.prog w r b0 62 v) (h : DataW.Trod enc Tryd.prog w base sp held 62 v d ps) : ∃ k : LookD, v = k.V ∧ (InR .i64 k.p ∧ InR .i64 k.m) ∧ InR .i64 k.lo ∧ InR .i64 k.hi := by
  unfold Value.okWide at hval
  rw [Tryd.underlying62] at hval
  obtain ⟨cs, rfl, _⟩ := hval
  obtain ⟨fuel, h⟩ := h
  obtain ⟨zs, h1, h2, h3⟩ := it62.2 _ _ _ h
  match zs, h1 with
  | [a, b, c, e], _ =>
    refine ⟨⟨a, b, c, e⟩, ?_, ⟨h2 a (by simp), h2 b (by simp)⟩, h2 c (by simp), h2 e (by simp)⟩
    have h4 : cs.toList = [.int .i64 a, .int .i64 b, .int .i64 c, .int .i64 e] := h3
    unfold LookD.V
    congr 1
    exact Array.ext' (by rw [h4])
end Go.Proofs.YtipbempkngfdbaaDoor
