/-
  Contract of the specification: Next.
-/
import Derived.Test.YtipbempkngfdbaaGreatDoorZ3
namespace Go.Proofs.YtipbempkngfdbaaGreatDoor
open Go Go.Sy
set_option linter.unusedSimpArgs false
set_option maxRecDepth 100000
set_option maxHeartbeats 4000000
attribute [local irreducible] CallP CodeP Ent YieldP

theorem next_inv {t : TD} (hv : ¬ t.Valid) (m : Int) : t.nextT m = ⟨(0, 0), 1⟩ := by
  unfold TD.nextT
  rw [if_pos hv]
theorem next_arg {t : TD} (hv : t.Valid) {m : Int} (h : ¬ t.isMin m) : t.nextT m = ⟨(0, 0), 2⟩ := by
  unfold TD.nextT
  rw [if_neg (fun h => h hv), if_pos h]
theorem next_nil {t : TD} (hv : t.Valid) (hn : t.tru = []) {m : Int} (h : t.isMin m) : t.nextT m = ⟨(0, 0), 10⟩ := by
  unfold TD.nextT
  rw [if_neg (fun h => h hv), if_neg (fun h2 => h2 h), if_pos ((all_nil hv).2 hn)]
theorem nextF_one (f : Nat → Int) : nextF f 1 = (0, f 0) := by
  simp [nextF]
theorem zNext (t : TD) (ht : t.ok) (hlong : max (max t.nM t.nS) t.nL ≤ 40) (m : Int) :
    CallP Tryz.prog 17 [t.A, .int .i64 m] t.H (Ret (.tup [.int .i64 (t.nextT m).v.1, .int .i64 (t.nextT m).v.2, .int .i64 (t.nextT m).e]) t.H) := by
  have c58 := t58 t (by omega) m
  obtain ⟨c, hc⟩ : ∃ c, (decide (0 < t.nM) && inB m (t.mi 0) (t.mi (t.nM - 1))) = c := ⟨_, rfl⟩
  rw [hc] at c58
  have arg : t.Valid → c = false → ¬ t.isMin m := fun hv h h3 => by
    have e3 : c = true := by rw [← hc]; simp only [inB, Bool.and_eq_true, decide_eq_true_eq]; exact ⟨by have := hv.1; omega, h3.1, h3.2⟩
    rw [e3] at h
    cases h
  have good : c = true → t.isMin m := fun h => by
    rw [← hc] at h
    simp only [inB, Bool.and_eq_true, decide_eq_true_eq] at h
    exact h.2
  refine callR (E := E) E_ok Tryz.func17 rfl ?_
  refine And.intro ?_ ?_
  · (repeat' (first | exact trivial | exact fun _ => rfl | exact rfl | refine And.intro ?_ ?_))
  refine drawP E_ok [3] pl17_1 (by kernel_rfl) ?_
  refine And.intro (And.intro ?_ ?_) trivial
  · (repeat' (first | exact True.intro | exact d1 _ | exact d1t _ | exact d2 _ | exact d3 _ _ | exact d3f _ _ | exact fun _ _ => rfl | exact fun _ => rfl | exact rfl | refine And.intro ?_ ?_))
  refine c58.use [0, 1, 2] ?_ (by (repeat' (first | exact trivial | exact rfl | exact fun _ _ => rfl | exact Or.inl rfl | refine And.intro ?_ ?_))) rfl
  refine And.intro (And.intro ?_ ?_) trivial
  · (repeat' (first | exact True.intro | exact d1 _ | exact d1t _ | exact d2 _ | exact d3 _ _ | exact d3f _ _ | exact fun _ _ => rfl | exact fun _ => rfl | exact rfl | refine And.intro ?_ ?_))
  refine CallP.frameH (t51 t ht c) [0, 1, 2] (by (repeat' (first | exact trivial | exact rfl | exact fun _ _ => rfl | exact Or.inl rfl | refine And.intro ?_ ?_))) rfl ?_
  rintro ce h' (⟨hv, rfl, rfl⟩ | ⟨hv, hf, rfl, rfl⟩ | ⟨hv, hf, hX, rfl, rfl⟩ | ⟨hv, hf, hX, c2, ia, ib, ca, cb, hI, hc2, rfl, rfl⟩)
  · refine ⟨rfl, ?_⟩
    refine And.intro ?_ ?_
    · (repeat' (first | exact True.intro | exact d1 _ | exact d1t _ | exact d2 _ | exact d3 _ _ | exact d3f _ _ | exact fun _ _ => rfl | exact fun _ => rfl | exact rfl | refine And.intro ?_ ?_))
    refine And.intro rfl ?_
    refine And.intro ?_ (And.intro (fun h3 => ?_) (fun h3 => ?_))
    · (repeat' (first | exact trivial | exact fun _ => rfl | exact rfl | refine And.intro ?_ ?_))
    · have e := next_inv hv m
      (repeat' (first | exact trivial | exact fun _ => rfl | exact rfl | refine And.intro ?_ ?_))
      rw [e]
      exact ent_tau [0, 1, 2] ⟨by (repeat' (first | exact trivial | exact rfl | exact fun _ _ => rfl | exact Or.inl rfl | refine And.intro ?_ ?_)), by (repeat' (first | exact trivial | exact rfl | exact congrArg (SV.int .i64) (Int.natCast_succ _).symm | refine And.intro ?_ ?_)), rfl⟩
    · exact absurd h3 (by decide)
  · refine ⟨rfl, ?_⟩
    refine And.intro ?_ ?_
    · (repeat' (first | exact True.intro | exact d1 _ | exact d1t _ | exact d2 _ | exact d3 _ _ | exact d3f _ _ | exact fun _ _ => rfl | exact fun _ => rfl | exact rfl | refine And.intro ?_ ?_))
    refine And.intro rfl ?_
    refine And.intro ?_ (And.intro (fun h3 => ?_) (fun h3 => ?_))
    · (repeat' (first | exact trivial | exact fun _ => rfl | exact rfl | refine And.intro ?_ ?_))
    · have e := next_arg hv (arg hv hf)
      (repeat' (first | exact trivial | exact fun _ => rfl | exact rfl | refine And.intro ?_ ?_))
      rw [e]
      exact ent_tau [0, 1, 2] ⟨by (repeat' (first | exact trivial | exact rfl | exact fun _ _ => rfl | exact Or.inl rfl | refine And.intro ?_ ?_)), by (repeat' (first | exact trivial | exact rfl | exact congrArg (SV.int .i64) (Int.natCast_succ _).symm | refine And.intro ?_ ?_)), rfl⟩
    · exact absurd h3 (by decide)
  · refine ⟨rfl, ?_⟩
    refine And.intro ?_ ?_
    · (repeat' (first | exact True.intro | exact d1 _ | exact d1t _ | exact d2 _ | exact d3 _ _ | exact d3f _ _ | exact fun _ _ => rfl | exact fun _ => rfl | exact rfl | refine And.intro ?_ ?_))
    refine And.intro rfl ?_
    refine And.intro ?_ (And.intro (fun h3 => ?_) (fun h3 => ?_))
    · (repeat' (first | exact trivial | exact fun _ => rfl | exact rfl | refine And.intro ?_ ?_))
    · have e := next_nil hv hX (good hf)
      (repeat' (first | exact trivial | exact fun _ => rfl | exact rfl | refine And.intro ?_ ?_))
      rw [e]
      exact ent_tau [0, 1, 2] ⟨by (repeat' (first | exact trivial | exact rfl | exact fun _ _ => rfl | exact Or.inl rfl | refine And.intro ?_ ?_)), by (repeat' (first | exact trivial | exact rfl | exact congrArg (SV.int .i64) (Int.natCast_succ _).symm | refine And.intro ?_ ?_)), rfl⟩
    · exact absurd h3 (by decide)
  · refine ⟨rfl, ?_⟩
    refine And.intro ?_ ?_
    · (repeat' (first | exact True.intro | exact d1 _ | exact d1t _ | exact d2 _ | exact d3 _ _ | exact d3f _ _ | exact fun _ _ => rfl | exact fun _ => rfl | exact rfl | refine And.intro ?_ ?_))
    refine And.intro rfl ?_
    refine And.intro ?_ (And.intro (fun h3 => ?_) (fun h3 => ?_))
    · (repeat' (first | exact trivial | exact fun _ => rfl | exact rfl | refine And.intro ?_ ?_))
    · exact absurd h3 (by decide)
    have hm := good hf
    have hS := hv.2.1
    have fr := next_ref hv hX hm
    have cl := fun (p : Int) (hp : 0 ≤ p ∧ p < t.nS) => zLeft t hv t.tru (fun _ h => h) ia ib ca cb hI (Nat.le_trans (tru_len hv) (by decide)) c2 p m hp hm
    refine And.intro ?_ ?_
    · (repeat' (first | exact trivial | exact fun _ => rfl | exact rfl | refine And.intro ?_ ?_))
    refine (cl 0 ⟨Int.le_refl _, by omega⟩).use [0, 1, 2, 4, 5, 6] ?_ (by (repeat' (first | exact trivial | exact rfl | exact fun _ _ => rfl | exact fun _ _ _ _ => rfl | exact Or.inl rfl | exact Or.inr rfl | refine And.intro ?_ ?_))) rfl
    obtain ⟨f, ef⟩ : ∃ f : Nat → Int, (fun p => ((outF' (fun i => t.dep m p (t.tru.getD i noTru)) t.tru.length : Nat) : Int)) = f := ⟨_, rfl⟩
    have efi : ∀ p : Nat, ((outF' (fun i => t.dep m p (t.tru.getD i noTru)) t.tru.length : Nat) : Int) = f p := fun p => by rw [← ef]
    rw [ef] at fr
    refine And.intro ?_ ?_
    · (repeat' (first | exact trivial | exact fun _ => rfl | exact rfl | refine And.intro ?_ ?_))
    refine loopP E_ok [1, 2, 7] (fun p : Nat => [(9, .int .i64 (nextF f p).1), (10, .int .i64 (nextF f p).2), (11, .int .i64 p)]) (fun _ _ => t.H ++ [some (.cells [.osl t.bM 0 3 t.nM t.cM, .osl t.bS 1 2 t.nS t.cS, .osl t.bL 2 4 t.nL t.cL]), some (.arr 2 t.tru.length c2 (rowsT 5 6 t.nM t.nS ia ib ca cb)), some (poolL true t.nM t.hts), some (poolL true t.nS t.sds)]) (fun p => 1 ≤ p ∧ p ≤ t.nS) (fun p => t.nS - p) 1 ⟨Nat.le_refl _, hS.1⟩ ?_ ?_
    · refine ent_tau [0, 1, 2, 3, 4, 5, 6] ⟨?_, ?_, rfl⟩
      · (repeat' (first | exact trivial | exact rfl | exact fun _ _ => rfl | exact fun _ _ _ _ => rfl | exact Or.inl rfl | exact Or.inr rfl | refine And.intro ?_ ?_))
      · (repeat' (first | exact trivial | exact rfl | exact congrArg (SV.int .i64) (Int.natCast_succ _).symm | refine And.intro ?_ ?_))
        exact congrArg (SV.int .i64) ((efi 0).trans (by rw [nextF_one]))
    rintro p ⟨hp1, hp2⟩
    refine And.intro ?_ (And.intro (fun hcc => ?_) (fun hcc => ?_))
    · (repeat' (first | exact trivial | exact fun _ => rfl | exact rfl | refine And.intro ?_ ?_))
    · have hlt : p < t.nS := by
        have := of_decide_eq_true hcc
        omega
      refine And.intro ?_ ?_
      · (repeat' (first | exact trivial | exact fun _ => rfl | exact rfl | refine And.intro ?_ ?_))
      refine (cl (p : Int) ⟨by omega, by omega⟩).use [0, 1, 2, 4, 5, 6] ?_ (by (repeat' (first | exact trivial | exact rfl | exact fun _ _ => rfl | exact fun _ _ _ _ => rfl | exact Or.inl rfl | exact Or.inr rfl | refine And.intro ?_ ?_))) rfl
      have hs : nextF f (p + 1) = if p = 0 ∨ f p < (nextF f p).2 then ((p : Int), f p) else nextF f p := rfl
      have efp := efi p
      refine And.intro ?_ (And.intro (fun hb => ?_) (fun hb => ?_))
      · (repeat' (first | exact trivial | exact fun _ => rfl | exact rfl | refine And.intro ?_ ?_))
      · have hb2 : ((outF' (fun i => t.dep m p (t.tru.getD i noTru)) t.tru.length : Nat) : Int) < (nextF f p).2 := of_decide_eq_true hb
        rw [efp] at hb2
        rw [if_pos (.inr hb2)] at hs
        refine And.intro ?_ ?_
        · (repeat' (first | exact trivial | exact fun _ => rfl | exact rfl | refine And.intro ?_ ?_))
          all_goals omega
        refine ⟨p + 1, ⟨by omega, hlt⟩, by omega, ?_⟩
        refine ent_tau [0, 1, 2, 3, 4, 5, 6] ⟨?_, ?_, rfl⟩
        · (repeat' (first | exact trivial | exact rfl | exact fun _ _ => rfl | exact fun _ _ _ _ => rfl | exact Or.inl rfl | exact Or.inr rfl | refine And.intro ?_ ?_))
        · (repeat' (first | exact trivial | exact rfl | exact congrArg (SV.int .i64) (Int.natCast_succ _).symm | refine And.intro ?_ ?_))
          · exact congrArg (SV.int .i64) (by rw [hs])
          · exact congrArg (SV.int .i64) (efp.trans (by rw [hs]))
      · have hb2 : ¬ ((outF' (fun i => t.dep m p (t.tru.getD i noTru)) t.tru.length : Nat) : Int) < (nextF f p).2 := of_decide_eq_false hb
        rw [efp] at hb2
        rw [if_neg (by omega)] at hs
        refine And.intro ?_ ?_
        · (repeat' (first | exact trivial | exact fun _ => rfl | exact rfl | refine And.intro ?_ ?_))
          all_goals omega
        refine ⟨p + 1, ⟨by omega, hlt⟩, by omega, ?_⟩
        refine ent_tau [0, 1, 2, 3, 4, 5, 6] ⟨?_, ?_, rfl⟩
        · (repeat' (first | exact trivial | exact rfl | exact fun _ _ => rfl | exact fun _ _ _ _ => rfl | exact Or.inl rfl | exact Or.inr rfl | refine And.intro ?_ ?_))
        · (repeat' (first | exact trivial | exact rfl | exact congrArg (SV.int .i64) (Int.natCast_succ _).symm | refine And.intro ?_ ?_))
          · exact congrArg (SV.int .i64) (by rw [hs])
          · exact congrArg (SV.int .i64) (by rw [hs])
    · have e : p = t.nS := by
        have := of_decide_eq_false hcc
        omega
      subst e
      (repeat' (first | exact trivial | exact fun _ => rfl | exact rfl | refine And.intro ?_ ?_))
      rw [fr]
      exact ent_tau [0, 1, 2] ⟨by (repeat' (first | exact trivial | exact rfl | exact fun _ _ => rfl | exact fun _ _ _ _ => rfl | exact Or.inl rfl | exact Or.inr rfl | refine And.intro ?_ ?_)), by (repeat' (first | exact trivial | exact rfl | exact congrArg (SV.int .i64) (Int.natCast_succ _).symm | refine And.intro ?_ ?_)), rfl⟩
end Go.Proofs.YtipbempkngfdbaaGreatDoor
