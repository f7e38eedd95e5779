/-
  Contracts of the specification: Sand, Depth.
-/
import Derived.Test.YtipbempkngfdbaaGreatDoorZ1
namespace Go.Proofs.YtipbempkngfdbaaGreatDoor
open Go Go.Sy
set_option linter.unusedSimpArgs false
set_option maxRecDepth 100000
set_option maxHeartbeats 4000000
attribute [local irreducible] CallP CodeP Ent YieldP
theorem zSand (t : TD) (ht : t.ok) (hlong : max (max t.nM t.nS) t.nL ≤ 40) (p : Int) :
    CallP Tryz.prog 11 [t.A, .int .i64 p] t.H (Ret (.tup [.agg [.int .i64 (t.sandT p).v.1, .int .i64 (t.sandT p).v.2], .int .i64 (t.sandT p).e]) t.H) := by
  have c52 := t52 t (by omega) p
  obtain ⟨c, hc⟩ : ∃ c, inB p 0 (t.nS - 1) = c := ⟨_, rfl⟩
  rw [hc] at c52
  have arg : c = false → ¬ t.isPl p := fun h h3 => by
    have e3 : c = true := by rw [← hc]; simp only [inB, Bool.and_eq_true, decide_eq_true_eq]; exact ⟨h3.1, h3.2⟩
    rw [e3] at h
    cases h
  have good : c = true → t.isPl p := fun h => by
    rw [← hc] at h
    simp only [inB, Bool.and_eq_true, decide_eq_true_eq] at h
    exact ⟨h.1, h.2⟩
  refine callR (E := E) E_ok Tryz.func11 rfl ?_
  refine And.intro ?_ ?_
  · (repeat' (first | exact trivial | exact fun _ => rfl | exact rfl | refine And.intro ?_ ?_))
  refine drawP E_ok [3] pl11_1 (by kernel_rfl) ?_
  refine And.intro (And.intro ?_ ?_) trivial
  · (repeat' (first | exact True.intro | exact d1 _ | exact d1t _ | exact d2 _ | exact d3 _ _ | exact d3f _ _ | exact fun _ _ => rfl | exact fun _ => rfl | exact rfl | refine And.intro ?_ ?_))
  refine c52.use [0, 1, 2] ?_ (by (repeat' (first | exact trivial | exact rfl | exact fun _ _ => rfl | exact Or.inl rfl | refine And.intro ?_ ?_))) rfl
  refine And.intro (And.intro ?_ ?_) trivial
  · (repeat' (first | exact True.intro | exact d1 _ | exact d1t _ | exact d2 _ | exact d3 _ _ | exact d3f _ _ | exact fun _ _ => rfl | exact fun _ => rfl | exact rfl | refine And.intro ?_ ?_))
  refine CallP.frameH (t51 t ht c) [0, 1, 2] (by (repeat' (first | exact trivial | exact rfl | exact fun _ _ => rfl | exact Or.inl rfl | refine And.intro ?_ ?_))) rfl ?_
  rintro ce h' (⟨hv, rfl, rfl⟩ | ⟨hv, hf, rfl, rfl⟩ | ⟨hv, hf, hX, rfl, rfl⟩ | ⟨hv, hf, hX, c2, ia, ib, ca, cb, hI, hc2, rfl, rfl⟩)
  · refine ⟨rfl, ?_⟩
    refine And.intro ?_ ?_
    · (repeat' (first | exact True.intro | exact d1 _ | exact d1t _ | exact d2 _ | exact d3 _ _ | exact d3f _ _ | exact fun _ _ => rfl | exact fun _ => rfl | exact rfl | refine And.intro ?_ ?_))
    refine And.intro rfl ?_
    refine And.intro ?_ (And.intro (fun h3 => ?_) (fun h3 => ?_))
    · (repeat' (first | exact trivial | exact fun _ => rfl | exact rfl | refine And.intro ?_ ?_))
    · have e := sand_inv hv p
      (repeat' (first | exact trivial | exact fun _ => rfl | exact rfl | refine And.intro ?_ ?_))
      rw [e]
      exact ent_tau [0, 1, 2] ⟨by (repeat' (first | exact trivial | exact rfl | exact fun _ _ => rfl | exact Or.inl rfl | refine And.intro ?_ ?_)), by (repeat' (first | exact trivial | exact rfl | exact congrArg (SV.int .i64) (Int.natCast_succ _).symm | refine And.intro ?_ ?_)), rfl⟩
    · exact absurd h3 (by decide)
  · refine ⟨rfl, ?_⟩
    refine And.intro ?_ ?_
    · (repeat' (first | exact True.intro | exact d1 _ | exact d1t _ | exact d2 _ | exact d3 _ _ | exact d3f _ _ | exact fun _ _ => rfl | exact fun _ => rfl | exact rfl | refine And.intro ?_ ?_))
    refine And.intro rfl ?_
    refine And.intro ?_ (And.intro (fun h3 => ?_) (fun h3 => ?_))
    · (repeat' (first | exact trivial | exact fun _ => rfl | exact rfl | refine And.intro ?_ ?_))
    · have e := sand_arg hv (arg hf)
      (repeat' (first | exact trivial | exact fun _ => rfl | exact rfl | refine And.intro ?_ ?_))
      rw [e]
      exact ent_tau [0, 1, 2] ⟨by (repeat' (first | exact trivial | exact rfl | exact fun _ _ => rfl | exact Or.inl rfl | refine And.intro ?_ ?_)), by (repeat' (first | exact trivial | exact rfl | exact congrArg (SV.int .i64) (Int.natCast_succ _).symm | refine And.intro ?_ ?_)), rfl⟩
    · exact absurd h3 (by decide)
  · refine ⟨rfl, ?_⟩
    refine And.intro ?_ ?_
    · (repeat' (first | exact True.intro | exact d1 _ | exact d1t _ | exact d2 _ | exact d3 _ _ | exact d3f _ _ | exact fun _ _ => rfl | exact fun _ => rfl | exact rfl | refine And.intro ?_ ?_))
    refine And.intro rfl ?_
    refine And.intro ?_ (And.intro (fun h3 => ?_) (fun h3 => ?_))
    · (repeat' (first | exact trivial | exact fun _ => rfl | exact rfl | refine And.intro ?_ ?_))
    · have e := sand_nil' hv hX (good hf)
      (repeat' (first | exact trivial | exact fun _ => rfl | exact rfl | refine And.intro ?_ ?_))
      rw [e]
      exact ent_tau [0, 1, 2] ⟨by (repeat' (first | exact trivial | exact rfl | exact fun _ _ => rfl | exact Or.inl rfl | refine And.intro ?_ ?_)), by (repeat' (first | exact trivial | exact rfl | exact congrArg (SV.int .i64) (Int.natCast_succ _).symm | refine And.intro ?_ ?_)), rfl⟩
    · exact absurd h3 (by decide)
  · refine ⟨rfl, ?_⟩
    refine And.intro ?_ ?_
    · (repeat' (first | exact True.intro | exact d1 _ | exact d1t _ | exact d2 _ | exact d3 _ _ | exact d3f _ _ | exact fun _ _ => rfl | exact fun _ => rfl | exact rfl | refine And.intro ?_ ?_))
    refine And.intro rfl ?_
    refine And.intro ?_ (And.intro (fun h3 => ?_) (fun h3 => ?_))
    · (repeat' (first | exact trivial | exact fun _ => rfl | exact rfl | refine And.intro ?_ ?_))
    · exact absurd h3 (by decide)
    have hp := good hf
    have hpn : p.toNat < t.nS := by
      have := hp.1
      have := hp.2
      omega
    have ep : ((p.toNat : Nat) : Int) = p := by have := hp.1; omega
    have e2 : 0 + p.toNat = p.toNat := by omega
    have fr : t.sandT p = ⟨spL (fun x => x.2 p.toNat) t.tru, 0⟩ := by
      have := sand_ref hv hX hpn
      rwa [ep] at this

    refine And.intro trivial ?_
    refine loopP E_ok [1, 2, 4, 6, 8] (fun i : Nat => [(9, .int .i64 i)]) (fun i _ => t.H ++ [some (.cells [.osl t.bM 0 3 t.nM t.cM, .osl t.bS 1 2 t.nS t.cS, .osl t.bL 2 4 t.nL t.cL]), some (.cells [.int .i64 0, .int .i64 0]), some (.arr 2 t.tru.length c2 (rowsT 6 7 t.nM t.nS ia ib ca cb)), some (poolL true t.nM t.hts), some (poolL true t.nS t.sds), some (.cells [.int .i64 (spF (fun i => (t.tru.getD i noTru).2 p.toNat) i).1, .int .i64 (spF (fun i => (t.tru.getD i noTru).2 p.toNat) i).2])])
      (fun i => i ≤ t.tru.length) (fun i => t.tru.length - i) 0 (Nat.zero_le _) ?_ ?_
    · exact ent_tau [0, 1, 2, 3, 4, 5, 6, 7, 8] ⟨by (repeat' (first | exact trivial | exact rfl | exact fun _ _ => rfl | exact fun _ _ _ _ => rfl | exact Or.inl rfl | exact Or.inr rfl | refine And.intro ?_ ?_)), by (repeat' (first | exact trivial | exact rfl | exact congrArg (SV.int .i64) (Int.natCast_succ _).symm | refine And.intro ?_ ?_)), rfl⟩
    rintro i hi
    have e1 : 0 + ((i : Nat) : Int).toNat = i := by omega
    refine And.intro ?_ (And.intro (fun hc => ?_) (fun hc => ?_))
    · (repeat' (first | exact trivial | exact fun _ => rfl | exact rfl | refine And.intro ?_ ?_))
    · have hlt : i < t.tru.length := by
        have := of_decide_eq_true hc
        omega
      have a := hI.a i hlt
      have b := hI.b i hlt
      have ev : t.sds.getD (ib (0 + ((i : Nat) : Int).toNat)) (fun _ => 0) (0 + p.toNat) = (t.tru.getD i noTru).2 p.toNat := by
        rw [e1, e2, ← b.2]
        rfl
      have hb1 : ib (0 + ((i : Nat) : Int).toNat) < t.sds.length := by rw [e1]; exact b.1
      have c99 : ∀ v, v = (t.tru.getD i noTru).2 p.toNat → CallP Tryz.prog 37 [.agg [.int .i64 (spF (fun i => (t.tru.getD i noTru).2 p.toNat) i).1, .int .i64 (spF (fun i => (t.tru.getD i noTru).2 p.toNat) i).2], .int .i64 v] []
          (Ret (.agg [.int .i64 (spF (fun i => (t.tru.getD i noTru).2 p.toNat) (i + 1)).1, .int .i64 (spF (fun i => (t.tru.getD i noTru).2 p.toNat) (i + 1)).2]) []) := fun v h => by
        rw [h]
        exact t99 _ _ _
      refine And.intro trivial ?_
      refine drawP E_ok [3, 5, 6, 7] pl11_8s (by kernel_rfl) ?_
      (repeat' (first | exact trivial | exact fun _ => rfl | exact rfl | refine And.intro ?_ ?_))
      all_goals first | omega | exact un (by omega) | exact hb1 | exact un hb1 | exact un (show 0 + p.toNat < t.nS by omega) | skip
      all_goals refine (c99 _ ev).use [] ?_ trivial rfl
      all_goals (repeat' (first | exact trivial | exact fun _ => rfl | exact rfl | refine And.intro ?_ ?_))
      all_goals first | omega | exact un (by omega) | skip
      all_goals refine ⟨i + 1, hlt, by omega, ?_⟩
      all_goals refine ent_tau [0, 1, 2, 3, 4, 5, 6, 7, 8] ⟨?_, ?_, rfl⟩
      all_goals first | (repeat' (first | exact trivial | exact rfl | exact fun _ _ => rfl | exact fun _ _ _ _ => rfl | exact Or.inl rfl | exact Or.inr rfl | refine And.intro ?_ ?_)) | skip
      all_goals (repeat' (first | exact trivial | exact rfl | exact congrArg (SV.int .i64) (Int.natCast_succ _).symm | refine And.intro ?_ ?_))
    · have e : i = t.tru.length := by
        have := of_decide_eq_false hc
        omega
      subst e
      (repeat' (first | exact trivial | exact fun _ => rfl | exact rfl | refine And.intro ?_ ?_))
      rw [fr]
      exact ent_tau [0, 1, 2] ⟨by (repeat' (first | exact trivial | exact rfl | exact fun _ _ => rfl | exact fun _ _ _ _ => rfl | exact Or.inl rfl | exact Or.inr rfl | refine And.intro ?_ ?_)), by (repeat' (first | exact trivial | exact rfl | exact congrArg (SV.int .i64) (Int.natCast_succ _).symm | refine And.intro ?_ ?_)), rfl⟩
theorem zDepth (t : TD) (ht : t.ok) (hlong : max (max t.nM t.nS) t.nL ≤ 40) (p m : Int) :
    CallP Tryz.prog 9 [t.A, .int .i64 p, .int .i64 m] t.H (Ret (.tup [.agg [.int .i64 (t.depthT p m).v.1, .int .i64 (t.depthT p m).v.2], .int .i64 (t.depthT p m).e]) t.H) := by
  have c52 := t52 t (by omega) p
  have c58 := t58 t (by omega) m
  obtain ⟨a, ha⟩ : ∃ a, inB p 0 (t.nS - 1) = a := ⟨_, rfl⟩
  obtain ⟨c, hc⟩ : ∃ c, (decide (0 < t.nM) && inB m (t.mi 0) (t.mi (t.nM - 1))) = c := ⟨_, rfl⟩
  rw [ha] at c52
  rw [hc] at c58
  have arg : t.Valid → (a && c) = false → ¬ (t.isPl p ∧ t.isMin m) := fun hv h h4 => by
    have e1 : a = true := by rw [← ha]; simp only [inB, Bool.and_eq_true, decide_eq_true_eq]; exact ⟨h4.1.1, h4.1.2⟩
    have e3 : c = true := by rw [← hc]; simp only [inB, Bool.and_eq_true, decide_eq_true_eq]; exact ⟨by have := hv.1; omega, h4.2.1, h4.2.2⟩
    rw [e1, e3] at h
    cases h
  have good : (a && c) = true → t.isPl p ∧ t.isMin m := fun h => by
    simp only [Bool.and_eq_true] at h
    obtain ⟨h1, h3⟩ := h
    rw [← ha] at h1
    rw [← hc] at h3
    simp only [inB, Bool.and_eq_true, decide_eq_true_eq] at h1 h3
    exact ⟨⟨h1.1, h1.2⟩, h3.2⟩
  refine callR (E := E) E_ok Tryz.func9 rfl ?_
  refine And.intro ?_ ?_
  · (repeat' (first | exact trivial | exact fun _ => rfl | exact rfl | refine And.intro ?_ ?_))
  refine drawP E_ok [3] pl9_1 (by kernel_rfl) ?_
  refine And.intro (And.intro ?_ ?_) trivial
  · (repeat' (first | exact True.intro | exact d1 _ | exact d1t _ | exact d2 _ | exact d3 _ _ | exact d3f _ _ | exact fun _ _ => rfl | exact fun _ => rfl | exact rfl | refine And.intro ?_ ?_))
  refine c52.use [0, 1, 2] ?_ (by (repeat' (first | exact trivial | exact rfl | exact fun _ _ => rfl | exact Or.inl rfl | refine And.intro ?_ ?_))) rfl
  cases a with
  | false =>
    refine And.intro (And.intro ?_ (And.intro (fun hgd => absurd hgd (by decide)) (fun hgd => ?_))) trivial
    · (repeat' (first | exact True.intro | exact d1 _ | exact d1t _ | exact d2 _ | exact d3 _ _ | exact d3f _ _ | exact fun _ _ => rfl | exact fun _ => rfl | exact rfl | refine And.intro ?_ ?_))
    refine And.intro (And.intro ?_ ?_) trivial
    · (repeat' (first | exact True.intro | exact d1 _ | exact d1t _ | exact d2 _ | exact d3 _ _ | exact d3f _ _ | exact fun _ _ => rfl | exact fun _ => rfl | exact rfl | refine And.intro ?_ ?_))
    refine CallP.frameH (t51 t ht false) [0, 1, 2] (by (repeat' (first | exact trivial | exact rfl | exact fun _ _ => rfl | exact Or.inl rfl | refine And.intro ?_ ?_))) rfl ?_
    rintro ce h' (⟨hv, rfl, rfl⟩ | ⟨hv, hf, rfl, rfl⟩ | ⟨hv, hf, hX, rfl, rfl⟩ | ⟨hv, hf, hX, c2, ia, ib, ca, cb, hI, hc2, rfl, rfl⟩)
    · refine ⟨rfl, ?_⟩
      refine And.intro ?_ ?_
      · (repeat' (first | exact True.intro | exact d1 _ | exact d1t _ | exact d2 _ | exact d3 _ _ | exact d3f _ _ | exact fun _ _ => rfl | exact fun _ => rfl | exact rfl | refine And.intro ?_ ?_))
      refine And.intro rfl ?_
      refine And.intro ?_ (And.intro (fun h3 => ?_) (fun h3 => ?_))
      · (repeat' (first | exact trivial | exact fun _ => rfl | exact rfl | refine And.intro ?_ ?_))
      · have e := depth_inv hv p m
        (repeat' (first | exact trivial | exact fun _ => rfl | exact rfl | refine And.intro ?_ ?_))
        rw [e]
        exact ent_tau [0, 1, 2] ⟨by (repeat' (first | exact trivial | exact rfl | exact fun _ _ => rfl | exact Or.inl rfl | refine And.intro ?_ ?_)), by (repeat' (first | exact trivial | exact rfl | exact congrArg (SV.int .i64) (Int.natCast_succ _).symm | refine And.intro ?_ ?_)), rfl⟩
      · exact absurd h3 (by decide)
    · refine ⟨rfl, ?_⟩
      refine And.intro ?_ ?_
      · (repeat' (first | exact True.intro | exact d1 _ | exact d1t _ | exact d2 _ | exact d3 _ _ | exact d3f _ _ | exact fun _ _ => rfl | exact fun _ => rfl | exact rfl | refine And.intro ?_ ?_))
      refine And.intro rfl ?_
      refine And.intro ?_ (And.intro (fun h3 => ?_) (fun h3 => ?_))
      · (repeat' (first | exact trivial | exact fun _ => rfl | exact rfl | refine And.intro ?_ ?_))
      · have e := depth_arg hv (arg hv (by rfl))
        (repeat' (first | exact trivial | exact fun _ => rfl | exact rfl | refine And.intro ?_ ?_))
        rw [e]
        exact ent_tau [0, 1, 2] ⟨by (repeat' (first | exact trivial | exact rfl | exact fun _ _ => rfl | exact Or.inl rfl | refine And.intro ?_ ?_)), by (repeat' (first | exact trivial | exact rfl | exact congrArg (SV.int .i64) (Int.natCast_succ _).symm | refine And.intro ?_ ?_)), rfl⟩
      · exact absurd h3 (by decide)
    · cases hf
    · cases hf
  | true =>
    refine And.intro (And.intro ?_ (And.intro (fun hgd => ?_) (fun hgd => absurd hgd (by decide)))) trivial
    · (repeat' (first | exact True.intro | exact d1 _ | exact d1t _ | exact d2 _ | exact d3 _ _ | exact d3f _ _ | exact fun _ _ => rfl | exact fun _ => rfl | exact rfl | refine And.intro ?_ ?_))
    refine c58.use [0, 1, 2] ?_ (by (repeat' (first | exact trivial | exact rfl | exact fun _ _ => rfl | exact Or.inl rfl | refine And.intro ?_ ?_))) rfl
    refine And.intro (And.intro ?_ ?_) trivial
    · (repeat' (first | exact True.intro | exact d1 _ | exact d1t _ | exact d2 _ | exact d3 _ _ | exact d3f _ _ | exact fun _ _ => rfl | exact fun _ => rfl | exact rfl | refine And.intro ?_ ?_))
    refine CallP.frameH (t51 t ht c) [0, 1, 2] (by (repeat' (first | exact trivial | exact rfl | exact fun _ _ => rfl | exact Or.inl rfl | refine And.intro ?_ ?_))) rfl ?_
    rintro ce h' (⟨hv, rfl, rfl⟩ | ⟨hv, hf, rfl, rfl⟩ | ⟨hv, hf, hX, rfl, rfl⟩ | ⟨hv, hf, hX, c2, ia, ib, ca, cb, hI, hc2, rfl, rfl⟩)
    · refine ⟨rfl, ?_⟩
      refine And.intro ?_ ?_
      · (repeat' (first | exact True.intro | exact d1 _ | exact d1t _ | exact d2 _ | exact d3 _ _ | exact d3f _ _ | exact fun _ _ => rfl | exact fun _ => rfl | exact rfl | refine And.intro ?_ ?_))
      refine And.intro rfl ?_
      refine And.intro ?_ (And.intro (fun h3 => ?_) (fun h3 => ?_))
      · (repeat' (first | exact trivial | exact fun _ => rfl | exact rfl | refine And.intro ?_ ?_))
      · have e := depth_inv hv p m
        (repeat' (first | exact trivial | exact fun _ => rfl | exact rfl | refine And.intro ?_ ?_))
        rw [e]
        exact ent_tau [0, 1, 2] ⟨by (repeat' (first | exact trivial | exact rfl | exact fun _ _ => rfl | exact Or.inl rfl | refine And.intro ?_ ?_)), by (repeat' (first | exact trivial | exact rfl | exact congrArg (SV.int .i64) (Int.natCast_succ _).symm | refine And.intro ?_ ?_)), rfl⟩
      · exact absurd h3 (by decide)
    · refine ⟨rfl, ?_⟩
      refine And.intro ?_ ?_
      · (repeat' (first | exact True.intro | exact d1 _ | exact d1t _ | exact d2 _ | exact d3 _ _ | exact d3f _ _ | exact fun _ _ => rfl | exact fun _ => rfl | exact rfl | refine And.intro ?_ ?_))
      refine And.intro rfl ?_
      refine And.intro ?_ (And.intro (fun h3 => ?_) (fun h3 => ?_))
      · (repeat' (first | exact trivial | exact fun _ => rfl | exact rfl | refine And.intro ?_ ?_))
      · have e := depth_arg hv (arg hv (by rw [hf]; rfl))
        (repeat' (first | exact trivial | exact fun _ => rfl | exact rfl | refine And.intro ?_ ?_))
        rw [e]
        exact ent_tau [0, 1, 2] ⟨by (repeat' (first | exact trivial | exact rfl | exact fun _ _ => rfl | exact Or.inl rfl | refine And.intro ?_ ?_)), by (repeat' (first | exact trivial | exact rfl | exact congrArg (SV.int .i64) (Int.natCast_succ _).symm | refine And.intro ?_ ?_)), rfl⟩
      · exact absurd h3 (by decide)
    · refine ⟨rfl, ?_⟩
      refine And.intro ?_ ?_
      · (repeat' (first | exact True.intro | exact d1 _ | exact d1t _ | exact d2 _ | exact d3 _ _ | exact d3f _ _ | exact fun _ _ => rfl | exact fun _ => rfl | exact rfl | refine And.intro ?_ ?_))
      refine And.intro rfl ?_
      refine And.intro ?_ (And.intro (fun h3 => ?_) (fun h3 => ?_))
      · (repeat' (first | exact trivial | exact fun _ => rfl | exact rfl | refine And.intro ?_ ?_))
      · have e := depth_nil' hv hX (good (by rw [hf]; rfl))
        (repeat' (first | exact trivial | exact fun _ => rfl | exact rfl | refine And.intro ?_ ?_))
        rw [e]
        exact ent_tau [0, 1, 2] ⟨by (repeat' (first | exact trivial | exact rfl | exact fun _ _ => rfl | exact Or.inl rfl | refine And.intro ?_ ?_)), by (repeat' (first | exact trivial | exact rfl | exact congrArg (SV.int .i64) (Int.natCast_succ _).symm | refine And.intro ?_ ?_)), rfl⟩
      · exact absurd h3 (by decide)
    · refine ⟨rfl, ?_⟩
      refine And.intro ?_ ?_
      · (repeat' (first | exact True.intro | exact d1 _ | exact d1t _ | exact d2 _ | exact d3 _ _ | exact d3f _ _ | exact fun _ _ => rfl | exact fun _ => rfl | exact rfl | refine And.intro ?_ ?_))
      refine And.intro rfl ?_
      refine And.intro ?_ (And.intro (fun h3 => ?_) (fun h3 => ?_))
      · (repeat' (first | exact trivial | exact fun _ => rfl | exact rfl | refine And.intro ?_ ?_))
      · exact absurd h3 (by decide)
      obtain ⟨g1, g2⟩ := good (by rw [hf]; rfl)
      have hpn : p.toNat < t.nS := by
        have := g1.1
        have := g1.2
        omega
      have ep : ((p.toNat : Nat) : Int) = p := by have := g1.1; omega
      have fr : t.depthT p m = ⟨spL (t.dep m p.toNat) t.tru, 0⟩ := by
        have := depth_ref hv hX hpn g2
        rwa [ep] at this
      refine And.intro ?_ ?_
      · (repeat' (first | exact trivial | exact fun _ => rfl | exact rfl | refine And.intro ?_ ?_))
      refine (t54 t hv t.tru (fun _ h => h) ia ib ca cb hI (Nat.le_trans (tru_len hv) (by decide)) c2 p m ⟨by omega, by omega⟩ g2).use [0, 1, 2, 5, 6, 7] ?_ (by (repeat' (first | exact trivial | exact rfl | exact fun _ _ => rfl | exact fun _ _ _ _ => rfl | exact Or.inl rfl | exact Or.inr rfl | refine And.intro ?_ ?_))) rfl
      (repeat' (first | exact trivial | exact fun _ => rfl | exact rfl | refine And.intro ?_ ?_))
      rw [fr]
      exact ent_tau [0, 1, 2] ⟨by (repeat' (first | exact trivial | exact rfl | exact fun _ _ => rfl | exact fun _ _ _ _ => rfl | exact Or.inl rfl | exact Or.inr rfl | refine And.intro ?_ ?_)), by (repeat' (first | exact trivial | exact rfl | exact congrArg (SV.int .i64) (Int.natCast_succ _).symm | refine And.intro ?_ ?_)), rfl⟩
end Go.Proofs.YtipbempkngfdbaaGreatDoor
