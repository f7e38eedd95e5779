/-
  Contract of the specification: Places.
-/
import Derived.Test.YtipbempkngfdbaaGreatDoorZ4
import Derived.Test.YtipbempkngfdbaaGreatDoorZ1
namespace Go.Proofs.YtipbempkngfdbaaGreatDoor
open Go Go.Sy
set_option linter.unusedSimpArgs false
set_option maxRecDepth 100000
set_option maxHeartbeats 4000000
attribute [local irreducible] CallP CodeP Ent YieldP

theorem places_inv {t : TD} (hv : ¬ t.Valid) (m l h : Int) : t.placesT m l h = ⟨(0, 0), 1⟩ := by
  unfold TD.placesT
  rw [if_pos hv]
theorem places_arg {t : TD} (hv : t.Valid) {m l h : Int} (hh : ¬ (t.isMin m ∧ (0 ≤ l ∧ l ≤ 60) ∧ (0 ≤ h ∧ h ≤ 60))) : t.placesT m l h = ⟨(0, 0), 2⟩ := by
  unfold TD.placesT
  rw [if_neg (fun h => h hv), if_pos hh]
theorem places_nil {t : TD} (hv : t.Valid) (hn : t.tru = []) {m l h : Int} (hh : t.isMin m ∧ (0 ≤ l ∧ l ≤ 60) ∧ (0 ≤ h ∧ h ≤ 60)) : t.placesT m l h = ⟨(0, 0), 10⟩ := by
  unfold TD.placesT
  rw [if_neg (fun h => h hv), if_neg (fun h2 => h2 hh), if_pos ((all_nil hv).2 hn)]
theorem cntN_le (f : Nat → Bool) : ∀ n, cntN f n ≤ n
  | 0 => Nat.le_refl _
  | n + 1 => by
    have := cntN_le f n
    rw [cntN]
    split <;> omega
theorem zPlaces (t : TD) (ht : t.ok) (hlong : max (max t.nM t.nS) t.nL ≤ 40) (m l h : Int) :
    CallP Tryz.prog 13 [t.A, .int .i64 m, .int .i64 l, .int .i64 h] t.H (Ret (.tup [.int .i64 (t.placesT m l h).v.1, .int .i64 (t.placesT m l h).v.2, .int .i64 (t.placesT m l h).e]) t.H) := by
  have c52 := t58 t (by omega) m
  have c53 := t53 l
  have c58 := t53 h
  obtain ⟨a, ha⟩ : ∃ a, (decide (0 < t.nM) && inB m (t.mi 0) (t.mi (t.nM - 1))) = a := ⟨_, rfl⟩
  obtain ⟨b, hb⟩ : ∃ b, inB l 0 60 = b := ⟨_, rfl⟩
  obtain ⟨c, hc⟩ : ∃ c, inB h 0 60 = c := ⟨_, rfl⟩
  rw [ha] at c52
  rw [hb] at c53
  rw [hc] at c58
  have arg : t.Valid → (a && (b && c)) = false → ¬ (t.isMin m ∧ (0 ≤ l ∧ l ≤ 60) ∧ (0 ≤ h ∧ h ≤ 60)) := fun hv hh => by
    rintro ⟨h1, h2, h3⟩
    have e1 : a = true := by rw [← ha]; simp only [inB, Bool.and_eq_true, decide_eq_true_eq]; exact ⟨by have := hv.1; omega, h1.1, h1.2⟩
    have e2 : b = true := by rw [← hb]; simp only [inB, Bool.and_eq_true, decide_eq_true_eq]; exact h2
    have e3 : c = true := by rw [← hc]; simp only [inB, Bool.and_eq_true, decide_eq_true_eq]; exact h3
    rw [e1, e2, e3] at hh
    cases hh
  have good : (a && (b && c)) = true → t.isMin m ∧ (0 ≤ l ∧ l ≤ 60) ∧ (0 ≤ h ∧ h ≤ 60) := fun hh => by
    simp only [Bool.and_eq_true] at hh
    obtain ⟨h1, h2, h3⟩ := hh
    rw [← ha] at h1
    rw [← hb] at h2
    rw [← hc] at h3
    simp only [inB, Bool.and_eq_true, decide_eq_true_eq] at h1 h2 h3
    exact ⟨h1.2, h2, h3⟩
  refine callR (E := E) E_ok Tryz.func13 rfl ?_
  refine And.intro ?_ ?_
  · (repeat' (first | exact trivial | exact fun _ => rfl | exact rfl | refine And.intro ?_ ?_))
  refine drawP E_ok [3] pl13_1 (by kernel_rfl) ?_
  refine And.intro (And.intro ?_ ?_) trivial
  · (repeat' (first | exact True.intro | exact d1 _ | exact d1t _ | exact d2 _ | exact d3 _ _ | exact d3f _ _ | exact fun _ _ => rfl | exact fun _ => rfl | exact rfl | refine And.intro ?_ ?_))
  refine c52.use [0, 1, 2] ?_ (by (repeat' (first | exact trivial | exact rfl | exact fun _ _ => rfl | exact Or.inl rfl | refine And.intro ?_ ?_))) rfl
  cases a with
  | false =>
    refine And.intro (And.intro ?_ (And.intro (fun hgd => absurd hgd (by decide)) (fun hgd => ?_))) trivial
    · (repeat' (first | exact True.intro | exact d1 _ | exact d1t _ | exact d2 _ | exact d3 _ _ | exact d3f _ _ | exact fun _ _ => rfl | exact fun _ => rfl | exact rfl | refine And.intro ?_ ?_))
    refine And.intro (And.intro ?_ (And.intro (fun hgd => absurd hgd (by decide)) (fun hgd => ?_))) trivial
    · (repeat' (first | exact True.intro | exact d1 _ | exact d1t _ | exact d2 _ | exact d3 _ _ | exact d3f _ _ | exact fun _ _ => rfl | exact fun _ => rfl | exact rfl | refine And.intro ?_ ?_))
    refine And.intro (And.intro ?_ ?_) trivial
    · (repeat' (first | exact True.intro | exact d1 _ | exact d1t _ | exact d2 _ | exact d3 _ _ | exact d3f _ _ | exact fun _ _ => rfl | exact fun _ => rfl | exact rfl | refine And.intro ?_ ?_))
    refine CallP.frameH (t51 t ht false) [0, 1, 2] (by (repeat' (first | exact trivial | exact rfl | exact fun _ _ => rfl | exact Or.inl rfl | refine And.intro ?_ ?_))) rfl ?_
    rintro ce h' (⟨hv, rfl, rfl⟩ | ⟨hv, hf, rfl, rfl⟩ | ⟨hv, hf, hX, rfl, rfl⟩ | ⟨hv, hf, hX, c2, ia, ib, ca, cb, hI, hc2, rfl, rfl⟩)
    · refine ⟨rfl, ?_⟩
      refine And.intro ?_ ?_
      · (repeat' (first | exact True.intro | exact d1 _ | exact d1t _ | exact d2 _ | exact d3 _ _ | exact d3f _ _ | exact fun _ _ => rfl | exact fun _ => rfl | exact rfl | refine And.intro ?_ ?_))
      refine And.intro rfl ?_
      refine And.intro ?_ (And.intro (fun h3 => ?_) (fun h3 => ?_))
      · (repeat' (first | exact trivial | exact fun _ => rfl | exact rfl | refine And.intro ?_ ?_))
      · have e := places_inv hv m l h
        (repeat' (first | exact trivial | exact fun _ => rfl | exact rfl | refine And.intro ?_ ?_))
        rw [e]
        exact ent_tau [0, 1, 2] ⟨by (repeat' (first | exact trivial | exact rfl | exact fun _ _ => rfl | exact Or.inl rfl | refine And.intro ?_ ?_)), by (repeat' (first | exact trivial | exact rfl | exact congrArg (SV.int .i64) (Int.natCast_succ _).symm | refine And.intro ?_ ?_)), rfl⟩
      · exact absurd h3 (by decide)
    · refine ⟨rfl, ?_⟩
      refine And.intro ?_ ?_
      · (repeat' (first | exact True.intro | exact d1 _ | exact d1t _ | exact d2 _ | exact d3 _ _ | exact d3f _ _ | exact fun _ _ => rfl | exact fun _ => rfl | exact rfl | refine And.intro ?_ ?_))
      refine And.intro rfl ?_
      refine And.intro ?_ (And.intro (fun h3 => ?_) (fun h3 => ?_))
      · (repeat' (first | exact trivial | exact fun _ => rfl | exact rfl | refine And.intro ?_ ?_))
      · have e := places_arg hv (arg hv (by rfl))
        (repeat' (first | exact trivial | exact fun _ => rfl | exact rfl | refine And.intro ?_ ?_))
        rw [e]
        exact ent_tau [0, 1, 2] ⟨by (repeat' (first | exact trivial | exact rfl | exact fun _ _ => rfl | exact Or.inl rfl | refine And.intro ?_ ?_)), by (repeat' (first | exact trivial | exact rfl | exact congrArg (SV.int .i64) (Int.natCast_succ _).symm | refine And.intro ?_ ?_)), rfl⟩
      · exact absurd h3 (by decide)
    · cases hf
    · cases hf
  | true =>
    refine And.intro (And.intro ?_ (And.intro (fun hgd => ?_) (fun hgd => absurd hgd (by decide)))) trivial
    · (repeat' (first | exact True.intro | exact d1 _ | exact d1t _ | exact d2 _ | exact d3 _ _ | exact d3f _ _ | exact fun _ _ => rfl | exact fun _ => rfl | exact rfl | refine And.intro ?_ ?_))
    refine c53.use [] ?_ trivial rfl
    cases b with
    | false =>
      refine And.intro (And.intro ?_ (And.intro (fun hgd => absurd hgd (by decide)) (fun hgd => ?_))) trivial
      · (repeat' (first | exact True.intro | exact d1 _ | exact d1t _ | exact d2 _ | exact d3 _ _ | exact d3f _ _ | exact fun _ _ => rfl | exact fun _ => rfl | exact rfl | refine And.intro ?_ ?_))
      refine And.intro (And.intro ?_ ?_) trivial
      · (repeat' (first | exact True.intro | exact d1 _ | exact d1t _ | exact d2 _ | exact d3 _ _ | exact d3f _ _ | exact fun _ _ => rfl | exact fun _ => rfl | exact rfl | refine And.intro ?_ ?_))
      refine CallP.frameH (t51 t ht false) [0, 1, 2] (by (repeat' (first | exact trivial | exact rfl | exact fun _ _ => rfl | exact Or.inl rfl | refine And.intro ?_ ?_))) rfl ?_
      rintro ce h' (⟨hv, rfl, rfl⟩ | ⟨hv, hf, rfl, rfl⟩ | ⟨hv, hf, hX, rfl, rfl⟩ | ⟨hv, hf, hX, c2, ia, ib, ca, cb, hI, hc2, rfl, rfl⟩)
      · refine ⟨rfl, ?_⟩
        refine And.intro ?_ ?_
        · (repeat' (first | exact True.intro | exact d1 _ | exact d1t _ | exact d2 _ | exact d3 _ _ | exact d3f _ _ | exact fun _ _ => rfl | exact fun _ => rfl | exact rfl | refine And.intro ?_ ?_))
        refine And.intro rfl ?_
        refine And.intro ?_ (And.intro (fun h3 => ?_) (fun h3 => ?_))
        · (repeat' (first | exact trivial | exact fun _ => rfl | exact rfl | refine And.intro ?_ ?_))
        · have e := places_inv hv m l h
          (repeat' (first | exact trivial | exact fun _ => rfl | exact rfl | refine And.intro ?_ ?_))
          rw [e]
          exact ent_tau [0, 1, 2] ⟨by (repeat' (first | exact trivial | exact rfl | exact fun _ _ => rfl | exact Or.inl rfl | refine And.intro ?_ ?_)), by (repeat' (first | exact trivial | exact rfl | exact congrArg (SV.int .i64) (Int.natCast_succ _).symm | refine And.intro ?_ ?_)), rfl⟩
        · exact absurd h3 (by decide)
      · refine ⟨rfl, ?_⟩
        refine And.intro ?_ ?_
        · (repeat' (first | exact True.intro | exact d1 _ | exact d1t _ | exact d2 _ | exact d3 _ _ | exact d3f _ _ | exact fun _ _ => rfl | exact fun _ => rfl | exact rfl | refine And.intro ?_ ?_))
        refine And.intro rfl ?_
        refine And.intro ?_ (And.intro (fun h3 => ?_) (fun h3 => ?_))
        · (repeat' (first | exact trivial | exact fun _ => rfl | exact rfl | refine And.intro ?_ ?_))
        · have e := places_arg hv (arg hv (by rfl))
          (repeat' (first | exact trivial | exact fun _ => rfl | exact rfl | refine And.intro ?_ ?_))
          rw [e]
          exact ent_tau [0, 1, 2] ⟨by (repeat' (first | exact trivial | exact rfl | exact fun _ _ => rfl | exact Or.inl rfl | refine And.intro ?_ ?_)), by (repeat' (first | exact trivial | exact rfl | exact congrArg (SV.int .i64) (Int.natCast_succ _).symm | refine And.intro ?_ ?_)), rfl⟩
        · exact absurd h3 (by decide)
      · cases hf
      · cases hf
    | true =>
      refine And.intro (And.intro ?_ (And.intro (fun hgd => ?_) (fun hgd => absurd hgd (by decide)))) trivial
      · (repeat' (first | exact True.intro | exact d1 _ | exact d1t _ | exact d2 _ | exact d3 _ _ | exact d3f _ _ | exact fun _ _ => rfl | exact fun _ => rfl | exact rfl | refine And.intro ?_ ?_))
      refine c58.use [] ?_ trivial rfl
      refine And.intro (And.intro ?_ ?_) trivial
      · (repeat' (first | exact True.intro | exact d1 _ | exact d1t _ | exact d2 _ | exact d3 _ _ | exact d3f _ _ | exact fun _ _ => rfl | exact fun _ => rfl | exact rfl | refine And.intro ?_ ?_))
      refine CallP.frameH (t51 t ht c) [0, 1, 2] (by (repeat' (first | exact trivial | exact rfl | exact fun _ _ => rfl | exact Or.inl rfl | refine And.intro ?_ ?_))) rfl ?_
      rintro ce h' (⟨hv, rfl, rfl⟩ | ⟨hv, hf, rfl, rfl⟩ | ⟨hv, hf, hX, rfl, rfl⟩ | ⟨hv, hf, hX, c2, ia, ib, ca, cb, hI, hc2, rfl, rfl⟩)
      · refine ⟨rfl, ?_⟩
        refine And.intro ?_ ?_
        · (repeat' (first | exact True.intro | exact d1 _ | exact d1t _ | exact d2 _ | exact d3 _ _ | exact d3f _ _ | exact fun _ _ => rfl | exact fun _ => rfl | exact rfl | refine And.intro ?_ ?_))
        refine And.intro rfl ?_
        refine And.intro ?_ (And.intro (fun h3 => ?_) (fun h3 => ?_))
        · (repeat' (first | exact trivial | exact fun _ => rfl | exact rfl | refine And.intro ?_ ?_))
        · have e := places_inv hv m l h
          (repeat' (first | exact trivial | exact fun _ => rfl | exact rfl | refine And.intro ?_ ?_))
          rw [e]
          exact ent_tau [0, 1, 2] ⟨by (repeat' (first | exact trivial | exact rfl | exact fun _ _ => rfl | exact Or.inl rfl | refine And.intro ?_ ?_)), by (repeat' (first | exact trivial | exact rfl | exact congrArg (SV.int .i64) (Int.natCast_succ _).symm | refine And.intro ?_ ?_)), rfl⟩
        · exact absurd h3 (by decide)
      · refine ⟨rfl, ?_⟩
        refine And.intro ?_ ?_
        · (repeat' (first | exact True.intro | exact d1 _ | exact d1t _ | exact d2 _ | exact d3 _ _ | exact d3f _ _ | exact fun _ _ => rfl | exact fun _ => rfl | exact rfl | refine And.intro ?_ ?_))
        refine And.intro rfl ?_
        refine And.intro ?_ (And.intro (fun h3 => ?_) (fun h3 => ?_))
        · (repeat' (first | exact trivial | exact fun _ => rfl | exact rfl | refine And.intro ?_ ?_))
        · have e := places_arg hv (arg hv (by rw [hf]; rfl))
          (repeat' (first | exact trivial | exact fun _ => rfl | exact rfl | refine And.intro ?_ ?_))
          rw [e]
          exact ent_tau [0, 1, 2] ⟨by (repeat' (first | exact trivial | exact rfl | exact fun _ _ => rfl | exact Or.inl rfl | refine And.intro ?_ ?_)), by (repeat' (first | exact trivial | exact rfl | exact congrArg (SV.int .i64) (Int.natCast_succ _).symm | refine And.intro ?_ ?_)), rfl⟩
        · exact absurd h3 (by decide)
      · refine ⟨rfl, ?_⟩
        refine And.intro ?_ ?_
        · (repeat' (first | exact True.intro | exact d1 _ | exact d1t _ | exact d2 _ | exact d3 _ _ | exact d3f _ _ | exact fun _ _ => rfl | exact fun _ => rfl | exact rfl | refine And.intro ?_ ?_))
        refine And.intro rfl ?_
        refine And.intro ?_ (And.intro (fun h3 => ?_) (fun h3 => ?_))
        · (repeat' (first | exact trivial | exact fun _ => rfl | exact rfl | refine And.intro ?_ ?_))
        · have e := places_nil hv hX (good (by rw [hf]; rfl))
          (repeat' (first | exact trivial | exact fun _ => rfl | exact rfl | refine And.intro ?_ ?_))
          rw [e]
          exact ent_tau [0, 1, 2] ⟨by (repeat' (first | exact trivial | exact rfl | exact fun _ _ => rfl | exact Or.inl rfl | refine And.intro ?_ ?_)), by (repeat' (first | exact trivial | exact rfl | exact congrArg (SV.int .i64) (Int.natCast_succ _).symm | refine And.intro ?_ ?_)), rfl⟩
        · exact absurd h3 (by decide)
      · obtain ⟨g1, g2, g3⟩ := good (by rw [hf]; rfl)
        refine ⟨rfl, ?_⟩
        refine And.intro ?_ ?_
        · (repeat' (first | exact True.intro | exact d1 _ | exact d1t _ | exact d2 _ | exact d3 _ _ | exact d3f _ _ | exact fun _ _ => rfl | exact fun _ => rfl | exact rfl | refine And.intro ?_ ?_))
        refine And.intro rfl ?_
        refine And.intro ?_ (And.intro (fun h3 => ?_) (fun h3 => ?_))
        · (repeat' (first | exact trivial | exact fun _ => rfl | exact rfl | refine And.intro ?_ ?_))
        · exact absurd h3 (by decide)
        have hS := hv.2.1
        have fr := places_ref hv hX g1 g2 g3
        obtain ⟨S, eS⟩ : ∃ S : Nat → Bool, (fun p => decide (t.num m p l h = t.tru.length)) = S := ⟨_, rfl⟩
        obtain ⟨P, eP⟩ : ∃ P : Nat → Bool, (fun p => decide (0 < t.num m p l h)) = P := ⟨_, rfl⟩
        rw [eS, eP] at fr
        refine And.intro trivial ?_
        refine loopP E_ok [1, 2, 3, 4, 11] (fun p : Nat => [(13, .int .i64 (bitsF S p)), (14, .int .i64 (bitsF P p)), (15, .int .i64 p)]) (fun _ _ => t.H ++ [some (.cells [.osl t.bM 0 3 t.nM t.cM, .osl t.bS 1 2 t.nS t.cS, .osl t.bL 2 4 t.nL t.cL]), some (.arr 2 t.tru.length c2 (rowsT 5 6 t.nM t.nS ia ib ca cb)), some (poolL true t.nM t.hts), some (poolL true t.nS t.sds)]) (fun p => p ≤ t.nS) (fun p => t.nS - p) 0 (Nat.zero_le _) ?_ ?_
        · refine ent_tau [0, 1, 2, 3, 4, 5, 6] ⟨?_, ?_, rfl⟩
          · (repeat' (first | exact trivial | exact rfl | exact fun _ _ => rfl | exact fun _ _ _ _ => rfl | exact Or.inl rfl | exact Or.inr rfl | refine And.intro ?_ ?_))
          · (repeat' (first | exact trivial | exact rfl | exact congrArg (SV.int .i64) (Int.natCast_succ _).symm | refine And.intro ?_ ?_))
        rintro p hp
        have rS := bitsF_range S (n := p) (by omega)
        have rP := bitsF_range P (n := p) (by omega)
        refine And.intro ?_ (And.intro (fun hcc => ?_) (fun hcc => ?_))
        · (repeat' (first | exact trivial | exact fun _ => rfl | exact rfl | refine And.intro ?_ ?_))
        · have hlt : p < t.nS := by
            have := of_decide_eq_true hcc
            omega
          refine And.intro trivial ?_
          refine loopP E_ok [1, 2, 3, 4, 11, 13, 14, 15] (fun i : Nat => [(16, .int .i64 (cntN (fun i => inB (t.dep m p (t.tru.getD i noTru)) l h) i : Nat)), (17, .int .i64 i)]) (fun _ _ => t.H ++ [some (.cells [.osl t.bM 0 3 t.nM t.cM, .osl t.bS 1 2 t.nS t.cS, .osl t.bL 2 4 t.nL t.cL]), some (.arr 2 t.tru.length c2 (rowsT 5 6 t.nM t.nS ia ib ca cb)), some (poolL true t.nM t.hts), some (poolL true t.nS t.sds)]) (fun i => i ≤ t.tru.length) (fun i => t.tru.length - i) 0 (Nat.zero_le _) ?_ ?_
          · refine ent_tau [0, 1, 2, 3, 4, 5, 6] ⟨?_, ?_, rfl⟩
            · (repeat' (first | exact trivial | exact rfl | exact fun _ _ => rfl | exact fun _ _ _ _ => rfl | exact Or.inl rfl | exact Or.inr rfl | refine And.intro ?_ ?_))
            · (repeat' (first | exact trivial | exact rfl | exact congrArg (SV.int .i64) (Int.natCast_succ _).symm | refine And.intro ?_ ?_))
          rintro i hi
          have hci := cntN_le (fun i => inB (t.dep m p (t.tru.getD i noTru)) l h) i
          have htl := tru_len hv
          have e1 : 0 + ((i : Nat) : Int).toNat = i := by omega
          refine And.intro ?_ (And.intro (fun hk => ?_) (fun hk => ?_))
          · (repeat' (first | exact trivial | exact fun _ => rfl | exact rfl | refine And.intro ?_ ?_))
          · have hlt2 : i < t.tru.length := by
              have := of_decide_eq_true hk
              omega
            have a := hI.a i hlt2
            have b := hI.b i hlt2
            have c100 : CallP Tryz.prog 56 [t.A, .agg [.row 3 (ia (0 + ((i : Nat) : Int).toNat)) t.nM (ca (0 + ((i : Nat) : Int).toNat)), .row 4 (ib (0 + ((i : Nat) : Int).toNat)) t.nS (cb (0 + ((i : Nat) : Int).toNat))], .int .i64 p, .int .i64 m] (HP t) (Ret (.int .i64 (t.dep m p (t.tru.getD i noTru))) (HP t)) := by
              rw [e1, TD.dep, ← a.2, ← b.2]
              exact t100r t hv a.1 b.1 _ _ p m ⟨by omega, by omega⟩ g1
            refine And.intro trivial ?_
            refine drawP E_ok [3, 4, 5, 6] pl13_12 (by kernel_rfl) ?_
            refine And.intro (And.intro ?_ ?_) trivial
            · (repeat' (first | exact True.intro | exact d1 _ | exact d1t _ | exact d2 _ | exact d3 _ _ | exact d3f _ _ | exact fun _ _ => rfl | exact fun _ => rfl | exact rfl | refine And.intro ?_ ?_))
              all_goals first | omega | exact un (by omega)
            refine c100.use [0, 1, 2, 5, 6] ?_ (by (repeat' (first | exact trivial | exact rfl | exact fun _ _ => rfl | exact fun _ _ _ _ => rfl | exact Or.inl rfl | exact Or.inr rfl | refine And.intro ?_ ?_))) rfl
            refine And.intro (And.intro ?_ ?_) trivial
            · (repeat' (first | exact True.intro | exact d1 _ | exact d1t _ | exact d2 _ | exact d3 _ _ | exact d3f _ _ | exact fun _ _ => rfl | exact fun _ => rfl | exact rfl | refine And.intro ?_ ?_))
            refine (t91 _ l h).use [] ?_ trivial rfl
            refine And.intro ?_ ?_
            · (repeat' (first | exact True.intro | exact d1 _ | exact d1t _ | exact d2 _ | exact d3 _ _ | exact d3f _ _ | exact fun _ _ => rfl | exact fun _ => rfl | exact rfl | refine And.intro ?_ ?_))
            refine And.intro rfl ?_
            refine And.intro ?_ (And.intro (fun hin => ?_) (fun hin => ?_))
            · (repeat' (first | exact trivial | exact fun _ => rfl | exact rfl | refine And.intro ?_ ?_))
            · have hs : ((cntN (fun i => inB (t.dep m p (t.tru.getD i noTru)) l h) (i + 1) : Nat) : Int) = ((cntN (fun i => inB (t.dep m p (t.tru.getD i noTru)) l h) i : Nat) : Int) + 1 := by
                rw [cntN, if_pos hin]
                push_cast
                rfl
              refine And.intro ?_ ?_
              · (repeat' (first | exact trivial | exact fun _ => rfl | exact rfl | refine And.intro ?_ ?_))
                all_goals omega
              refine ⟨i + 1, hlt2, by omega, ?_⟩
              refine ent_tau [0, 1, 2, 3, 4, 5, 6] ⟨?_, ?_, rfl⟩
              · (repeat' (first | exact trivial | exact rfl | exact fun _ _ => rfl | exact fun _ _ _ _ => rfl | exact Or.inl rfl | exact Or.inr rfl | refine And.intro ?_ ?_))
              · (repeat' (first | exact trivial | exact rfl | exact congrArg (SV.int .i64) (Int.natCast_succ _).symm | refine And.intro ?_ ?_))
                exact congrArg (SV.int .i64) hs.symm
            · have hs : ((cntN (fun i => inB (t.dep m p (t.tru.getD i noTru)) l h) (i + 1) : Nat) : Int) = ((cntN (fun i => inB (t.dep m p (t.tru.getD i noTru)) l h) i : Nat) : Int) := by
                rw [cntN, if_neg (by rw [hin]; decide)]
                rfl
              refine And.intro ?_ ?_
              · (repeat' (first | exact trivial | exact fun _ => rfl | exact rfl | refine And.intro ?_ ?_))
                all_goals omega
              refine ⟨i + 1, hlt2, by omega, ?_⟩
              refine ent_tau [0, 1, 2, 3, 4, 5, 6] ⟨?_, ?_, rfl⟩
              · (repeat' (first | exact trivial | exact rfl | exact fun _ _ => rfl | exact fun _ _ _ _ => rfl | exact Or.inl rfl | exact Or.inr rfl | refine And.intro ?_ ?_))
              · (repeat' (first | exact trivial | exact rfl | exact congrArg (SV.int .i64) (Int.natCast_succ _).symm | refine And.intro ?_ ?_))
                exact congrArg (SV.int .i64) hs.symm
          · have e : i = t.tru.length := by
              have := of_decide_eq_false hk
              omega
            subst e
            have en := num_cnt t m p l h
            have p4 : (2 : Int) ^ p ≤ 8 := by
              have : p = 0 ∨ p = 1 ∨ p = 2 ∨ p = 3 := by omega
              rcases this with h | h | h | h <;> rw [h] <;> decide
            have p0 := pow_pos p
            have p16 : (2 : Int) ^ p ≤ 16 := by omega
            have hSp : S p = decide (t.num m p l h = t.tru.length) := by rw [← eS]
            have hPp : P p = decide (0 < t.num m p l h) := by rw [← eP]
            have aS := bits_add S (n := p) (by omega)
            have aP := bits_add P (n := p) (by omega)
            refine And.intro ?_ ?_
            · (repeat' (first | exact trivial | exact fun _ => rfl | exact rfl | refine And.intro ?_ ?_))
            refine And.intro ?_ (And.intro (fun h1 => ?_) (fun h1 => ?_))
            · (repeat' (first | exact trivial | exact fun _ => rfl | exact rfl | refine And.intro ?_ ?_))
            · have hS1 : S p = true := by
                rw [hSp, decide_eq_true_eq, ← en]
                have := of_decide_eq_true h1
                omega
              rw [if_pos hS1] at aS
              refine And.intro ?_ ?_
              · (repeat' (first | exact trivial | exact fun _ => rfl | exact rfl | refine And.intro ?_ ?_))
              refine (t109 p (by omega)).use [] ?_ trivial rfl
              refine And.intro ?_ (And.intro (fun h2 => ?_) (fun h2 => ?_))
              · (repeat' (first | exact trivial | exact fun _ => rfl | exact rfl | refine And.intro ?_ ?_))
                all_goals first | omega | exact un (by omega)
              · have hP1 : P p = true := by
                  rw [hPp, decide_eq_true_eq, ← en]
                  have := of_decide_eq_true h2
                  omega
                rw [if_pos hP1] at aP
                refine And.intro ?_ ?_
                · (repeat' (first | exact trivial | exact fun _ => rfl | exact rfl | refine And.intro ?_ ?_))
                refine (t109 p (by omega)).use [] ?_ trivial rfl
                refine And.intro ?_ ?_
                · (repeat' (first | exact trivial | exact fun _ => rfl | exact rfl | refine And.intro ?_ ?_))
                  all_goals first | omega | exact un (by omega)
                refine ⟨p + 1, hlt, by omega, ?_⟩
                refine ent_tau [0, 1, 2, 3, 4, 5, 6] ⟨?_, ?_, rfl⟩
                · (repeat' (first | exact trivial | exact rfl | exact fun _ _ => rfl | exact fun _ _ _ _ => rfl | exact Or.inl rfl | exact Or.inr rfl | refine And.intro ?_ ?_))
                · (repeat' (first | exact trivial | exact rfl | exact congrArg (SV.int .i64) (Int.natCast_succ _).symm | refine And.intro ?_ ?_))
                  all_goals first | exact congrArg (SV.int .i64) aS.symm | exact congrArg (SV.int .i64) aP.symm | exact congrArg (SV.int .i64) (by omega)
              · have hP1 : P p = false := by
                  rw [hPp, decide_eq_false_iff_not, ← en]
                  have := of_decide_eq_false h2
                  omega
                rw [if_neg (by rw [hP1]; decide)] at aP
                refine And.intro ?_ ?_
                · (repeat' (first | exact trivial | exact fun _ => rfl | exact rfl | refine And.intro ?_ ?_))
                  all_goals first | omega | exact un (by omega)
                refine ⟨p + 1, hlt, by omega, ?_⟩
                refine ent_tau [0, 1, 2, 3, 4, 5, 6] ⟨?_, ?_, rfl⟩
                · (repeat' (first | exact trivial | exact rfl | exact fun _ _ => rfl | exact fun _ _ _ _ => rfl | exact Or.inl rfl | exact Or.inr rfl | refine And.intro ?_ ?_))
                · (repeat' (first | exact trivial | exact rfl | exact congrArg (SV.int .i64) (Int.natCast_succ _).symm | refine And.intro ?_ ?_))
                  all_goals first | exact congrArg (SV.int .i64) aS.symm | exact congrArg (SV.int .i64) aP.symm | exact congrArg (SV.int .i64) (by omega)
            · have hS1 : S p = false := by
                rw [hSp, decide_eq_false_iff_not, ← en]
                have := of_decide_eq_false h1
                omega
              rw [if_neg (by rw [hS1]; decide)] at aS
              refine And.intro ?_ (And.intro (fun h2 => ?_) (fun h2 => ?_))
              · (repeat' (first | exact trivial | exact fun _ => rfl | exact rfl | refine And.intro ?_ ?_))
                all_goals first | omega | exact un (by omega)
              · have hP1 : P p = true := by
                  rw [hPp, decide_eq_true_eq, ← en]
                  have := of_decide_eq_true h2
                  omega
                rw [if_pos hP1] at aP
                refine And.intro ?_ ?_
                · (repeat' (first | exact trivial | exact fun _ => rfl | exact rfl | refine And.intro ?_ ?_))
                refine (t109 p (by omega)).use [] ?_ trivial rfl
                refine And.intro ?_ ?_
                · (repeat' (first | exact trivial | exact fun _ => rfl | exact rfl | refine And.intro ?_ ?_))
                  all_goals first | omega | exact un (by omega)
                refine ⟨p + 1, hlt, by omega, ?_⟩
                refine ent_tau [0, 1, 2, 3, 4, 5, 6] ⟨?_, ?_, rfl⟩
                · (repeat' (first | exact trivial | exact rfl | exact fun _ _ => rfl | exact fun _ _ _ _ => rfl | exact Or.inl rfl | exact Or.inr rfl | refine And.intro ?_ ?_))
                · (repeat' (first | exact trivial | exact rfl | exact congrArg (SV.int .i64) (Int.natCast_succ _).symm | refine And.intro ?_ ?_))
                  all_goals first | exact congrArg (SV.int .i64) aS.symm | exact congrArg (SV.int .i64) aP.symm | exact congrArg (SV.int .i64) (by omega)
              · have hP1 : P p = false := by
                  rw [hPp, decide_eq_false_iff_not, ← en]
                  have := of_decide_eq_false h2
                  omega
                rw [if_neg (by rw [hP1]; decide)] at aP
                refine And.intro ?_ ?_
                · (repeat' (first | exact trivial | exact fun _ => rfl | exact rfl | refine And.intro ?_ ?_))
                  all_goals first | omega | exact un (by omega)
                refine ⟨p + 1, hlt, by omega, ?_⟩
                refine ent_tau [0, 1, 2, 3, 4, 5, 6] ⟨?_, ?_, rfl⟩
                · (repeat' (first | exact trivial | exact rfl | exact fun _ _ => rfl | exact fun _ _ _ _ => rfl | exact Or.inl rfl | exact Or.inr rfl | refine And.intro ?_ ?_))
                · (repeat' (first | exact trivial | exact rfl | exact congrArg (SV.int .i64) (Int.natCast_succ _).symm | refine And.intro ?_ ?_))
                  all_goals first | exact congrArg (SV.int .i64) aS.symm | exact congrArg (SV.int .i64) aP.symm | exact congrArg (SV.int .i64) (by omega)
        · have e : p = t.nS := by
            have := of_decide_eq_false hcc
            omega
          subst e
          (repeat' (first | exact trivial | exact fun _ => rfl | exact rfl | refine And.intro ?_ ?_))
          rw [fr]
          exact ent_tau [0, 1, 2] ⟨by (repeat' (first | exact trivial | exact rfl | exact fun _ _ => rfl | exact fun _ _ _ _ => rfl | exact Or.inl rfl | exact Or.inr rfl | refine And.intro ?_ ?_)), by (repeat' (first | exact trivial | exact rfl | exact congrArg (SV.int .i64) (Int.natCast_succ _).symm | refine And.intro ?_ ?_)), rfl⟩
end Go.Proofs.YtipbempkngfdbaaGreatDoor
