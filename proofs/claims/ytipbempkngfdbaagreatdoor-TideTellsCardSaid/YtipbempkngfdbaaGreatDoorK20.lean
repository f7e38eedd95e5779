/-
  Parts: B10, B11, B13.
-/
import Derived.Test.YtipbempkngfdbaaGreatDoorK19
import Derived.Test.YtipbempkngfdbaaGreatDoorK17
import Derived.Test.YtipbempkngfdbaaGreatDoorK18
import Derived.Test.YtipbempkngfdbaaGreatDoorK10
set_option linter.unusedVariables false
/-
  Contract: tide.First.
-/
namespace Go.Proofs.YtipbempkngfdbaaGreatDoor
open Go Go.Sy
set_option linter.unusedSimpArgs false
set_option maxRecDepth 100000
set_option maxHeartbeats 4000000
attribute [local irreducible] CallP CodeP Ent YieldP
set_option maxHeartbeats 800000

theorem t56 (t : TD) (p l m : Int) (hv : t.Valid) : CallP Tryz.prog 74 [.ptr 0 0, .ptr 5 0, .ptr 6 0, .ptr 7 0] (t.shore ++ [some (.roc [.int .i64 p]), some (.roc [.int .i64 l]), some (.roc [.int .i64 m])])
    (Ret (.bool ((inB p 0 (t.nS - 1) && inB l 0 60) && inB m (t.mi 0) (t.mi (t.nM - 1)))) (t.shore ++ [some (.roc [.int .i64 p]), some (.roc [.int .i64 l]), some (.roc [.int .i64 m])])) := by
  have hS := hv.2.1
  have hM := hv.1
  have fin : ∀ (b : Bool) (h1 : SHeap), b = ((inB p 0 (t.nS - 1) && inB l 0 60) && inB m (t.mi 0) (t.mi (t.nM - 1))) → Fits (sel [0, 1, 2, 3, 4, 5, 6, 7] h1.length) h1 [0, 1, 2, 3, 4, 5, 6, 7] (t.shore ++ [some (.roc [.int .i64 p]), some (.roc [.int .i64 l]), some (.roc [.int .i64 m])]) →
      Ent (t.shore ++ [some (SObj.roc [.int .i64 p]), some (SObj.roc [.int .i64 l]), some (SObj.roc [.int .i64 m])]).length ⟨[some (none, .bool b)], h1, []⟩ ⟨[some (none, .bool ((inB p 0 (t.nS - 1) && inB l 0 60) && inB m (t.mi 0) (t.mi (t.nM - 1))))], (t.shore ++ [some (.roc [.int .i64 p]), some (.roc [.int .i64 l]), some (.roc [.int .i64 m])]), []⟩ := by
    intro b h1 hb hf
    subst hb
    exact ent_of [0, 1, 2, 3, 4, 5, 6, 7] hf ⟨rfl, rfl, trivial⟩ rfl rfl rfl
  refine callR (E := E) E_ok Tryz.func74 rfl ?_
  refine And.intro ?_ ?_
  · simp [AllP, under, gB, wB, inR_iff, IntKind.bits]
  refine (t46 t (by omega) p).use [0, 1, 2, 3, 4] ?_ (by (repeat' (first | exact trivial | exact rfl | exact fun _ _ => rfl | exact Or.inl rfl | refine And.intro ?_ ?_))) rfl
  refine And.intro ?_ (And.intro (fun hc => ?_) (fun hc => ?_))
  · simp [AllP, under, gB, wB, inR_iff, IntKind.bits]
  · have hc' : inB p 0 (t.nS - 1) = true := by simpa [gB, wB] using hc
    refine (t47 l).use [] ?_ (by (repeat' (first | exact trivial | exact rfl | exact fun _ _ => rfl | exact Or.inl rfl | refine And.intro ?_ ?_))) rfl
    refine And.intro ?_ (And.intro (fun hd => ?_) (fun hd => ?_))
    · simp [AllP, under, gB, wB, inR_iff, IntKind.bits]
    · have hd' : inB l 0 60 = true := by simpa [gB, wB, hc'] using hd
      refine (t57 t (by omega) (by omega) m).use [0, 1, 2, 3, 4] ?_ (by (repeat' (first | exact trivial | exact rfl | exact fun _ _ => rfl | exact Or.inl rfl | refine And.intro ?_ ?_))) rfl
      refine And.intro ?_ ?_
      · simp [AllP, under, gB, wB, inR_iff, IntKind.bits]
      refine fin _ _ ?_ (by (repeat' (first | exact trivial | exact rfl | exact fun _ _ => rfl | exact Or.inl rfl | refine And.intro ?_ ?_)))
      rw [hc', hd']
      rfl
    · have hd' : inB l 0 60 = false := by simpa [gB, wB, hc'] using hd
      refine And.intro ?_ ?_
      · simp [AllP, under, gB, wB, inR_iff, IntKind.bits]
        try simp [hc', hd']
      refine fin _ _ ?_ (by (repeat' (first | exact trivial | exact rfl | exact fun _ _ => rfl | exact Or.inl rfl | refine And.intro ?_ ?_)))
      rw [hc', hd']
      rfl
  · have hc' : inB p 0 (t.nS - 1) = false := by simpa [gB, wB] using hc
    refine And.intro ?_ (And.intro (fun hd => ?_) (fun hd => ?_))
    · simp [AllP, under, gB, wB, inR_iff, IntKind.bits]
      try exact hc'
    · simp [gB, wB, hc'] at hd
    · refine And.intro ?_ ?_
      · simp [AllP, under, gB, wB, inR_iff, IntKind.bits]
        try simp [hc']
      refine fin _ _ ?_ (by (repeat' (first | exact trivial | exact rfl | exact fun _ _ => rfl | exact Or.inl rfl | refine And.intro ?_ ?_)))
      rw [hc']
      rfl
/-- The first minute from m on, of c of them, of which ok says yes. -/
def firstF (ok : Int → Bool) : Nat → Int → Told Int
  | 0, _ => ⟨0, 4⟩
  | c + 1, m => if ok m = true then ⟨m, 0⟩ else firstF ok c (m + 1)
def okF (t : TD) (p : Nat) (l : Int) (s : Bool) (m : Int) : Bool := if s = true then decide (l ≤ hulLo (a98 t m p) t.all t.all.length) else decide (l ≤ hulHi (b98 t m p) t.all t.all.length)
open Classical in
noncomputable def TD.firstT (t : TD) (p l m : Int) (s : Bool) : Told Int :=
  if ¬ t.Valid then ⟨0, 1⟩ else if ¬ (t.isPl p ∧ (0 ≤ l ∧ l ≤ 60) ∧ t.isMin m) then ⟨0, 2⟩ else if t.all = [] then ⟨0, 10⟩ else firstF (okF t p.toNat l s) (t.mi (t.nM - 1) - m + 1).toNat m
theorem t17 (t : TD) (p l m : Int) (s : Bool) : CallP Tryz.prog 22 [t.A, .int .i64 p, .int .i64 l, .int .i64 m, .bool s] t.HG (Ret (.tup [.int .i64 (t.firstT p l m s).v, .int .i64 (t.firstT p l m s).e]) t.HG) := by
  refine callD (E := E) E_ok Tryz.func22 rfl Tryz.func73 ⟨_, _, _, _, _, _, _, _, rfl, rfl, rfl⟩ rfl rfl ?_
  refine And.intro ?_ ?_
  · simp [AllP, under, gB, wB, inR_iff, IntKind.bits]
  refine CallP.frame (t44_3 t p l m 74 (.inr (.inl rfl)) _ (t56 t p l m)) [0, 1, 2, 6, 7, 8] (by (repeat' (first | exact trivial | exact rfl | exact fun _ _ => rfl | exact Or.inl rfl | refine And.intro ?_ ?_))) (apartB_ok rfl) rfl ?_
  rintro ce h' (⟨hv, hb, rfl, rfl⟩ | ⟨hv, rfl, rfl⟩ | ⟨hv, hb, rfl, rfl⟩)
  · refine ⟨ownB_ok rfl, ?_⟩
    rw [Bool.and_eq_true, Bool.and_eq_true] at hb
    have hpm : t.isPl p ∧ (0 ≤ l ∧ l ≤ 60) ∧ t.isMin m := ⟨inB_iff.1 hb.1.1, inB_iff.1 hb.1.2, inB_iff.1 hb.2⟩
    have hM := hv.1
    refine And.intro ?_ ?_
    · simp [AllP, under, gB, wB, inR_iff, IntKind.bits]
    refine CallP.frame (t48 t hv) [10, 0, 1, 2, 11, 3] (by (repeat' (first | exact trivial | exact rfl | exact fun _ _ => rfl | exact Or.inl rfl | refine And.intro ?_ ?_))) (apartB_ok rfl) rfl ?_
    rintro ce h' (⟨h0, rfl, rfl⟩ | ⟨h0, cap, hc1, hc2, rfl, rfl⟩)
    · refine ⟨ownB_ok rfl, ?_⟩
      have e0 : t.firstT p l m s = ⟨0, 10⟩ := by simp [TD.firstT, hv, hpm, h0]
      refine And.intro ?_ ?_
      · simp [AllP, under, gB, wB, inR_iff, IntKind.bits]
      refine (t43_stop 0 10).use [9] ?_ (by (repeat' (first | exact trivial | exact rfl | exact fun _ _ => rfl | exact Or.inl rfl | refine And.intro ?_ ?_))) rfl
      refine And.intro ?_ ⟨_, _, ⟨rfl, rfl⟩, ?_⟩
      · simp [AllP, under, gB, wB, inR_iff, IntKind.bits]
      rw [e0]
      exact ent_tau [0, 1, 2, 3, 4] ⟨by (repeat' (first | exact trivial | exact rfl | exact fun _ _ => rfl | exact Or.inl rfl | refine And.intro ?_ ?_)), by (repeat' (first | exact trivial | exact rfl | exact congrArg (SV.int .i64) (Int.natCast_succ _).symm | refine And.intro ?_ ?_)), rfl⟩
    · refine ⟨ownB_ok rfl, ?_⟩
      have hne : ¬ t.all = [] := fun h => by rw [h] at h0; simp at h0
      have e0 : t.firstT p l m s = firstF (okF t p.toNat l s) (t.mi (t.nM - 1) - m + 1).toNat m := by simp [TD.firstT, hv, hpm, hne]
      have hlen := all_len hv
      obtain ⟨q, hq⟩ := Int.eq_ofNat_of_zero_le hpm.1.1
      subst hq
      have hq2 := hpm.1.2
      rw [Int.toNat_natCast] at e0
      have hlast := (hv.marks (i := t.nM - 1) (by omega)).1
      have hfirst := (hv.marks (i := 0) (by omega)).1
      have hmin := hpm.2.2
      simp only [TD.isMin] at hmin
      refine And.intro ?_ ?_
      · simp [AllP, under, gB, wB, inR_iff, IntKind.bits]
      refine loopP E_ok [4, 5, 6, 7, 8, 10, 11, 12, 13] (fun k : Nat => [(14, .int .i64 (m + k))]) (fun _ H => H) (fun k => m + k ≤ t.mi (t.nM - 1) + 1 ∧ firstF (okF t q l s) (t.mi (t.nM - 1) - m + 1).toNat m = firstF (okF t q l s) (t.mi (t.nM - 1) - m + 1 - k).toNat (m + k)) (fun k => (t.mi (t.nM - 1) + 1 - m - k).toNat) 0 ⟨by omega, by simp⟩ ?_ ?_
      · refine ent_tau [0, 1, 2, 3, 4, 5, 6, 7, 8, 9, 10, 11, 12] ⟨by (repeat' (first | exact trivial | exact rfl | exact fun _ _ => rfl | exact Or.inl rfl | refine And.intro ?_ ?_)), ?_, rfl⟩
        (repeat' (first | exact trivial | exact rfl | exact congrArg (SV.int .i64) (Int.natCast_succ _).symm | refine And.intro ?_ ?_))
        exact congrArg (SV.int .i64) (by simp)
      · rintro k ⟨hk, hF⟩
        refine And.intro ?_ ?_
        · simp [AllP, under, gB, wB, inR_iff, IntKind.bits]
        refine (t49 t (by omega) (by omega)).use [10, 0, 1, 2, 11] ?_ (by (repeat' (first | exact trivial | exact rfl | exact fun _ _ => rfl | exact Or.inl rfl | refine And.intro ?_ ?_))) rfl
        refine And.intro ?_ (And.intro (fun hn => ?_) (fun hn => ?_))
        · simp [AllP, under, gB, wB, inR_iff, IntKind.bits]
        · have hn' : m + k ≤ t.mi (t.nM - 1) := by simpa using hn
          refine And.intro ?_ ?_
          · simp [AllP, under, gB, wB, inR_iff, IntKind.bits]
          refine (t50 t hv t.all (all_full hv) (by omega) cap q (m + k) ⟨by omega, hn'⟩ (by omega)).use [10, 0, 1, 2, 11, 3, 12, 4] ?_ (by (repeat' (first | exact trivial | exact rfl | exact fun _ _ => rfl | exact Or.inl rfl | refine And.intro ?_ ?_))) rfl
          have ec : (t.mi (t.nM - 1) - m + 1 - k).toNat = (t.mi (t.nM - 1) - m + 1 - ((k + 1 : Nat) : Int)).toNat + 1 := by omega
          refine And.intro ?_ (And.intro (fun hc => ?_) (fun hc => ?_))
          · cases s <;> simp [AllP, under, gB, wB]
          · have hok : okF t q l s (m + k) = true := by cases s <;> simpa [okF] using hc
            have e1 : t.firstT q l m s = ⟨m + k, 0⟩ := by rw [e0, hF, ec, firstF, if_pos hok]
            refine And.intro ?_ ?_
            · simp [AllP, under, gB, wB, inR_iff, IntKind.bits]
            refine And.intro trivial ?_
            refine (t43_nil 0).use [9] ?_ (by (repeat' (first | exact trivial | exact rfl | exact fun _ _ => rfl | exact Or.inl rfl | refine And.intro ?_ ?_))) rfl
            refine And.intro ?_ ⟨_, _, ⟨rfl, rfl⟩, ?_⟩
            · simp [AllP, under, gB, wB, inR_iff, IntKind.bits]
            rw [e1]
            exact ent_tau [0, 1, 2, 3, 4] ⟨by (repeat' (first | exact trivial | exact rfl | exact fun _ _ => rfl | exact Or.inl rfl | refine And.intro ?_ ?_)), by (repeat' (first | exact trivial | exact rfl | exact congrArg (SV.int .i64) (Int.natCast_succ _).symm | refine And.intro ?_ ?_)), rfl⟩
          · have hok : ¬ okF t q l s (m + k) = true := by cases s <;> simpa [okF] using hc
            refine And.intro ?_ ⟨k + 1, ⟨by omega, ?_⟩, by omega, ?_⟩
            · simp [AllP, under, gB, wB, inR_iff, IntKind.bits]
              omega
            · rw [hF, ec, firstF, if_neg hok]
              congr 1
              push_cast
              omega
            · refine ent_tau [0, 1, 2, 3, 4, 5, 6, 7, 8, 9, 10, 11, 12] ⟨by (repeat' (first | exact trivial | exact rfl | exact fun _ _ => rfl | exact Or.inl rfl | refine And.intro ?_ ?_)), ?_, rfl⟩
              (repeat' (first | exact trivial | exact rfl | exact congrArg (SV.int .i64) (Int.natCast_succ _).symm | refine And.intro ?_ ?_))
              exact congrArg (SV.int .i64) (by push_cast; omega)
        · have hn' : ¬ (m + k ≤ t.mi (t.nM - 1)) := by simpa using hn
          have ec : (t.mi (t.nM - 1) - m + 1 - k).toNat = 0 := by omega
          have e1 : t.firstT q l m s = ⟨0, 4⟩ := by rw [e0, hF, ec, firstF]
          refine And.intro ?_ ?_
          · simp [AllP, under, gB, wB, inR_iff, IntKind.bits]
          refine And.intro trivial ?_
          refine (t43_nil 4).use [9] ?_ (by (repeat' (first | exact trivial | exact rfl | exact fun _ _ => rfl | exact Or.inl rfl | refine And.intro ?_ ?_))) rfl
          refine And.intro ?_ ⟨_, _, ⟨rfl, rfl⟩, ?_⟩
          · simp [AllP, under, gB, wB, inR_iff, IntKind.bits]
          rw [e1]
          exact ent_tau [0, 1, 2, 3, 4] ⟨by (repeat' (first | exact trivial | exact rfl | exact fun _ _ => rfl | exact Or.inl rfl | refine And.intro ?_ ?_)), by (repeat' (first | exact trivial | exact rfl | exact congrArg (SV.int .i64) (Int.natCast_succ _).symm | refine And.intro ?_ ?_)), rfl⟩
  · refine ⟨ownB_ok rfl, ?_⟩
    have e0 : t.firstT p l m s = ⟨0, 1⟩ := by simp [TD.firstT, hv]
    refine And.intro ?_ ?_
    · simp [AllP, under, gB, wB, inR_iff, IntKind.bits]
    refine (t43_stop 0 1).use [9] ?_ (by (repeat' (first | exact trivial | exact rfl | exact fun _ _ => rfl | exact Or.inl rfl | refine And.intro ?_ ?_))) rfl
    refine And.intro ?_ ⟨_, _, ⟨rfl, rfl⟩, ?_⟩
    · simp [AllP, under, gB, wB, inR_iff, IntKind.bits]
    rw [e0]
    exact ent_tau [0, 1, 2, 3, 4] ⟨by (repeat' (first | exact trivial | exact rfl | exact fun _ _ => rfl | exact Or.inl rfl | refine And.intro ?_ ?_)), by (repeat' (first | exact trivial | exact rfl | exact congrArg (SV.int .i64) (Int.natCast_succ _).symm | refine And.intro ?_ ?_)), rfl⟩
  · refine ⟨ownB_ok rfl, ?_⟩
    have hpm : ¬ (t.isPl p ∧ (0 ≤ l ∧ l ≤ 60) ∧ t.isMin m) := fun h => by rw [inB_iff.2 h.1, inB_iff.2 h.2.1, inB_iff.2 h.2.2] at hb; cases hb
    have e0 : t.firstT p l m s = ⟨0, 2⟩ := by simp [TD.firstT, hv, hpm]
    refine And.intro ?_ ?_
    · simp [AllP, under, gB, wB, inR_iff, IntKind.bits]
    refine (t43_stop 0 2).use [9] ?_ (by (repeat' (first | exact trivial | exact rfl | exact fun _ _ => rfl | exact Or.inl rfl | refine And.intro ?_ ?_))) rfl
    refine And.intro ?_ ⟨_, _, ⟨rfl, rfl⟩, ?_⟩
    · simp [AllP, under, gB, wB, inR_iff, IntKind.bits]
    rw [e0]
    exact ent_tau [0, 1, 2, 3, 4] ⟨by (repeat' (first | exact trivial | exact rfl | exact fun _ _ => rfl | exact Or.inl rfl | refine And.intro ?_ ?_)), by (repeat' (first | exact trivial | exact rfl | exact congrArg (SV.int .i64) (Int.natCast_succ _).symm | refine And.intro ?_ ?_)), rfl⟩
end Go.Proofs.YtipbempkngfdbaaGreatDoor
/-
  Contract: tide.Served.
-/
namespace Go.Proofs.YtipbempkngfdbaaGreatDoor
open Go Go.Sy
set_option linter.unusedSimpArgs false
set_option maxRecDepth 100000
set_option maxHeartbeats 4000000
attribute [local irreducible] CallP CodeP Ent YieldP

theorem t45 (t : TD) (p l m : Int) (hv : t.Valid) : CallP Tryz.prog 71 [.ptr 0 0, .ptr 5 0, .ptr 6 0, .ptr 7 0] (t.shore ++ [some (.roc [.int .i64 p]), some (.roc [.int .i64 l]), some (.roc [.int .i64 m])])
    (Ret (.bool ((inB p 0 (t.nS - 1) && inB l 0 60) && inB m 0 60)) (t.shore ++ [some (.roc [.int .i64 p]), some (.roc [.int .i64 l]), some (.roc [.int .i64 m])])) := by
  have hS := hv.2.1
  have fin : ∀ (b : Bool) (h1 : SHeap), b = ((inB p 0 (t.nS - 1) && inB l 0 60) && inB m 0 60) → Fits (sel [0, 1, 2, 3, 4, 5, 6, 7] h1.length) h1 [0, 1, 2, 3, 4, 5, 6, 7] (t.shore ++ [some (.roc [.int .i64 p]), some (.roc [.int .i64 l]), some (.roc [.int .i64 m])]) →
      Ent (t.shore ++ [some (SObj.roc [.int .i64 p]), some (SObj.roc [.int .i64 l]), some (SObj.roc [.int .i64 m])]).length ⟨[some (none, .bool b)], h1, []⟩ ⟨[some (none, .bool ((inB p 0 (t.nS - 1) && inB l 0 60) && inB m 0 60))], (t.shore ++ [some (.roc [.int .i64 p]), some (.roc [.int .i64 l]), some (.roc [.int .i64 m])]), []⟩ := by
    intro b h1 hb hf
    subst hb
    exact ent_of [0, 1, 2, 3, 4, 5, 6, 7] hf ⟨rfl, rfl, trivial⟩ rfl rfl rfl
  refine callR (E := E) E_ok Tryz.func71 rfl ?_
  refine And.intro ?_ ?_
  · simp [AllP, under, gB, wB, inR_iff, IntKind.bits]
  refine (t46 t (by omega) p).use [0, 1, 2, 3, 4] ?_ (by (repeat' (first | exact trivial | exact rfl | exact fun _ _ => rfl | exact Or.inl rfl | refine And.intro ?_ ?_))) rfl
  refine And.intro ?_ (And.intro (fun hc => ?_) (fun hc => ?_))
  · simp [AllP, under, gB, wB, inR_iff, IntKind.bits]
  · have hc' : inB p 0 (t.nS - 1) = true := by simpa [gB, wB] using hc
    refine (t47 l).use [] ?_ (by (repeat' (first | exact trivial | exact rfl | exact fun _ _ => rfl | exact Or.inl rfl | refine And.intro ?_ ?_))) rfl
    refine And.intro ?_ (And.intro (fun hd => ?_) (fun hd => ?_))
    · simp [AllP, under, gB, wB, inR_iff, IntKind.bits]
    · have hd' : inB l 0 60 = true := by simpa [gB, wB, hc'] using hd
      refine (t47 m).use [] ?_ (by (repeat' (first | exact trivial | exact rfl | exact fun _ _ => rfl | exact Or.inl rfl | refine And.intro ?_ ?_))) rfl
      refine And.intro ?_ ?_
      · simp [AllP, under, gB, wB, inR_iff, IntKind.bits]
      refine fin _ _ ?_ (by (repeat' (first | exact trivial | exact rfl | exact fun _ _ => rfl | exact Or.inl rfl | refine And.intro ?_ ?_)))
      rw [hc', hd']
      rfl
    · have hd' : inB l 0 60 = false := by simpa [gB, wB, hc'] using hd
      refine And.intro ?_ ?_
      · simp [AllP, under, gB, wB, inR_iff, IntKind.bits]
        try simp [hc', hd']
      refine fin _ _ ?_ (by (repeat' (first | exact trivial | exact rfl | exact fun _ _ => rfl | exact Or.inl rfl | refine And.intro ?_ ?_)))
      rw [hc', hd']
      rfl
  · have hc' : inB p 0 (t.nS - 1) = false := by simpa [gB, wB] using hc
    refine And.intro ?_ (And.intro (fun hd => ?_) (fun hd => ?_))
    · simp [AllP, under, gB, wB, inR_iff, IntKind.bits]
      try exact hc'
    · simp [gB, wB, hc'] at hd
    · refine And.intro ?_ ?_
      · simp [AllP, under, gB, wB, inR_iff, IntKind.bits]
        try simp [hc']
      refine fin _ _ ?_ (by (repeat' (first | exact trivial | exact rfl | exact fun _ _ => rfl | exact Or.inl rfl | refine And.intro ?_ ?_)))
      rw [hc']
      rfl

def prow (o : List (Int × Int)) (k : Nat) : List SV := [.int .i64 (o.getD k (0, 0)).1, .int .i64 (o.getD k (0, 0)).2]
def stepS (good : Bool) (o : List (Int × Int)) (m : Int) : List (Int × Int) :=
  if good = false then o else if 0 < o.length ∧ (o.getD (o.length - 1) (0, 0)).2 + 1 = m then o.set (o.length - 1) ((o.getD (o.length - 1) (0, 0)).1, (o.getD (o.length - 1) (0, 0)).2 + 1) else o ++ [(m, m)]
/-- The spans of minutes that are good. -/
def servF (good : Int → Bool) : Nat → Int → List (Int × Int) → List (Int × Int)
  | 0, _, o => o
  | c + 1, m, o => servF good c (m + 1) (stepS (good m) o m)
def goodM (t : TD) (p : Nat) (l h : Int) (m : Int) : Bool := decide (l ≤ hulLo (a98 t m p) t.all t.all.length) && decide (hulHi (b98 t m p) t.all t.all.length ≤ h)
open Classical in
noncomputable def TD.servedT (t : TD) (p l h : Int) : Told (List (Int × Int)) :=
  if ¬ t.Valid then ⟨[], 1⟩ else if ¬ (t.isPl p ∧ (0 ≤ l ∧ l ≤ 60) ∧ (0 ≤ h ∧ h ≤ 60)) then ⟨[], 2⟩ else if t.all = [] then ⟨[], 10⟩ else ⟨servF (goodM t p.toNat l h) (t.mi (t.nM - 1) - t.mi 0 + 1).toNat (t.mi 0) [], 0⟩
theorem getD_set (o : List (Int × Int)) (j i : Nat) (v : Int × Int) (hj : j < o.length) : (o.set j v).getD i (0, 0) = if i = j then v else o.getD i (0, 0) := by
  rw [List.getD_eq_getElem?_getD, List.getElem?_set]
  by_cases h : j = i
  · subst h; simp [hj]
  · rw [if_neg h, if_neg (fun e => h e.symm), List.getD_eq_getElem?_getD]
theorem prow_set (o : List (Int × Int)) (j i : Nat) (v : Int) (hj : j < o.length) : selL (decide (i = j)) (splice (prow o j) 1 [.int .i64 v]) (prow o i) = prow (o.set j ((o.getD j (0, 0)).1, v)) i := by
  unfold prow
  rw [getD_set o j i _ hj]
  by_cases h : i = j
  · subst h; simp [selL, selV, splice]
  · simp [selL, selV, splice, h]
theorem getD_app (o : List (Int × Int)) (i : Nat) (v : Int × Int) : (o ++ [v]).getD i (0, 0) = if i < o.length then o.getD i (0, 0) else if i = o.length then v else (0, 0) := by
  rw [List.getD_eq_getElem?_getD, List.getElem?_append]
  split
  · rw [List.getD_eq_getElem?_getD]
  · split
    · rename_i h; subst h; simp
    · rename_i h1 h2
      rw [List.getElem?_eq_none (by simp; omega)]; rfl
theorem first_last {t : TD} (hv : t.Valid) : t.mi 0 ≤ t.mi (t.nM - 1) := by
  have hM := hv.1
  have h1 := hv.step (i := 1) (by omega) (by omega)
  simp only [Nat.sub_self] at h1
  have : t.nM = 2 ∨ t.nM = 3 ∨ t.nM = 4 := by omega
  rcases this with e | e | e <;> rw [e]
  · show t.mi 0 ≤ t.mi 1
    omega
  · have h2 := hv.step (i := 2) (by omega) (by omega)
    show t.mi 0 ≤ t.mi 2
    simp at h2
    omega
  · have h2 := hv.step (i := 2) (by omega) (by omega)
    have h3 := hv.step (i := 3) (by omega) (by omega)
    show t.mi 0 ≤ t.mi 3
    simp at h2 h3
    omega
/-- A slice of spans, and an error. -/
noncomputable def KSp (t : TD) (r : Told (List (Int × Int))) : CE → SHeap → Prop := fun ce h' =>
  (r.v = [] ∧ ce = .ret (.tup [.snil, .int .i64 r.e]) ∧ h' = t.HG) ∨ (0 < r.v.length ∧ ∃ cap, r.v.length ≤ cap ∧ cap ≤ 9223372036854775807 ∧ ce = .ret (.tup [.slice 5 2 0 r.v.length cap, .int .i64 r.e]) ∧ h' = t.HG ++ [some (.arr 2 r.v.length cap (prow r.v))])
theorem t15 (t : TD) (p l h : Int) : CallP Tryz.prog 21 [t.A, .int .i64 p, .int .i64 l, .int .i64 h] t.HG (KSp t (t.servedT p l h)) := by
  refine callD (E := E) E_ok Tryz.func21 rfl Tryz.func70 ⟨_, _, _, _, _, _, _, _, rfl, rfl, rfl⟩ rfl rfl ?_
  refine And.intro ?_ ?_
  · simp [AllP, under, gB, wB, inR_iff, IntKind.bits]
  refine CallP.frame (t44_3 t p l h 71 (.inl rfl) _ (t45 t p l h)) [0, 1, 2, 6, 7, 8] (by (repeat' (first | exact trivial | exact rfl | exact fun _ _ => rfl | exact Or.inl rfl | refine And.intro ?_ ?_))) (apartB_ok rfl) rfl ?_
  rintro ce h' (⟨hv, hb, rfl, rfl⟩ | ⟨hv, rfl, rfl⟩ | ⟨hv, hb, rfl, rfl⟩)
  · refine ⟨ownB_ok rfl, ?_⟩
    rw [Bool.and_eq_true, Bool.and_eq_true] at hb
    have hpm : t.isPl p ∧ (0 ≤ l ∧ l ≤ 60) ∧ (0 ≤ h ∧ h ≤ 60) := ⟨inB_iff.1 hb.1.1, inB_iff.1 hb.1.2, inB_iff.1 hb.2⟩
    have hM := hv.1
    refine And.intro ?_ ?_
    · simp [AllP, under, gB, wB, inR_iff, IntKind.bits]
    refine CallP.frame (t48 t hv) [10, 0, 1, 2, 11, 3] (by (repeat' (first | exact trivial | exact rfl | exact fun _ _ => rfl | exact Or.inl rfl | refine And.intro ?_ ?_))) (apartB_ok rfl) rfl ?_
    rintro ce h' (⟨h0, rfl, rfl⟩ | ⟨h0, cap, hc1, hc2, rfl, rfl⟩)
    · refine ⟨ownB_ok rfl, ?_⟩
      have e0 : t.servedT p l h = ⟨[], 10⟩ := by simp [TD.servedT, hv, hpm, h0]
      refine And.intro ?_ ?_
      · simp [AllP, under, gB, wB, inR_iff, IntKind.bits]
      refine (t43_stop 0 10).use [9] ?_ (by (repeat' (first | exact trivial | exact rfl | exact fun _ _ => rfl | exact Or.inl rfl | refine And.intro ?_ ?_))) rfl
      refine And.intro ?_ ⟨_, _, .inl ⟨by rw [e0], by rw [e0], rfl⟩, ?_⟩
      · simp [AllP, under, gB, wB, inR_iff, IntKind.bits]
      exact ent_tau [0, 1, 2, 3, 4] ⟨by (repeat' (first | exact trivial | exact rfl | exact fun _ _ => rfl | exact Or.inl rfl | refine And.intro ?_ ?_)), by (repeat' (first | exact trivial | exact rfl | exact congrArg (SV.int .i64) (Int.natCast_succ _).symm | refine And.intro ?_ ?_)), rfl⟩
    · refine ⟨ownB_ok rfl, ?_⟩
      have hne : ¬ t.all = [] := fun h => by rw [h] at h0; simp at h0
      have e0 : t.servedT p l h = ⟨servF (goodM t p.toNat l h) (t.mi (t.nM - 1) - t.mi 0 + 1).toNat (t.mi 0) [], 0⟩ := by simp [TD.servedT, hv, hpm, hne]
      have hlen := all_len hv
      obtain ⟨q, hq⟩ := Int.eq_ofNat_of_zero_le hpm.1.1
      subst hq
      have hq2 := hpm.1.2
      rw [Int.toNat_natCast] at e0
      have hlast := (hv.marks (i := t.nM - 1) (by omega)).1
      have hfirst := (hv.marks (i := 0) (by omega)).1
      have hfl := first_last hv
      refine And.intro ?_ ?_
      · simp [AllP, under, gB, wB, inR_iff, IntKind.bits]
        omega
      refine loopP E_ok [5, 6, 7, 9, 10, 11] (fun g : Bool × Nat × List (Int × Int) × Nat => [(12, match g.1 with | false => .snil | true => .slice 13 2 0 g.2.2.1.length g.2.2.2), (13, .int .i64 (t.mi 0 + g.2.1))])
        (fun g H => match g.1 with | false => H | true => H ++ [some (.arr 2 g.2.2.1.length g.2.2.2 (prow g.2.2.1))])
        (fun g => t.mi 0 + g.2.1 ≤ t.mi (t.nM - 1) + 1 ∧ g.1 = decide (0 < g.2.2.1.length) ∧ g.2.2.1.length ≤ g.2.1 ∧ (g.1 = true → g.2.2.1.length ≤ g.2.2.2 ∧ g.2.2.2 ≤ 9223372036854775807) ∧ (∀ i, i < g.2.2.1.length → 0 ≤ (g.2.2.1.getD i (0, 0)).2 ∧ (g.2.2.1.getD i (0, 0)).2 < t.mi 0 + g.2.1) ∧
          servF (goodM t q l h) (t.mi (t.nM - 1) - t.mi 0 + 1).toNat (t.mi 0) [] = servF (goodM t q l h) (t.mi (t.nM - 1) - t.mi 0 + 1 - g.2.1).toNat (t.mi 0 + g.2.1) g.2.2.1)
        (fun g => (t.mi (t.nM - 1) + 1 - t.mi 0 - g.2.1).toNat) (false, 0, [], 0) ⟨by simp; omega, by simp, by simp, by simp, by simp, by simp⟩ ?_ ?_
      · refine ent_tau [0, 1, 2, 3, 4, 5, 6, 7, 8, 9, 10, 11, 12] ⟨by (repeat' (first | exact trivial | exact rfl | exact fun _ _ => rfl | exact Or.inl rfl | refine And.intro ?_ ?_)), ?_, rfl⟩
        (repeat' (first | exact trivial | exact rfl | exact congrArg (SV.int .i64) (Int.natCast_succ _).symm | refine And.intro ?_ ?_))
        exact congrArg (SV.int .i64) (by simp)
      · rintro ⟨b, k, o, cp⟩ ⟨hk, hbo, hok, hcap, hval, hF⟩
        simp only at hk hbo hok hcap hval hF
        cases b with
        | false =>
          have ho : o = [] := by
            have : ¬ 0 < o.length := by simpa using hbo
            exact List.eq_nil_of_length_eq_zero (by omega)
          subst ho
          refine And.intro ?_ ?_
          · simp [AllP, under, gB, wB, inR_iff, IntKind.bits]
          refine (t49 t (by omega) (by omega)).use [10, 0, 1, 2, 11] ?_ (by (repeat' (first | exact trivial | exact rfl | exact fun _ _ => rfl | exact Or.inl rfl | refine And.intro ?_ ?_))) rfl
          refine And.intro ?_ (And.intro (fun hn => ?_) (fun hn => ?_))
          · simp [AllP, under, gB, wB, inR_iff, IntKind.bits]
          · have hn' : t.mi 0 + k ≤ t.mi (t.nM - 1) := by simpa using hn
            refine And.intro ?_ ?_
            · simp [AllP, under, gB, wB, inR_iff, IntKind.bits]
            refine (t50 t hv t.all (all_full hv) (by omega) cap q (t.mi 0 + k) ⟨by omega, hn'⟩ (by omega)).use [10, 0, 1, 2, 11, 3, 12, 4] ?_ (by (repeat' (first | exact trivial | exact rfl | exact fun _ _ => rfl | exact Or.inl rfl | refine And.intro ?_ ?_))) rfl
            have ec : (t.mi (t.nM - 1) - t.mi 0 + 1 - k).toNat = (t.mi (t.nM - 1) - t.mi 0 + 1 - ((k + 1 : Nat) : Int)).toNat + 1 := by omega
            refine And.intro ?_ (And.intro (fun hc => ?_) (fun hc => ?_))
            · simp [AllP, under, gB, wB]
            · have hgd : goodM t q l h (t.mi 0 + k) = false := by
                simp [goodM]
                simp at hc
                omega
              refine And.intro ?_ ⟨(false, k + 1, [], cp), ⟨by simp; omega, by simp, by simp, by simp, by simp, ?_⟩, by simp; omega, ?_⟩
              · simp [AllP, under, gB, wB, inR_iff, IntKind.bits]
                omega
              · show _ = servF (goodM t q l h) (t.mi (t.nM - 1) - t.mi 0 + 1 - ((k + 1 : Nat) : Int)).toNat (t.mi 0 + ((k + 1 : Nat) : Int)) []
                rw [hF, ec, servF, hgd]
                simp only [stepS, if_true]
                congr 1
                push_cast
                omega
              · refine ent_tau [0, 1, 2, 3, 4, 5, 6, 7, 8, 9, 10, 11, 12] ⟨by (repeat' (first | exact trivial | exact rfl | exact fun _ _ => rfl | exact Or.inl rfl | refine And.intro ?_ ?_)), ?_, rfl⟩
                (repeat' (first | exact trivial | exact rfl | exact congrArg (SV.int .i64) (Int.natCast_succ _).symm | refine And.intro ?_ ?_))
                exact congrArg (SV.int .i64) (by push_cast; omega)
            · have hgd : goodM t q l h (t.mi 0 + k) = true := by
                simp [goodM]
                simp at hc
                omega
              refine And.intro ?_ ?_
              · simp [AllP, under, gB, wB, inR_iff, IntKind.bits]
              refine And.intro (fun hd => ?_) (fun hd => ?_)
              · simp at hd
              · refine And.intro ?_ ?_
                · exact ⟨by decide, by decide, by decide, trivial⟩
                intro c' hc1' hc2'
                refine And.intro ?_ ⟨(true, k + 1, [(t.mi 0 + k, t.mi 0 + k)], c'), ⟨by show t.mi 0 + ((k + 1 : Nat) : Int) ≤ _; omega, by simp, by simp, fun _ => ⟨by simpa using hc1', hc2'⟩, ?_, ?_⟩, by show (t.mi (t.nM - 1) + 1 - t.mi 0 - ((k + 1 : Nat) : Int)).toNat < (t.mi (t.nM - 1) + 1 - t.mi 0 - (k : Int)).toNat; omega, ?_⟩
                · simp [AllP, under, gB, wB, inR_iff, IntKind.bits]
                  omega
                · intro i hi
                  have hi0 : i = 0 := by simpa using hi
                  subst hi0
                  show 0 ≤ t.mi 0 + (k : Int) ∧ t.mi 0 + (k : Int) < t.mi 0 + ((k + 1 : Nat) : Int)
                  omega
                · show _ = servF (goodM t q l h) (t.mi (t.nM - 1) - t.mi 0 + 1 - ((k + 1 : Nat) : Int)).toNat (t.mi 0 + ((k + 1 : Nat) : Int)) [(t.mi 0 + k, t.mi 0 + k)]
                  rw [hF, ec, servF, hgd]
                  simp only [stepS, List.length_nil, List.nil_append]
                  rw [if_neg (by simp), if_neg (by simp)]
                  congr 1
                  push_cast
                  omega
                · refine ent_tau [0, 1, 2, 3, 4, 5, 6, 7, 8, 9, 10, 11, 12, 15] ⟨?_, ?_, rfl⟩
                  · (repeat' (first | exact trivial | exact rfl | exact fun _ _ => rfl | exact Or.inl rfl | refine And.intro ?_ ?_))
                    intro i hi
                    have hi0 : i = 0 := Nat.lt_one_iff.1 hi
                    subst hi0
                    rfl
                  · (repeat' (first | exact trivial | exact rfl | exact congrArg (SV.int .i64) (Int.natCast_succ _).symm | refine And.intro ?_ ?_))
                    exact congrArg (SV.int .i64) (by show t.mi 0 + (k : Int) + 1 = t.mi 0 + ((k + 1 : Nat) : Int); omega)
          · have hn' : ¬ (t.mi 0 + k ≤ t.mi (t.nM - 1)) := by simpa using hn
            have ec : (t.mi (t.nM - 1) - t.mi 0 + 1 - k).toNat = 0 := by omega
            rw [ec, servF] at hF
            refine And.intro ?_ ?_
            · simp [AllP, under, gB, wB, inR_iff, IntKind.bits]
            refine And.intro trivial ?_
            refine (t43_nil 0).use [9] ?_ (by (repeat' (first | exact trivial | exact rfl | exact fun _ _ => rfl | exact Or.inl rfl | refine And.intro ?_ ?_))) rfl
            refine And.intro ?_ ⟨_, _, .inl ⟨by rw [e0, hF], rfl, rfl⟩, ?_⟩
            · simp [AllP, under, gB, wB, inR_iff, IntKind.bits]
            rw [e0]
            exact ent_tau [0, 1, 2, 3, 4] ⟨by (repeat' (first | exact trivial | exact rfl | exact fun _ _ => rfl | exact Or.inl rfl | refine And.intro ?_ ?_)), by (repeat' (first | exact trivial | exact rfl | exact congrArg (SV.int .i64) (Int.natCast_succ _).symm | refine And.intro ?_ ?_)), rfl⟩
        | true =>
          have ho : 0 < o.length := by simpa using hbo
          obtain ⟨hcp1, hcp2⟩ := hcap rfl
          have hol := hval (o.length - 1) (by omega)
          refine And.intro ?_ ?_
          · simp [AllP, under, gB, wB, inR_iff, IntKind.bits]
          refine (t49 t (by omega) (by omega)).use [10, 0, 1, 2, 11] ?_ (by (repeat' (first | exact trivial | exact rfl | exact fun _ _ => rfl | exact Or.inl rfl | refine And.intro ?_ ?_))) rfl
          refine And.intro ?_ (And.intro (fun hn => ?_) (fun hn => ?_))
          · simp [AllP, under, gB, wB, inR_iff, IntKind.bits]
          · have hn' : t.mi 0 + k ≤ t.mi (t.nM - 1) := by simpa using hn
            refine And.intro ?_ ?_
            · simp [AllP, under, gB, wB, inR_iff, IntKind.bits]
            refine (t50 t hv t.all (all_full hv) (by omega) cap q (t.mi 0 + k) ⟨by omega, hn'⟩ (by omega)).use [10, 0, 1, 2, 11, 3, 12, 4] ?_ (by (repeat' (first | exact trivial | exact rfl | exact fun _ _ => rfl | exact Or.inl rfl | refine And.intro ?_ ?_))) rfl
            have ec : (t.mi (t.nM - 1) - t.mi 0 + 1 - k).toNat = (t.mi (t.nM - 1) - t.mi 0 + 1 - ((k + 1 : Nat) : Int)).toNat + 1 := by omega
            refine And.intro ?_ (And.intro (fun hc => ?_) (fun hc => ?_))
            · simp [AllP, under, gB, wB]
            · have hgd : goodM t q l h (t.mi 0 + k) = false := by
                simp [goodM]
                simp at hc
                omega
              refine And.intro ?_ ⟨(true, k + 1, o, cp), ⟨by show t.mi 0 + ((k + 1 : Nat) : Int) ≤ _; omega, hbo, by show o.length ≤ k + 1; omega, hcap, ?_, ?_⟩, by show (t.mi (t.nM - 1) + 1 - t.mi 0 - ((k + 1 : Nat) : Int)).toNat < (t.mi (t.nM - 1) + 1 - t.mi 0 - (k : Int)).toNat; omega, ?_⟩
              · simp [AllP, under, gB, wB, inR_iff, IntKind.bits]
                omega
              · intro i hi
                have := hval i hi
                show 0 ≤ (o.getD i (0, 0)).2 ∧ (o.getD i (0, 0)).2 < t.mi 0 + ((k + 1 : Nat) : Int)
                omega
              · show _ = servF (goodM t q l h) (t.mi (t.nM - 1) - t.mi 0 + 1 - ((k + 1 : Nat) : Int)).toNat (t.mi 0 + ((k + 1 : Nat) : Int)) o
                rw [hF, ec, servF, hgd]
                simp only [stepS, if_true]
                congr 1
                push_cast
                omega
              · refine ent_tau [0, 1, 2, 3, 4, 5, 6, 7, 8, 9, 10, 11, 12, 13] ⟨by (repeat' (first | exact trivial | exact rfl | exact fun _ _ => rfl | exact Or.inl rfl | refine And.intro ?_ ?_)), ?_, rfl⟩
                (repeat' (first | exact trivial | exact rfl | exact congrArg (SV.int .i64) (Int.natCast_succ _).symm | refine And.intro ?_ ?_))
                exact congrArg (SV.int .i64) (by push_cast; omega)
            · have hgd : goodM t q l h (t.mi 0 + k) = true := by
                simp [goodM]
                simp at hc
                omega
              have hol2 : 0 ≤ (o[o.length - 1]?.getD (0, 0)).2 ∧ (o[o.length - 1]?.getD (0, 0)).2 < t.mi 0 + k := by simpa only [List.getD_eq_getElem?_getD] using hol
              have ei : (0 + ((o.length : Int) - 1).toNat) = o.length - 1 := by omega
              refine And.intro ?_ ?_
              · simp [AllP, under, gB, wB, inR_iff, IntKind.bits]
                exact ⟨fun _ => ⟨by omega, by omega⟩, fun _ => by omega, fun _ => by omega, by omega, by omega⟩
              refine And.intro (fun hd => ?_) (fun hd => ?_)
              · have hd' : (o.getD (o.length - 1) (0, 0)).2 + 1 = t.mi 0 + k := by
                  have hge : ((o.length : Int) - 1 ≥ 0) := by omega
                  simp only [prow, ei, hge, decide_true] at hd
                  simpa using hd
                refine And.intro ?_ ?_
                · refine ⟨?_, ?_, ?_, ?_, ?_, ?_, ?_, ?_, trivial⟩
                  · show -9223372036854775808 ≤ t.mi 0 + (k : Int) + 1 ∧ t.mi 0 + (k : Int) + 1 ≤ 9223372036854775807
                    omega
                  · show 0 + ((o.length : Int) - 1).toNat < o.length
                    omega
                  · show 0 ≤ (o.length : Int) - 1
                    omega
                  · show (o.length : Int) - 1 < (o.length : Int)
                    omega
                  · show -9223372036854775808 ≤ (o.getD (0 + ((o.length : Int) - 1).toNat) (0, 0)).2 + 1 ∧ (o.getD (0 + ((o.length : Int) - 1).toNat) (0, 0)).2 + 1 ≤ 9223372036854775807
                    rw [ei]
                    omega
                  · show 0 + ((o.length : Int) - 1).toNat < o.length
                    omega
                  · show 0 ≤ (o.length : Int) - 1
                    omega
                  · show (o.length : Int) - 1 < (o.length : Int)
                    omega
                have hst : stepS true o (t.mi 0 + k) = o.set (o.length - 1) ((o.getD (o.length - 1) (0, 0)).1, (o.getD (o.length - 1) (0, 0)).2 + 1) := by
                  simp only [stepS]
                  rw [if_neg (by simp), if_pos ⟨ho, hd'⟩]
                refine ⟨(true, k + 1, stepS true o (t.mi 0 + k), cp), ⟨by show t.mi 0 + ((k + 1 : Nat) : Int) ≤ _; omega, ?_, ?_, ?_, ?_, ?_⟩, by show (t.mi (t.nM - 1) + 1 - t.mi 0 - ((k + 1 : Nat) : Int)).toNat < (t.mi (t.nM - 1) + 1 - t.mi 0 - (k : Int)).toNat; omega, ?_⟩
                · show true = decide (0 < (stepS true o (t.mi 0 + k)).length)
                  rw [hst, List.length_set]
                  simpa using ho
                · show (stepS true o (t.mi 0 + k)).length ≤ k + 1
                  rw [hst, List.length_set]
                  omega
                · intro _
                  show (stepS true o (t.mi 0 + k)).length ≤ cp ∧ cp ≤ 9223372036854775807
                  rw [hst, List.length_set]
                  exact ⟨hcp1, hcp2⟩
                · intro i hi
                  show 0 ≤ ((stepS true o (t.mi 0 + k)).getD i (0, 0)).2 ∧ ((stepS true o (t.mi 0 + k)).getD i (0, 0)).2 < t.mi 0 + ((k + 1 : Nat) : Int)
                  have hi' : i < (stepS true o (t.mi 0 + k)).length := hi
                  rw [hst, List.length_set] at hi'
                  rw [hst, getD_set o _ _ _ (by omega)]
                  have := hval i hi'
                  split
                  · show 0 ≤ (o.getD (o.length - 1) (0, 0)).2 + 1 ∧ (o.getD (o.length - 1) (0, 0)).2 + 1 < t.mi 0 + ((k + 1 : Nat) : Int)
                    omega
                  · omega
                · show _ = servF (goodM t q l h) (t.mi (t.nM - 1) - t.mi 0 + 1 - ((k + 1 : Nat) : Int)).toNat (t.mi 0 + ((k + 1 : Nat) : Int)) (stepS true o (t.mi 0 + k))
                  rw [hF, ec, servF, hgd]
                  congr 1
                  push_cast
                  omega
                · have hlen2 : o.length = (stepS true o (t.mi 0 + k)).length := by rw [hst, List.length_set]
                  refine ent_tau [0, 1, 2, 3, 4, 5, 6, 7, 8, 9, 10, 11, 12, 13] ⟨?_, ?_, rfl⟩
                  · (repeat' (first | exact trivial | exact rfl | exact fun _ _ => rfl | exact Or.inl rfl | refine And.intro ?_ ?_))
                    · exact hlen2
                    · intro i hi
                      show selL (decide (i = 0 + ((o.length : Int) - 1).toNat)) (splice (prow o (0 + ((o.length : Int) - 1).toNat)) 1 [.int .i64 ((o.getD (0 + ((o.length : Int) - 1).toNat) (0, 0)).2 + 1)]) (prow o i) = prow (stepS true o (t.mi 0 + k)) i
                      rw [ei, hst]
                      exact prow_set o _ i _ (by omega)
                  · (repeat' (first | exact trivial | exact rfl | exact congrArg (SV.int .i64) (Int.natCast_succ _).symm | refine And.intro ?_ ?_))
                    · show SV.slice 13 2 0 o.length cp = SV.slice 13 2 0 (stepS true o (t.mi 0 + k)).length cp
                      rw [← hlen2]
                    · exact congrArg (SV.int .i64) (by show t.mi 0 + (k : Int) + 1 = t.mi 0 + ((k + 1 : Nat) : Int); omega)
              · have hd' : ¬ ((o.getD (o.length - 1) (0, 0)).2 + 1 = t.mi 0 + k) := by
                  have hge : ((o.length : Int) - 1 ≥ 0) := by omega
                  simp only [prow, ei, hge, decide_true] at hd
                  simpa using hd
                have hst : stepS true o (t.mi 0 + k) = o ++ [(t.mi 0 + (k : Int), t.mi 0 + (k : Int))] := by
                  simp only [stepS]
                  rw [if_neg (by simp), if_neg (fun e => hd' e.2)]
                refine And.intro ?_ ?_
                · refine ⟨Nat.le_refl _, Nat.le_refl _, by decide, ?_, ?_, hcp2, trivial⟩
                  · show (o.length + 1) * 16 ≤ 140737488355328
                    omega
                  · intro i hi
                    have hi0 : i = 0 := Nat.lt_one_iff.1 hi
                    subst hi0
                    rfl
                intro c' hc1' hc2'
                have hc1'' : o.length + 1 ≤ c' := hc1'
                have hlen2 : o.length + 1 = (stepS true o (t.mi 0 + k)).length := by rw [hst, List.length_append]; rfl
                refine And.intro ?_ ⟨(true, k + 1, stepS true o (t.mi 0 + k), c'), ⟨by show t.mi 0 + ((k + 1 : Nat) : Int) ≤ _; omega, ?_, ?_, ?_, ?_, ?_⟩, by show (t.mi (t.nM - 1) + 1 - t.mi 0 - ((k + 1 : Nat) : Int)).toNat < (t.mi (t.nM - 1) + 1 - t.mi 0 - (k : Int)).toNat; omega, ?_⟩
                · simp [AllP, under, gB, wB, inR_iff, IntKind.bits]
                  omega
                · show true = decide (0 < (stepS true o (t.mi 0 + k)).length)
                  rw [← hlen2]
                  simp
                · show (stepS true o (t.mi 0 + k)).length ≤ k + 1
                  rw [← hlen2]
                  omega
                · intro _
                  show (stepS true o (t.mi 0 + k)).length ≤ c' ∧ c' ≤ 9223372036854775807
                  rw [← hlen2]
                  exact ⟨hc1'', hc2'⟩
                · intro i hi
                  show 0 ≤ ((stepS true o (t.mi 0 + k)).getD i (0, 0)).2 ∧ ((stepS true o (t.mi 0 + k)).getD i (0, 0)).2 < t.mi 0 + ((k + 1 : Nat) : Int)
                  have hi' : i < (stepS true o (t.mi 0 + k)).length := hi
                  rw [← hlen2] at hi'
                  rw [hst, getD_app]
                  split
                  · rename_i h4
                    have := hval i h4
                    omega
                  · rw [if_pos (by omega)]
                    show 0 ≤ t.mi 0 + (k : Int) ∧ t.mi 0 + (k : Int) < t.mi 0 + ((k + 1 : Nat) : Int)
                    omega
                · show _ = servF (goodM t q l h) (t.mi (t.nM - 1) - t.mi 0 + 1 - ((k + 1 : Nat) : Int)).toNat (t.mi 0 + ((k + 1 : Nat) : Int)) (stepS true o (t.mi 0 + k))
                  rw [hF, ec, servF, hgd]
                  congr 1
                  push_cast
                  omega
                · refine ent_tau [0, 1, 2, 3, 4, 5, 6, 7, 8, 9, 10, 11, 12, 16] ⟨?_, ?_, rfl⟩
                  · (repeat' (first | exact trivial | exact rfl | exact fun _ _ => rfl | exact Or.inl rfl | refine And.intro ?_ ?_))
                    · exact hlen2
                    · intro i hi
                      have hi2 : i < o.length + 1 := hi
                      rcases Nat.lt_or_ge i o.length with h4 | h4
                      · refine Eq.trans (b := prow o i) ?_ ?_
                        · show selL (decide (i < o.length)) (prow o i) _ = prow o i
                          rw [decide_eq_true h4, selL_true]
                        · show prow o i = prow (stepS true o (t.mi 0 + k)) i
                          unfold prow
                          rw [hst, getD_app, if_pos h4]
                      · have h5 : i = o.length := by omega
                        subst h5
                        refine Eq.trans (b := [SV.int .i64 (t.mi 0 + k), SV.int .i64 (t.mi 0 + k)]) ?_ ?_
                        · show selL (decide (o.length < o.length)) (prow o o.length) (getOf 2 [SV.int .i64 (t.mi 0 + k), SV.int .i64 (t.mi 0 + k)] (0 + (o.length - o.length))) = _
                          rw [decide_eq_false (by omega), selL_false, Nat.sub_self]
                          rfl
                        · show _ = prow (stepS true o (t.mi 0 + k)) o.length
                          unfold prow
                          rw [hst, getD_app, if_neg (by omega), if_pos rfl]
                  · (repeat' (first | exact trivial | exact rfl | exact congrArg (SV.int .i64) (Int.natCast_succ _).symm | refine And.intro ?_ ?_))
                    · show SV.slice 16 2 0 (o.length + 1) c' = SV.slice 16 2 0 (stepS true o (t.mi 0 + k)).length c'
                      rw [← hlen2]
                    · exact congrArg (SV.int .i64) (by show t.mi 0 + (k : Int) + 1 = t.mi 0 + ((k + 1 : Nat) : Int); omega)
          · have hn' : ¬ (t.mi 0 + k ≤ t.mi (t.nM - 1)) := by simpa using hn
            have ec : (t.mi (t.nM - 1) - t.mi 0 + 1 - k).toNat = 0 := by omega
            rw [ec, servF] at hF
            refine And.intro ?_ ?_
            · simp [AllP, under, gB, wB, inR_iff, IntKind.bits]
            refine And.intro trivial ?_
            refine (t43_nil 0).use [9] ?_ (by (repeat' (first | exact trivial | exact rfl | exact fun _ _ => rfl | exact Or.inl rfl | refine And.intro ?_ ?_))) rfl
            have e1 : t.servedT q l h = ⟨o, 0⟩ := by rw [e0, hF]
            refine And.intro ?_ ⟨_, _, .inr ⟨by rw [e1]; exact ho, cp, by rw [e1]; exact hcp1, hcp2, rfl, rfl⟩, ?_⟩
            · simp [AllP, under, gB, wB, inR_iff, IntKind.bits]
            rw [e1]
            exact ent_tau [0, 1, 2, 3, 4, 13] ⟨by (repeat' (first | exact trivial | exact rfl | exact fun _ _ => rfl | exact Or.inl rfl | refine And.intro ?_ ?_)), by (repeat' (first | exact trivial | exact rfl | exact congrArg (SV.int .i64) (Int.natCast_succ _).symm | refine And.intro ?_ ?_)), rfl⟩
  · refine ⟨ownB_ok rfl, ?_⟩
    have e0 : t.servedT p l h = ⟨[], 1⟩ := by simp [TD.servedT, hv]
    refine And.intro ?_ ?_
    · simp [AllP, under, gB, wB, inR_iff, IntKind.bits]
    refine (t43_stop 0 1).use [9] ?_ (by (repeat' (first | exact trivial | exact rfl | exact fun _ _ => rfl | exact Or.inl rfl | refine And.intro ?_ ?_))) rfl
    refine And.intro ?_ ⟨_, _, .inl ⟨by rw [e0], by rw [e0], rfl⟩, ?_⟩
    · simp [AllP, under, gB, wB, inR_iff, IntKind.bits]
    exact ent_tau [0, 1, 2, 3, 4] ⟨by (repeat' (first | exact trivial | exact rfl | exact fun _ _ => rfl | exact Or.inl rfl | refine And.intro ?_ ?_)), by (repeat' (first | exact trivial | exact rfl | exact congrArg (SV.int .i64) (Int.natCast_succ _).symm | refine And.intro ?_ ?_)), rfl⟩
  · refine ⟨ownB_ok rfl, ?_⟩
    have hpm : ¬ (t.isPl p ∧ (0 ≤ l ∧ l ≤ 60) ∧ (0 ≤ h ∧ h ≤ 60)) := fun h => by rw [inB_iff.2 h.1, inB_iff.2 h.2.1, inB_iff.2 h.2.2] at hb; cases hb
    have e0 : t.servedT p l h = ⟨[], 2⟩ := by simp [TD.servedT, hv, hpm]
    refine And.intro ?_ ?_
    · simp [AllP, under, gB, wB, inR_iff, IntKind.bits]
    refine (t43_stop 0 2).use [9] ?_ (by (repeat' (first | exact trivial | exact rfl | exact fun _ _ => rfl | exact Or.inl rfl | refine And.intro ?_ ?_))) rfl
    refine And.intro ?_ ⟨_, _, .inl ⟨by rw [e0], by rw [e0], rfl⟩, ?_⟩
    · simp [AllP, under, gB, wB, inR_iff, IntKind.bits]
    exact ent_tau [0, 1, 2, 3, 4] ⟨by (repeat' (first | exact trivial | exact rfl | exact fun _ _ => rfl | exact Or.inl rfl | refine And.intro ?_ ?_)), by (repeat' (first | exact trivial | exact rfl | exact congrArg (SV.int .i64) (Int.natCast_succ _).symm | refine And.intro ?_ ?_)), rfl⟩
end Go.Proofs.YtipbempkngfdbaaGreatDoor
/-
  One round of the loop in which truths are counted.
-/
namespace Go.Proofs.YtipbempkngfdbaaGreatDoor
open Go Go.Sy
set_option linter.unusedSimpArgs false
set_option maxRecDepth 100000
set_option maxHeartbeats 4000000
attribute [local irreducible] CallP CodeP Ent YieldP
set_option maxHeartbeats 800000

/-- The record of the loop in tide.Count; the number lies in block i, the shore's address in block s. -/
noncomputable def L26 (i s : Nat) : SObj := .loopr [none, none, none, none, some (.ptr s 0), some (.ptr i 0), none, none, none, none, none, none, none, none, none, none, none, none, none, none, none, none, none, none, none, none] #[14] (asOf Tryz.f14) (bodyOf Tryz.f14) .ready none
def pl26s : Plan := .eager 9 <| .alt 10 .done .no
def pl14_6s : Plan := .eager 1 <| .eager 2 <| .eager 3 <| .eager 4 <| .eager 5 <| .eager 6 <| .eager 7 <| .alt 0 (.alt 8 pl26s .no) (.alt 8 (.alt 0 pl26s .no) .no)
noncomputable def H26 (t : TD) (g : Int) : SHeap := [some (L26 1 2), some (.cells [.int .i64 g]), some (.roc [.ptr 3 0]), some (.roc [.osl t.bM 4 3 t.nM t.cM, .osl t.bS 5 2 t.nS t.cS, .osl t.bL 6 4 t.nL t.cL, .map 7]), some .dead, some .dead, some .dead, some .dead]
theorem y26 (t : TD) (hv : t.Valid) (g : Int) (hg : 0 ≤ g ∧ g ≤ 1000000) (x : Tr) (hx : fullTr t x) : YieldP Tryz.prog 0 [trv x] (H26 t g) (Ret (.bool true) (H26 t (g + manyF x t.nS))) := by
  have hS := hv.2.1
  obtain ⟨m1, m2⟩ := manyF_range hx t.nS (Nat.le_refl _)
  have m3 : (3 : Int) ^ t.nS ≤ 3 ^ 4 := by
    have : (3 : Nat) ^ t.nS ≤ 3 ^ 4 := Nat.pow_le_pow_right (by omega) (by omega)
    exact_mod_cast this
  have e81 : (3 : Int) ^ 4 = 81 := by decide
  rw [e81] at m3
  refine YieldP.ent (roundP E_ok rfl rfl fun l => ?_)
  refine And.intro ?_ ?_
  · simp [AllP, under, gB, wB, inR_iff, IntKind.bits]
  refine drawP E_ok [8] pl14_6s (by kernel_rfl) ?_
  refine And.intro (And.intro ?_ trivial) (And.intro ?_ trivial)
  · refine And.intro ?_ ?_
    · simp [AllP, under, gB, wB, inR_iff, IntKind.bits]
    refine (t80 t hv x hx).use [] ?_ (by (repeat' (first | exact trivial | exact rfl | exact fun _ _ => rfl | exact Or.inl rfl | refine And.intro ?_ ?_))) rfl
    refine And.intro ?_ trivial
    refine And.intro ?_ ?_
    · simp [AllP, under, gB, wB, inR_iff, IntKind.bits]
      omega
    refine And.intro ?_ ?_
    · exact rfl
    refine And.intro ?_ ?_
    · simp [AllP, under, gB, wB, inR_iff, IntKind.bits]
    refine ⟨_, _, ⟨rfl, rfl⟩, ?_⟩
    exact ent_tau [0, 1, 2, 3, 4, 5, 6, 7] ⟨by (repeat' (first | exact trivial | exact rfl | exact fun _ _ => rfl | exact Or.inl rfl | refine And.intro ?_ ?_)), by (repeat' (first | exact trivial | exact rfl | exact congrArg (SV.int .i64) (Int.natCast_succ _).symm | refine And.intro ?_ ?_)), rfl⟩
  · refine And.intro ?_ ?_
    · simp [AllP, under, gB, wB, inR_iff, IntKind.bits]
    refine (t80 t hv x hx).use [] ?_ (by (repeat' (first | exact trivial | exact rfl | exact fun _ _ => rfl | exact Or.inl rfl | refine And.intro ?_ ?_))) rfl
    refine And.intro (And.intro ?_ trivial) trivial
    refine And.intro ?_ ?_
    · simp [AllP, under, gB, wB, inR_iff, IntKind.bits]
      omega
    refine And.intro ?_ ?_
    · exact rfl
    refine And.intro ?_ ?_
    · simp [AllP, under, gB, wB, inR_iff, IntKind.bits]
    refine ⟨_, _, ⟨rfl, rfl⟩, ?_⟩
    exact ent_tau [0, 1, 2, 3, 4, 5, 6, 7] ⟨by (repeat' (first | exact trivial | exact rfl | exact fun _ _ => rfl | exact Or.inl rfl | refine And.intro ?_ ?_)), by (repeat' (first | exact trivial | exact rfl | exact congrArg (SV.int .i64) (Int.natCast_succ _).symm | refine And.intro ?_ ?_)), rfl⟩
end Go.Proofs.YtipbempkngfdbaaGreatDoor
