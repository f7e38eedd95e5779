/-
  Parts: B17, B18, B24, B25, B26.
-/
import Derived.Test.YtipbempkngfdbaaGreatDoorK21
import Derived.Test.YtipbempkngfdbaaGreatDoorK19
import Derived.Test.YtipbempkngfdbaaGreatDoorK20
import Derived.Test.YtipbempkngfdbaaGreatDoorK15
import Derived.KernelRfl
set_option linter.unusedVariables false
/-
  Contract: tide.Places.
-/
namespace Go.Proofs.YtipbempkngfdbaaGreatDoor
open Go Go.Sy
set_option linter.unusedSimpArgs false
set_option maxRecDepth 100000
set_option maxHeartbeats 4000000
attribute [local irreducible] CallP CodeP Ent YieldP

theorem t88 (t : TD) (p l m : Int) (hv : t.Valid) : CallP Tryz.prog 50 [.ptr 0 0, .ptr 5 0, .ptr 6 0, .ptr 7 0] (t.shore ++ [some (.roc [.int .i64 p]), some (.roc [.int .i64 l]), some (.roc [.int .i64 m])])
    (Ret (.bool ((inB p (t.mi 0) (t.mi (t.nM - 1)) && inB l 0 60) && inB m 0 60)) (t.shore ++ [some (.roc [.int .i64 p]), some (.roc [.int .i64 l]), some (.roc [.int .i64 m])])) := by
  have hM := hv.1
  have fin : ∀ (b : Bool) (h1 : SHeap), b = ((inB p (t.mi 0) (t.mi (t.nM - 1)) && inB l 0 60) && inB m 0 60) → Fits (sel [0, 1, 2, 3, 4, 5, 6, 7] h1.length) h1 [0, 1, 2, 3, 4, 5, 6, 7] (t.shore ++ [some (.roc [.int .i64 p]), some (.roc [.int .i64 l]), some (.roc [.int .i64 m])]) →
      Ent (t.shore ++ [some (SObj.roc [.int .i64 p]), some (SObj.roc [.int .i64 l]), some (SObj.roc [.int .i64 m])]).length ⟨[some (none, .bool b)], h1, []⟩ ⟨[some (none, .bool ((inB p (t.mi 0) (t.mi (t.nM - 1)) && inB l 0 60) && inB m 0 60))], (t.shore ++ [some (.roc [.int .i64 p]), some (.roc [.int .i64 l]), some (.roc [.int .i64 m])]), []⟩ := by
    intro b h1 hb hf
    subst hb
    exact ent_of [0, 1, 2, 3, 4, 5, 6, 7] hf ⟨rfl, rfl, trivial⟩ rfl rfl rfl
  refine callR (E := E) E_ok Tryz.func50 rfl ?_
  refine And.intro ?_ ?_
  · simp [AllP, under, gB, wB, inR_iff, IntKind.bits]
  refine (t57 t (by omega) (by omega) p).use [0, 1, 2, 3, 4] ?_ (by (repeat' (first | exact trivial | exact rfl | exact fun _ _ => rfl | exact Or.inl rfl | refine And.intro ?_ ?_))) rfl
  refine And.intro ?_ (And.intro (fun hc => ?_) (fun hc => ?_))
  · simp [AllP, under, gB, wB, inR_iff, IntKind.bits]
  · have hc' : inB p (t.mi 0) (t.mi (t.nM - 1)) = true := by simpa [gB, wB] using hc
    refine (t47 l).use [] ?_ (by (repeat' (first | exact trivial | exact rfl | exact fun _ _ => rfl | exact Or.inl rfl | refine And.intro ?_ ?_))) rfl
    refine And.intro ?_ (And.intro (fun hd => ?_) (fun hd => ?_))
    · simp [AllP, under, gB, wB, inR_iff, IntKind.bits]
    · have hd' : inB l 0 60 = true := by simpa [gB, wB, hc'] using hd
      refine (t47 m).use [] ?_ (by (repeat' (first | exact trivial | exact rfl | exact fun _ _ => rfl | exact Or.inl rfl | refine And.intro ?_ ?_))) rfl
      refine And.intro ?_ ?_
      · simp [AllP, under, gB, wB, inR_iff, IntKind.bits]
      refine fin _ _ ?_ (by (repeat' (first | exact trivial | exact rfl | exact fun _ _ => rfl | exact Or.inl rfl | refine And.intro ?_ ?_)))
      rw [hc', hd']
      rfl
    · have hd' : inB l 0 60 = false := by simpa [gB, wB, hc'] using hd
      refine And.intro ?_ ?_
      · simp [AllP, under, gB, wB, inR_iff, IntKind.bits]
        try simp [hc', hd']
      refine fin _ _ ?_ (by (repeat' (first | exact trivial | exact rfl | exact fun _ _ => rfl | exact Or.inl rfl | refine And.intro ?_ ?_)))
      rw [hc', hd']
      rfl
  · have hc' : inB p (t.mi 0) (t.mi (t.nM - 1)) = false := by simpa [gB, wB] using hc
    refine And.intro ?_ (And.intro (fun hd => ?_) (fun hd => ?_))
    · simp [AllP, under, gB, wB, inR_iff, IntKind.bits]
      try exact hc'
    · simp [gB, wB, hc'] at hd
    · refine And.intro ?_ ?_
      · simp [AllP, under, gB, wB, inR_iff, IntKind.bits]
        try simp [hc']
      refine fin _ _ ?_ (by (repeat' (first | exact trivial | exact rfl | exact fun _ _ => rfl | exact Or.inl rfl | refine And.intro ?_ ?_)))
      rw [hc']
      rfl

/-- A set by bits. -/
def bitsF (f : Nat → Bool) : Nat → Int
  | 0 => 0
  | k + 1 => if f k = true then bitOp .or .i64 (bitsF f k) (1 * 2 ^ k) else bitsF f k
def depAll (t : TD) (m : Int) (p : Nat) : List (Int × Int) := depOut t m p t.all t.all.length
def anyIn (l h : Int) (M : List (Int × Int)) : Bool := M.any fun q => inB q.1 l h
def anyOut (l h : Int) (M : List (Int × Int)) : Bool := M.any fun q => !inB q.1 l h
open Classical in
noncomputable def TD.placesT (t : TD) (m l h : Int) : Told (Int × Int) :=
  if ¬ t.Valid then ⟨(0, 0), 1⟩ else if ¬ (t.isMin m ∧ (0 ≤ l ∧ l ≤ 60) ∧ (0 ≤ h ∧ h ≤ 60)) then ⟨(0, 0), 2⟩ else if t.all = [] then ⟨(0, 0), 10⟩ else
    ⟨(bitsF (fun p => !anyOut l h (depAll t m p)) t.nS, bitsF (fun p => anyIn l h (depAll t m p)) t.nS), 0⟩
theorem bitsF_t {f : Nat → Bool} {k : Nat} (h : f k = true) : bitOp .or .i64 (bitsF f k) (1 * 2 ^ (k : Int).toNat) = bitsF f (k + 1) := by
  rw [Int.toNat_natCast, bitsF, if_pos h]
theorem bitsF_f {f : Nat → Bool} {k : Nat} (h : f k = false) : bitsF f k = bitsF f (k + 1) := by
  rw [bitsF, if_neg (by simp [h])]
theorem t32 (t : TD) (m l h : Int) : CallP Tryz.prog 12 [t.A, .int .i64 m, .int .i64 l, .int .i64 h] t.HG (Ret (.tup [.int .i64 (t.placesT m l h).v.1, .int .i64 (t.placesT m l h).v.2, .int .i64 (t.placesT m l h).e]) t.HG) := by
  refine callD (E := E) E_ok Tryz.func12 rfl Tryz.func49 ⟨_, _, _, _, _, _, _, _, rfl, rfl, rfl⟩ rfl rfl ?_
  refine And.intro ?_ ?_
  · simp [AllP, under, gB, wB, inR_iff, IntKind.bits]
  refine CallP.frame (t44_3 t m l h 50 (.inr (.inr rfl)) _ (t88 t m l h)) [0, 1, 2, 6, 7, 8] (by (repeat' (first | exact trivial | exact rfl | exact fun _ _ => rfl | exact Or.inl rfl | refine And.intro ?_ ?_))) (apartB_ok rfl) rfl ?_
  rintro ce h' (⟨hv, hb, rfl, rfl⟩ | ⟨hv, rfl, rfl⟩ | ⟨hv, hb, rfl, rfl⟩)
  · refine ⟨ownB_ok rfl, ?_⟩
    rw [Bool.and_eq_true, Bool.and_eq_true] at hb
    have hpm : t.isMin m ∧ (0 ≤ l ∧ l ≤ 60) ∧ (0 ≤ h ∧ h ≤ 60) := ⟨inB_iff.1 hb.1.1, inB_iff.1 hb.1.2, inB_iff.1 hb.2⟩
    have hM := hv.1
    have hS := hv.2.1
    refine And.intro ?_ ?_
    · simp [AllP, under, gB, wB, inR_iff, IntKind.bits]
    refine CallP.frame (t48 t hv) [10, 0, 1, 2, 11, 3] (by (repeat' (first | exact trivial | exact rfl | exact fun _ _ => rfl | exact Or.inl rfl | refine And.intro ?_ ?_))) (apartB_ok rfl) rfl ?_
    rintro ce h' (⟨h0, rfl, rfl⟩ | ⟨h0, cap, hc1, hc2, rfl, rfl⟩)
    · refine ⟨ownB_ok rfl, ?_⟩
      have e0 : t.placesT m l h = ⟨(0, 0), 10⟩ := by simp [TD.placesT, hv, hpm, h0]
      refine And.intro ?_ ?_
      · simp [AllP, under, gB, wB, inR_iff, IntKind.bits]
      refine (t43_stop 0 10).use [9] ?_ (by (repeat' (first | exact trivial | exact rfl | exact fun _ _ => rfl | exact Or.inl rfl | refine And.intro ?_ ?_))) rfl
      refine And.intro ?_ ⟨_, _, ⟨rfl, rfl⟩, ?_⟩
      · simp [AllP, under, gB, wB, inR_iff, IntKind.bits]
      rw [e0]
      exact ent_tau [0, 1, 2, 3, 4] ⟨by (repeat' (first | exact trivial | exact rfl | exact fun _ _ => rfl | exact Or.inl rfl | refine And.intro ?_ ?_)), by (repeat' (first | exact trivial | exact rfl | exact congrArg (SV.int .i64) (Int.natCast_succ _).symm | refine And.intro ?_ ?_)), rfl⟩
    · refine ⟨ownB_ok rfl, ?_⟩
      have hne : ¬ t.all = [] := fun h => by rw [h] at h0; simp at h0
      have e0 : t.placesT m l h = ⟨(bitsF (fun p => !anyOut l h (depAll t m p)) t.nS, bitsF (fun p => anyIn l h (depAll t m p)) t.nS), 0⟩ := by simp [TD.placesT, hv, hpm, hne]
      have hlen := all_len hv
      refine And.intro ?_ ?_
      · simp [AllP, under, gB, wB, inR_iff, IntKind.bits]
      refine loopP E_ok [5, 6, 7, 10, 11, 12, 30] (fun k : Nat => [(13, .int .i64 (bitsF (fun p => !anyOut l h (depAll t m p)) k)), (14, .int .i64 (bitsF (fun p => anyIn l h (depAll t m p)) k)), (31, .int .i64 k)]) (fun _ H => H) (fun k => k ≤ t.nS) (fun k => t.nS - k) 0 (Nat.zero_le _) ?_ ?_
      · exact ent_tau [0, 1, 2, 3, 4, 5, 6, 7, 8, 9, 10, 11, 12] ⟨by (repeat' (first | exact trivial | exact rfl | exact fun _ _ => rfl | exact Or.inl rfl | refine And.intro ?_ ?_)), by (repeat' (first | exact trivial | exact rfl | exact congrArg (SV.int .i64) (Int.natCast_succ _).symm | refine And.intro ?_ ?_)), rfl⟩
      · intro k hk
        refine And.intro ?_ (And.intro (fun hn => ?_) (fun hn => ?_))
        · simp [AllP, under, gB, wB, inR_iff, IntKind.bits]
        · have hn' : k < t.nS := by simpa using hn
          have hp2 : 1 ≤ (2 : Int) ^ k ∧ (2 : Int) ^ k ≤ 8 := by
            have hk4 : k = 0 ∨ k = 1 ∨ k = 2 ∨ k = 3 := by omega
            rcases hk4 with e | e | e | e <;> rw [e] <;> decide
          refine And.intro ?_ ?_
          · simp [AllP, under, gB, wB, inR_iff, IntKind.bits]
          refine (t89 t hv t.all (all_full hv) (by omega) cap k m hpm.1 hn').use [10, 0, 1, 2, 11, 3, 12, 4] ?_ (by (repeat' (first | exact trivial | exact rfl | exact fun _ _ => rfl | exact Or.inl rfl | refine And.intro ?_ ?_))) rfl
          refine And.intro ?_ ?_
          · simp [AllP, under, gB, wB, inR_iff, IntKind.bits]
          refine And.intro ?_ ?_
          · simp [AllP, under, gB, wB, inR_iff, IntKind.bits]
          refine loopP E_ok [5, 6, 7, 10, 11, 12, 13, 14, 15, 30, 31, 39] (fun g : List (Int × Int) × Option (Int × Int) × Bool × Bool => [(16, .bool g.2.2.1), (17, .bool g.2.2.2)]) (fun g H => H.set 14 (some (.citer g.1 g.2.1)))
            (fun g => (g.2.2.1 || anyIn l h g.1) = anyIn l h (depAll t m k) ∧ (g.2.2.2 || anyOut l h g.1) = anyOut l h (depAll t m k)) (fun g => g.1.length) (depAll t m k, none, false, false) ⟨by simp, by simp⟩ ?_ ?_
          · exact ent_tau [0, 1, 2, 3, 4, 5, 6, 7, 8, 9, 10, 11, 12, 13, 14] ⟨by (repeat' (first | exact trivial | exact rfl | exact fun _ _ => rfl | exact Or.inl rfl | refine And.intro ?_ ?_)), by (repeat' (first | exact trivial | exact rfl | exact congrArg (SV.int .i64) (Int.natCast_succ _).symm | refine And.intro ?_ ?_)), rfl⟩
          · rintro ⟨left, cur, is, nt⟩ ⟨h1, h2⟩
            simp only at h1 h2
            refine And.intro ?_ (And.intro ?_ ?_)
            · simp [AllP, under, gB, wB, inR_iff, IntKind.bits]
            · intro hl
              subst hl
              have h1 : is = anyIn l h (depAll t m k) := by simpa [anyIn] using h1
              have h2 : nt = anyOut l h (depAll t m k) := by simpa [anyOut] using h2
              refine And.intro ?_ (And.intro (fun ht => ?_) (fun ht => ?_))
              · simp [AllP, under, gB, wB, inR_iff, IntKind.bits]
              · cases ht
              · refine And.intro trivial ?_
                cases is with
                | true =>
                  refine And.intro ?_ (And.intro (fun hi => ?_) (fun hi => ?_))
                  · simp [AllP, under, gB, wB, inR_iff, IntKind.bits]
                  · refine And.intro ?_ ?_
                    · simp [AllP, under, gB, wB, inR_iff, IntKind.bits]
                      generalize (2 : Int) ^ k = z at hp2 ⊢
                      omega
                    cases nt with
                    | true =>
                      refine And.intro (fun hz => ?_) (fun hz => ?_)
                      · cases hz
                      · skip
                        refine And.intro ?_ ⟨k + 1, hn', by omega, ?_⟩
                        · simp [AllP, under, gB, wB, inR_iff, IntKind.bits]
                          generalize (2 : Int) ^ k = z at hp2 ⊢
                          omega
                        · refine ent_tau [0, 1, 2, 3, 4, 5, 6, 7, 8, 9, 10, 11, 12] ⟨by (repeat' (first | exact trivial | exact rfl | exact fun _ _ => rfl | exact Or.inl rfl | refine And.intro ?_ ?_)), ?_, rfl⟩
                          (repeat' (first | exact trivial | exact rfl | exact congrArg (SV.int .i64) (Int.natCast_succ _).symm | refine And.intro ?_ ?_))
                          · exact congrArg (SV.int .i64) (bitsF_f (f := fun p => !anyOut l h (depAll t m p)) (by simp [← h2]))
                          · exact congrArg (SV.int .i64) (bitsF_t (f := fun p => anyIn l h (depAll t m p)) (by simp [← h1]))
                    | false =>
                      refine And.intro (fun hz => ?_) (fun hz => ?_)
                      · skip
                        refine And.intro ?_ ⟨k + 1, hn', by omega, ?_⟩
                        · simp [AllP, under, gB, wB, inR_iff, IntKind.bits]
                          generalize (2 : Int) ^ k = z at hp2 ⊢
                          omega
                        · refine ent_tau [0, 1, 2, 3, 4, 5, 6, 7, 8, 9, 10, 11, 12] ⟨by (repeat' (first | exact trivial | exact rfl | exact fun _ _ => rfl | exact Or.inl rfl | refine And.intro ?_ ?_)), ?_, rfl⟩
                          (repeat' (first | exact trivial | exact rfl | exact congrArg (SV.int .i64) (Int.natCast_succ _).symm | refine And.intro ?_ ?_))
                          · exact congrArg (SV.int .i64) (bitsF_t (f := fun p => !anyOut l h (depAll t m p)) (by simp [← h2]))
                          · exact congrArg (SV.int .i64) (bitsF_t (f := fun p => anyIn l h (depAll t m p)) (by simp [← h1]))
                      · cases hz
                  · cases hi
                | false =>
                  refine And.intro ?_ (And.intro (fun hi => ?_) (fun hi => ?_))
                  · simp [AllP, under, gB, wB, inR_iff, IntKind.bits]
                  · cases hi
                  · cases nt with
                    | true =>
                      refine And.intro ?_ (And.intro (fun hz => ?_) (fun hz => ?_))
                      · simp [AllP, under, gB, wB, inR_iff, IntKind.bits]
                      · cases hz
                      · skip
                        refine And.intro ?_ ⟨k + 1, hn', by omega, ?_⟩
                        · simp [AllP, under, gB, wB, inR_iff, IntKind.bits]
                          generalize (2 : Int) ^ k = z at hp2 ⊢
                          omega
                        · refine ent_tau [0, 1, 2, 3, 4, 5, 6, 7, 8, 9, 10, 11, 12] ⟨by (repeat' (first | exact trivial | exact rfl | exact fun _ _ => rfl | exact Or.inl rfl | refine And.intro ?_ ?_)), ?_, rfl⟩
                          (repeat' (first | exact trivial | exact rfl | exact congrArg (SV.int .i64) (Int.natCast_succ _).symm | refine And.intro ?_ ?_))
                          · exact congrArg (SV.int .i64) (bitsF_f (f := fun p => !anyOut l h (depAll t m p)) (by simp [← h2]))
                          · exact congrArg (SV.int .i64) (bitsF_f (f := fun p => anyIn l h (depAll t m p)) (by simp [← h1]))
                    | false =>
                      refine And.intro ?_ (And.intro (fun hz => ?_) (fun hz => ?_))
                      · simp [AllP, under, gB, wB, inR_iff, IntKind.bits]
                      · skip
                        refine And.intro ?_ ⟨k + 1, hn', by omega, ?_⟩
                        · simp [AllP, under, gB, wB, inR_iff, IntKind.bits]
                          generalize (2 : Int) ^ k = z at hp2 ⊢
                          omega
                        · refine ent_tau [0, 1, 2, 3, 4, 5, 6, 7, 8, 9, 10, 11, 12] ⟨by (repeat' (first | exact trivial | exact rfl | exact fun _ _ => rfl | exact Or.inl rfl | refine And.intro ?_ ?_)), ?_, rfl⟩
                          (repeat' (first | exact trivial | exact rfl | exact congrArg (SV.int .i64) (Int.natCast_succ _).symm | refine And.intro ?_ ?_))
                          · exact congrArg (SV.int .i64) (bitsF_t (f := fun p => !anyOut l h (depAll t m p)) (by simp [← h2]))
                          · exact congrArg (SV.int .i64) (bitsF_f (f := fun p => anyIn l h (depAll t m p)) (by simp [← h1]))
                      · cases hz
            · intro r1 p1 p2 r2 hl
              subst hl
              refine And.intro ?_ (And.intro (fun ht => ?_) (fun ht => ?_))
              · simp [AllP, under, gB, wB, inR_iff, IntKind.bits]
              · refine And.intro ?_ ?_
                · simp [AllP, under, gB, wB, inR_iff, IntKind.bits]
                cases is with
                | false =>
                  cases nt with
                  | false =>
                    refine And.intro ?_ (And.intro (fun hg => ?_) (fun hg => ?_))
                    · simp [AllP, under, gB, wB, inR_iff, IntKind.bits]
                    · refine (t90 p1 l h).use [] ?_ (by (repeat' (first | exact trivial | exact rfl | exact fun _ _ => rfl | exact Or.inl rfl | refine And.intro ?_ ?_))) rfl
                      refine And.intro ?_ (And.intro (fun hk => ?_) (fun hk => ?_))
                      · simp [AllP, under, gB, wB, inR_iff, IntKind.bits]
                      · refine (t90 p1 l h).use [] ?_ (by (repeat' (first | exact trivial | exact rfl | exact fun _ _ => rfl | exact Or.inl rfl | refine And.intro ?_ ?_))) rfl
                        refine And.intro ?_ ⟨(r1 ++ r2, some (p1, p2), inB p1 l h, !inB p1 l h), ⟨?_, ?_⟩, by show (r1 ++ r2).length < (r1 ++ (p1, p2) :: r2).length; simp, ?_⟩
                        · simp [AllP, under, gB, wB, inR_iff, IntKind.bits]
                        · rw [← h1]
                          simp only [anyIn, List.any_append, List.any_cons]
                          cases inB p1 l h <;> simp
                        · rw [← h2]
                          simp only [anyOut, List.any_append, List.any_cons]
                          cases inB p1 l h <;> simp
                        · exact ent_tau [0, 1, 2, 3, 4, 5, 6, 7, 8, 9, 10, 11, 12, 13, 14] ⟨by (repeat' (first | exact trivial | exact rfl | exact fun _ _ => rfl | exact Or.inl rfl | refine And.intro ?_ ?_)), by (repeat' (first | exact trivial | exact rfl | exact congrArg (SV.int .i64) (Int.natCast_succ _).symm | refine And.intro ?_ ?_)), rfl⟩
                      · cases hk
                    · cases hg
                  | true =>
                    refine And.intro ?_ (And.intro (fun hg => ?_) (fun hg => ?_))
                    · simp [AllP, under, gB, wB, inR_iff, IntKind.bits]
                    · refine (t90 p1 l h).use [] ?_ (by (repeat' (first | exact trivial | exact rfl | exact fun _ _ => rfl | exact Or.inl rfl | refine And.intro ?_ ?_))) rfl
                      refine And.intro ?_ (And.intro (fun hk => ?_) (fun hk => ?_))
                      · simp [AllP, under, gB, wB, inR_iff, IntKind.bits]
                      · cases hk
                      · skip
                        refine And.intro ?_ ⟨(r1 ++ r2, some (p1, p2), inB p1 l h, true), ⟨?_, ?_⟩, by show (r1 ++ r2).length < (r1 ++ (p1, p2) :: r2).length; simp, ?_⟩
                        · simp [AllP, under, gB, wB, inR_iff, IntKind.bits]
                        · rw [← h1]
                          simp only [anyIn, List.any_append, List.any_cons]
                          cases inB p1 l h <;> simp
                        · rw [← h2]
                          simp only [anyOut, List.any_append, List.any_cons]
                          cases inB p1 l h <;> simp
                        · exact ent_tau [0, 1, 2, 3, 4, 5, 6, 7, 8, 9, 10, 11, 12, 13, 14] ⟨by (repeat' (first | exact trivial | exact rfl | exact fun _ _ => rfl | exact Or.inl rfl | refine And.intro ?_ ?_)), by (repeat' (first | exact trivial | exact rfl | exact congrArg (SV.int .i64) (Int.natCast_succ _).symm | refine And.intro ?_ ?_)), rfl⟩
                    · cases hg
                | true =>
                  cases nt with
                  | false =>
                    refine And.intro ?_ (And.intro (fun hg => ?_) (fun hg => ?_))
                    · simp [AllP, under, gB, wB, inR_iff, IntKind.bits]
                    · cases hg
                    · skip
                      refine And.intro ?_ (And.intro (fun hk => ?_) (fun hk => ?_))
                      · simp [AllP, under, gB, wB, inR_iff, IntKind.bits]
                      · refine (t90 p1 l h).use [] ?_ (by (repeat' (first | exact trivial | exact rfl | exact fun _ _ => rfl | exact Or.inl rfl | refine And.intro ?_ ?_))) rfl
                        refine And.intro ?_ ⟨(r1 ++ r2, some (p1, p2), true, !inB p1 l h), ⟨?_, ?_⟩, by show (r1 ++ r2).length < (r1 ++ (p1, p2) :: r2).length; simp, ?_⟩
                        · simp [AllP, under, gB, wB, inR_iff, IntKind.bits]
                        · rw [← h1]
                          simp only [anyIn, List.any_append, List.any_cons]
                          cases inB p1 l h <;> simp
                        · rw [← h2]
                          simp only [anyOut, List.any_append, List.any_cons]
                          cases inB p1 l h <;> simp
                        · exact ent_tau [0, 1, 2, 3, 4, 5, 6, 7, 8, 9, 10, 11, 12, 13, 14] ⟨by (repeat' (first | exact trivial | exact rfl | exact fun _ _ => rfl | exact Or.inl rfl | refine And.intro ?_ ?_)), by (repeat' (first | exact trivial | exact rfl | exact congrArg (SV.int .i64) (Int.natCast_succ _).symm | refine And.intro ?_ ?_)), rfl⟩
                      · cases hk
                  | true =>
                    refine And.intro ?_ (And.intro (fun hg => ?_) (fun hg => ?_))
                    · simp [AllP, under, gB, wB, inR_iff, IntKind.bits]
                    · cases hg
                    · skip
                      refine And.intro ?_ (And.intro (fun hk => ?_) (fun hk => ?_))
                      · simp [AllP, under, gB, wB, inR_iff, IntKind.bits]
                      · cases hk
                      · skip
                        refine And.intro ?_ ⟨(r1 ++ r2, some (p1, p2), true, true), ⟨?_, ?_⟩, by show (r1 ++ r2).length < (r1 ++ (p1, p2) :: r2).length; simp, ?_⟩
                        · simp [AllP, under, gB, wB, inR_iff, IntKind.bits]
                        · rw [← h1]
                          simp only [anyIn, List.any_append, List.any_cons]
                          cases inB p1 l h <;> simp
                        · rw [← h2]
                          simp only [anyOut, List.any_append, List.any_cons]
                          cases inB p1 l h <;> simp
                        · exact ent_tau [0, 1, 2, 3, 4, 5, 6, 7, 8, 9, 10, 11, 12, 13, 14] ⟨by (repeat' (first | exact trivial | exact rfl | exact fun _ _ => rfl | exact Or.inl rfl | refine And.intro ?_ ?_)), by (repeat' (first | exact trivial | exact rfl | exact congrArg (SV.int .i64) (Int.natCast_succ _).symm | refine And.intro ?_ ?_)), rfl⟩
              · cases ht
        · have hn' : k = t.nS := by
            have : ¬ (k < t.nS) := by simpa using hn
            omega
          subst hn'
          refine And.intro ?_ ?_
          · simp [AllP, under, gB, wB, inR_iff, IntKind.bits]
          refine And.intro trivial ?_
          refine (t43_nil 0).use [9] ?_ (by (repeat' (first | exact trivial | exact rfl | exact fun _ _ => rfl | exact Or.inl rfl | refine And.intro ?_ ?_))) rfl
          refine And.intro ?_ ⟨_, _, ⟨rfl, rfl⟩, ?_⟩
          · simp [AllP, under, gB, wB, inR_iff, IntKind.bits]
          rw [e0]
          exact ent_tau [0, 1, 2, 3, 4] ⟨by (repeat' (first | exact trivial | exact rfl | exact fun _ _ => rfl | exact Or.inl rfl | refine And.intro ?_ ?_)), by (repeat' (first | exact trivial | exact rfl | exact congrArg (SV.int .i64) (Int.natCast_succ _).symm | refine And.intro ?_ ?_)), rfl⟩
  · refine ⟨ownB_ok rfl, ?_⟩
    have e0 : t.placesT m l h = ⟨(0, 0), 1⟩ := by simp [TD.placesT, hv]
    refine And.intro ?_ ?_
    · simp [AllP, under, gB, wB, inR_iff, IntKind.bits]
    refine (t43_stop 0 1).use [9] ?_ (by (repeat' (first | exact trivial | exact rfl | exact fun _ _ => rfl | exact Or.inl rfl | refine And.intro ?_ ?_))) rfl
    refine And.intro ?_ ⟨_, _, ⟨rfl, rfl⟩, ?_⟩
    · simp [AllP, under, gB, wB, inR_iff, IntKind.bits]
    rw [e0]
    exact ent_tau [0, 1, 2, 3, 4] ⟨by (repeat' (first | exact trivial | exact rfl | exact fun _ _ => rfl | exact Or.inl rfl | refine And.intro ?_ ?_)), by (repeat' (first | exact trivial | exact rfl | exact congrArg (SV.int .i64) (Int.natCast_succ _).symm | refine And.intro ?_ ?_)), rfl⟩
  · refine ⟨ownB_ok rfl, ?_⟩
    have hpm : ¬ (t.isMin m ∧ (0 ≤ l ∧ l ≤ 60) ∧ (0 ≤ h ∧ h ≤ 60)) := fun h => by rw [inB_iff.2 h.1, inB_iff.2 h.2.1, inB_iff.2 h.2.2] at hb; cases hb
    have e0 : t.placesT m l h = ⟨(0, 0), 2⟩ := by simp [TD.placesT, hv, hpm]
    refine And.intro ?_ ?_
    · simp [AllP, under, gB, wB, inR_iff, IntKind.bits]
    refine (t43_stop 0 2).use [9] ?_ (by (repeat' (first | exact trivial | exact rfl | exact fun _ _ => rfl | exact Or.inl rfl | refine And.intro ?_ ?_))) rfl
    refine And.intro ?_ ⟨_, _, ⟨rfl, rfl⟩, ?_⟩
    · simp [AllP, under, gB, wB, inR_iff, IntKind.bits]
    rw [e0]
    exact ent_tau [0, 1, 2, 3, 4] ⟨by (repeat' (first | exact trivial | exact rfl | exact fun _ _ => rfl | exact Or.inl rfl | refine And.intro ?_ ?_)), by (repeat' (first | exact trivial | exact rfl | exact congrArg (SV.int .i64) (Int.natCast_succ _).symm | refine And.intro ?_ ?_)), rfl⟩
end Go.Proofs.YtipbempkngfdbaaGreatDoor
/-
  Contract: tide.Next.
-/
namespace Go.Proofs.YtipbempkngfdbaaGreatDoor
open Go Go.Sy
set_option linter.unusedSimpArgs false
set_option maxRecDepth 100000
set_option maxHeartbeats 4000000
attribute [local irreducible] CallP CodeP Ent YieldP

theorem t94 (t : TD) (m : Int) (hv : t.Valid) : CallP Tryz.prog 65 [.ptr 0 0, .ptr 5 0] (t.shore ++ [some (.roc [.int .i64 m])]) (Ret (.bool (inB m (t.mi 0) (t.mi (t.nM - 1)))) (t.shore ++ [some (.roc [.int .i64 m])])) := by
  have hM := hv.1
  refine callR (E := E) E_ok Tryz.func65 rfl ?_
  refine And.intro ?_ ?_
  · simp [AllP, under, gB, wB, inR_iff, IntKind.bits]
  refine (t57 t (by omega) (by omega) m).use [0, 1, 2, 3, 4] ?_ (by (repeat' (first | exact trivial | exact rfl | exact fun _ _ => rfl | exact Or.inl rfl | refine And.intro ?_ ?_))) rfl
  refine And.intro ?_ ?_
  · simp [AllP, under, gB, wB, inR_iff, IntKind.bits]
  exact ent_tau [0, 1, 2, 3, 4, 5] ⟨by (repeat' (first | exact trivial | exact rfl | exact fun _ _ => rfl | exact Or.inl rfl | refine And.intro ?_ ?_)), by (repeat' (first | exact trivial | exact rfl | exact congrArg (SV.int .i64) (Int.natCast_succ _).symm | refine And.intro ?_ ?_)), rfl⟩
/-- The greatest number of a list, or 0. -/
def maxV : List (Int × Int) → Int
  | [] => 0
  | q :: r => max q.2 (maxV r)
theorem maxV_app : ∀ (a b : List (Int × Int)), maxV (a ++ b) = max (maxV a) (maxV b) ∧ 0 ≤ maxV a
  | [], b => by
    have h : ∀ l : List (Int × Int), 0 ≤ maxV l := fun l => by
      induction l with
      | nil => exact Int.le_refl _
      | cons q r ih => simp only [maxV]; omega
    have := h b
    simp only [List.nil_append, maxV]
    omega
  | q :: r, b => by
    obtain ⟨h1, h2⟩ := maxV_app r b
    simp only [List.cons_append, maxV, h1]
    omega
/-- Where to look next, of the first places, and how many truths are left there at most. -/
def nextF (f : Nat → Int) : Nat → Int × Int
  | 0 => (0, 0)
  | k + 1 => if k = 0 ∨ f k < (nextF f k).2 then ((k : Int), f k) else nextF f k
open Classical in
noncomputable def TD.nextT (t : TD) (m : Int) : Told (Int × Int) :=
  if ¬ t.Valid then ⟨(0, 0), 1⟩ else if ¬ t.isMin m then ⟨(0, 0), 2⟩ else if t.all = [] then ⟨(0, 0), 10⟩ else ⟨nextF (fun p => maxV (depAll t m p)) t.nS, 0⟩
theorem t37 (t : TD) (m : Int) : CallP Tryz.prog 16 [t.A, .int .i64 m] t.HG (Ret (.tup [.int .i64 (t.nextT m).v.1, .int .i64 (t.nextT m).v.2, .int .i64 (t.nextT m).e]) t.HG) := by
  refine callD (E := E) E_ok Tryz.func16 rfl Tryz.func64 ⟨_, _, _, _, _, _, _, _, rfl, rfl, rfl⟩ rfl rfl ?_
  refine And.intro ?_ ?_
  · simp [AllP, under, gB, wB, inR_iff, IntKind.bits]
  refine CallP.frame (t44_1 t m 65 (.inr (.inr rfl)) _ (t94 t m)) [0, 1, 2, 6] (by (repeat' (first | exact trivial | exact rfl | exact fun _ _ => rfl | exact Or.inl rfl | refine And.intro ?_ ?_))) (apartB_ok rfl) rfl ?_
  rintro ce h' (⟨hv, hb, rfl, rfl⟩ | ⟨hv, rfl, rfl⟩ | ⟨hv, hb, rfl, rfl⟩)
  · refine ⟨ownB_ok rfl, ?_⟩
    have hpm : t.isMin m := inB_iff.1 hb
    have hM := hv.1
    have hS := hv.2.1
    refine And.intro ?_ ?_
    · simp [AllP, under, gB, wB, inR_iff, IntKind.bits]
    refine CallP.frame (t48 t hv) [8, 0, 1, 2, 9, 3] (by (repeat' (first | exact trivial | exact rfl | exact fun _ _ => rfl | exact Or.inl rfl | refine And.intro ?_ ?_))) (apartB_ok rfl) rfl ?_
    rintro ce h' (⟨h0, rfl, rfl⟩ | ⟨h0, cap, hc1, hc2, rfl, rfl⟩)
    · refine ⟨ownB_ok rfl, ?_⟩
      have e0 : t.nextT m = ⟨(0, 0), 10⟩ := by simp [TD.nextT, hv, hpm, h0]
      refine And.intro ?_ ?_
      · simp [AllP, under, gB, wB, inR_iff, IntKind.bits]
      refine (t43_stop 0 10).use [7] ?_ (by (repeat' (first | exact trivial | exact rfl | exact fun _ _ => rfl | exact Or.inl rfl | refine And.intro ?_ ?_))) rfl
      refine And.intro ?_ ⟨_, _, ⟨rfl, rfl⟩, ?_⟩
      · simp [AllP, under, gB, wB, inR_iff, IntKind.bits]
      rw [e0]
      exact ent_tau [0, 1, 2, 3, 4] ⟨by (repeat' (first | exact trivial | exact rfl | exact fun _ _ => rfl | exact Or.inl rfl | refine And.intro ?_ ?_)), by (repeat' (first | exact trivial | exact rfl | exact congrArg (SV.int .i64) (Int.natCast_succ _).symm | refine And.intro ?_ ?_)), rfl⟩
    · refine ⟨ownB_ok rfl, ?_⟩
      have hne : ¬ t.all = [] := fun h => by rw [h] at h0; simp at h0
      have e0 : t.nextT m = ⟨nextF (fun p => maxV (depAll t m p)) t.nS, 0⟩ := by simp [TD.nextT, hv, hpm, hne]
      have hlen := all_len hv
      refine And.intro ?_ ?_
      · simp [AllP, under, gB, wB, inR_iff, IntKind.bits]
      refine loopP E_ok [2, 3, 6, 7, 8, 26] (fun k : Nat => [(9, .int .i64 (nextF (fun p => maxV (depAll t m p)) k).1), (10, .int .i64 (nextF (fun p => maxV (depAll t m p)) k).2), (27, .int .i64 k)]) (fun _ H => H) (fun k => k ≤ t.nS) (fun k => t.nS - k) 0 (Nat.zero_le _) ?_ ?_
      · exact ent_tau [0, 1, 2, 3, 4, 5, 6, 7, 8, 9, 10] ⟨by (repeat' (first | exact trivial | exact rfl | exact fun _ _ => rfl | exact Or.inl rfl | refine And.intro ?_ ?_)), by (repeat' (first | exact trivial | exact rfl | exact congrArg (SV.int .i64) (Int.natCast_succ _).symm | refine And.intro ?_ ?_)), rfl⟩
      · intro k hk
        refine And.intro ?_ (And.intro (fun hn => ?_) (fun hn => ?_))
        · simp [AllP, under, gB, wB, inR_iff, IntKind.bits]
        · have hn' : k < t.nS := by simpa using hn
          refine And.intro ?_ ?_
          · simp [AllP, under, gB, wB, inR_iff, IntKind.bits]
          refine (t89 t hv t.all (all_full hv) (by omega) cap k m hpm hn').use [8, 0, 1, 2, 9, 3, 10, 4] ?_ (by (repeat' (first | exact trivial | exact rfl | exact fun _ _ => rfl | exact Or.inl rfl | refine And.intro ?_ ?_))) rfl
          refine And.intro ?_ ?_
          · simp [AllP, under, gB, wB, inR_iff, IntKind.bits]
          refine And.intro ?_ ?_
          · simp [AllP, under, gB, wB, inR_iff, IntKind.bits]
          refine loopP E_ok [2, 3, 6, 7, 8, 9, 10, 11, 26, 27, 35] (fun g : List (Int × Int) × Option (Int × Int) × Int => [(12, .int .i64 g.2.2)]) (fun g H => H.set 12 (some (.citer g.1 g.2.1)))
            (fun g => 0 ≤ g.2.2 ∧ max g.2.2 (maxV g.1) = maxV (depAll t m k)) (fun g => g.1.length) (depAll t m k, none, 0) (by have := (maxV_app (depAll t m k) []).2; show 0 ≤ (0 : Int) ∧ max 0 (maxV (depAll t m k)) = _; omega) ?_ ?_
          · exact ent_tau [0, 1, 2, 3, 4, 5, 6, 7, 8, 9, 10, 11, 12] ⟨by (repeat' (first | exact trivial | exact rfl | exact fun _ _ => rfl | exact Or.inl rfl | refine And.intro ?_ ?_)), by (repeat' (first | exact trivial | exact rfl | exact congrArg (SV.int .i64) (Int.natCast_succ _).symm | refine And.intro ?_ ?_)), rfl⟩
          · rintro ⟨left, cur, mo⟩ ⟨h0', h1⟩
            simp only at h0' h1
            refine And.intro ?_ (And.intro ?_ ?_)
            · simp [AllP, under, gB, wB, inR_iff, IntKind.bits]
            · intro hl
              subst hl
              refine And.intro ?_ (And.intro (fun ht => ?_) (fun ht => ?_))
              · simp [AllP, under, gB, wB, inR_iff, IntKind.bits]
              · cases ht
              · refine And.intro trivial ?_
                have h2 : mo = maxV (depAll t m k) := by
                  simp only [maxV] at h1
                  omega
                subst h2
                refine And.intro ?_ (And.intro (fun hz => ?_) (fun hz => ?_))
                · simp [AllP, under, gB, wB, inR_iff, IntKind.bits]
                · have hz' : k = 0 ∨ maxV (depAll t m k) < (nextF (fun p => maxV (depAll t m p)) k).2 := by
                    rcases Nat.eq_zero_or_pos k with h | h
                    · exact .inl h
                    · have hk0 : ¬ ((k : Int) = 0) := by omega
                      simp [hk0, selV] at hz
                      omega
                  have e1 : nextF (fun p => maxV (depAll t m p)) (k + 1) = ((k : Int), maxV (depAll t m k)) := by rw [nextF, if_pos hz']
                  refine And.intro ?_ ⟨k + 1, hn', by omega, ?_⟩
                  · simp [AllP, under, gB, wB, inR_iff, IntKind.bits]
                    omega
                  · refine ent_tau [0, 1, 2, 3, 4, 5, 6, 7, 8, 9, 10] ⟨by (repeat' (first | exact trivial | exact rfl | exact fun _ _ => rfl | exact Or.inl rfl | refine And.intro ?_ ?_)), ?_, rfl⟩
                    rw [e1]
                    (repeat' (first | exact trivial | exact rfl | exact congrArg (SV.int .i64) (Int.natCast_succ _).symm | refine And.intro ?_ ?_))
                · have hz' : ¬ (k = 0 ∨ maxV (depAll t m k) < (nextF (fun p => maxV (depAll t m p)) k).2) := by
                    rintro (h | h)
                    · subst h
                      simp [selV] at hz
                    · have : (decide ((k : Int) = 0) || decide (maxV (depAll t m k) < (nextF (fun p => maxV (depAll t m p)) k).2)) = true := by simp [h]
                      rcases Nat.eq_zero_or_pos k with h3 | h3
                      · subst h3
                        simp [selV] at hz
                      · have hk0 : ¬ ((k : Int) = 0) := by omega
                        simp [hk0, selV] at hz
                        omega
                  have e1 : nextF (fun p => maxV (depAll t m p)) (k + 1) = nextF (fun p => maxV (depAll t m p)) k := by rw [nextF, if_neg hz']
                  refine And.intro ?_ ⟨k + 1, hn', by omega, ?_⟩
                  · simp [AllP, under, gB, wB, inR_iff, IntKind.bits]
                    omega
                  · refine ent_tau [0, 1, 2, 3, 4, 5, 6, 7, 8, 9, 10] ⟨by (repeat' (first | exact trivial | exact rfl | exact fun _ _ => rfl | exact Or.inl rfl | refine And.intro ?_ ?_)), ?_, rfl⟩
                    rw [e1]
                    (repeat' (first | exact trivial | exact rfl | exact congrArg (SV.int .i64) (Int.natCast_succ _).symm | refine And.intro ?_ ?_))
            · intro r1 p1 p2 r2 hl
              subst hl
              refine And.intro ?_ (And.intro (fun ht => ?_) (fun ht => ?_))
              · simp [AllP, under, gB, wB, inR_iff, IntKind.bits]
              · refine And.intro ?_ ?_
                · simp [AllP, under, gB, wB, inR_iff, IntKind.bits]
                refine And.intro ?_ ⟨(r1 ++ r2, some (p1, p2), if p2 > mo then p2 else mo), ⟨?_, ?_⟩, by show (r1 ++ r2).length < (r1 ++ (p1, p2) :: r2).length; simp, ?_⟩
                · simp [AllP, under, gB, wB, inR_iff, IntKind.bits]
                · show 0 ≤ (if p2 > mo then p2 else mo)
                  split <;> omega
                · rw [← h1]
                  show max (if p2 > mo then p2 else mo) (maxV (r1 ++ r2)) = _
                  rw [(maxV_app r1 r2).1, (maxV_app r1 ((p1, p2) :: r2)).1]
                  simp only [maxV]
                  split <;> omega
                · exact ent_tau [0, 1, 2, 3, 4, 5, 6, 7, 8, 9, 10, 11, 12] ⟨by (repeat' (first | exact trivial | exact rfl | exact fun _ _ => rfl | exact Or.inl rfl | refine And.intro ?_ ?_)), by (repeat' (first | exact trivial | exact rfl | exact congrArg (SV.int .i64) (Int.natCast_succ _).symm | refine And.intro ?_ ?_)), rfl⟩
              · cases ht
        · have hn' : k = t.nS := by
            have : ¬ (k < t.nS) := by simpa using hn
            omega
          subst hn'
          refine And.intro ?_ ?_
          · simp [AllP, under, gB, wB, inR_iff, IntKind.bits]
          refine And.intro trivial ?_
          refine (t43_nil 0).use [7] ?_ (by (repeat' (first | exact trivial | exact rfl | exact fun _ _ => rfl | exact Or.inl rfl | refine And.intro ?_ ?_))) rfl
          refine And.intro ?_ ⟨_, _, ⟨rfl, rfl⟩, ?_⟩
          · simp [AllP, under, gB, wB, inR_iff, IntKind.bits]
          rw [e0]
          exact ent_tau [0, 1, 2, 3, 4] ⟨by (repeat' (first | exact trivial | exact rfl | exact fun _ _ => rfl | exact Or.inl rfl | refine And.intro ?_ ?_)), by (repeat' (first | exact trivial | exact rfl | exact congrArg (SV.int .i64) (Int.natCast_succ _).symm | refine And.intro ?_ ?_)), rfl⟩
  · refine ⟨ownB_ok rfl, ?_⟩
    have e0 : t.nextT m = ⟨(0, 0), 1⟩ := by simp [TD.nextT, hv]
    refine And.intro ?_ ?_
    · simp [AllP, under, gB, wB, inR_iff, IntKind.bits]
    refine (t43_stop 0 1).use [7] ?_ (by (repeat' (first | exact trivial | exact rfl | exact fun _ _ => rfl | exact Or.inl rfl | refine And.intro ?_ ?_))) rfl
    refine And.intro ?_ ⟨_, _, ⟨rfl, rfl⟩, ?_⟩
    · simp [AllP, under, gB, wB, inR_iff, IntKind.bits]
    rw [e0]
    exact ent_tau [0, 1, 2, 3, 4] ⟨by (repeat' (first | exact trivial | exact rfl | exact fun _ _ => rfl | exact Or.inl rfl | refine And.intro ?_ ?_)), by (repeat' (first | exact trivial | exact rfl | exact congrArg (SV.int .i64) (Int.natCast_succ _).symm | refine And.intro ?_ ?_)), rfl⟩
  · refine ⟨ownB_ok rfl, ?_⟩
    have hpm : ¬ t.isMin m := fun h => by rw [inB_iff.2 h] at hb; cases hb
    have e0 : t.nextT m = ⟨(0, 0), 2⟩ := by simp [TD.nextT, hv, hpm]
    refine And.intro ?_ ?_
    · simp [AllP, under, gB, wB, inR_iff, IntKind.bits]
    refine (t43_stop 0 2).use [7] ?_ (by (repeat' (first | exact trivial | exact rfl | exact fun _ _ => rfl | exact Or.inl rfl | refine And.intro ?_ ?_))) rfl
    refine And.intro ?_ ⟨_, _, ⟨rfl, rfl⟩, ?_⟩
    · simp [AllP, under, gB, wB, inR_iff, IntKind.bits]
    rw [e0]
    exact ent_tau [0, 1, 2, 3, 4] ⟨by (repeat' (first | exact trivial | exact rfl | exact fun _ _ => rfl | exact Or.inl rfl | refine And.intro ?_ ?_)), by (repeat' (first | exact trivial | exact rfl | exact congrArg (SV.int .i64) (Int.natCast_succ _).symm | refine And.intro ?_ ?_)), rfl⟩
end Go.Proofs.YtipbempkngfdbaaGreatDoor
/-
  What the document's examples come to.
-/
namespace Go.Proofs.YtipbempkngfdbaaGreatDoor
open Go Go.Sy
set_option linter.unusedSimpArgs false
set_option maxRecDepth 100000
set_option maxHeartbeats 4000000
attribute [local irreducible] CallP CodeP Ent YieldP

theorem TX_valid (n c : Nat) (hn : n ≤ 2) : (TX n c).Valid := by
  refine ⟨⟨by show 2 ≤ 3; decide, by show 3 ≤ 4; decide⟩, ⟨by show 1 ≤ 2; decide, by show 2 ≤ 4; decide⟩, by show n ≤ 6; omega, fun i hi => ?_, fun i hi => ?_, fun i hi => ?_⟩
  · rcases lt3 hi with rfl | rfl | rfl <;> simp [TD.markOk, TX, ix]
  · rcases lt2 hi with rfl | rfl <;> simp [TD.sandOk, TX, ix]
  · have hi' : i < 2 := by have : i < n := hi; omega
    rcases lt2 hi' with rfl | rfl <;> simp [TD.lookOk, TX, ix]
def trX (a b c : Int) : Tr := (TX 1 1).tr (upd (upd (upd (fun _ => 0) 0 a) 1 b) 2 c)
def allL : List Tr := [trX 11 41 12, trX 12 40 12, trX 12 41 12]
theorem allX : (TX 1 1).all = allL := by kernel_rfl
theorem allX_ne : ¬ (TX 1 1).all = [] := by rw [allX]; simp [allL]
theorem minX {n c : Nat} {m : Int} (h0 : 0 ≤ m) (h1 : m ≤ 120) : (TX n c).isMin m := ⟨h0, h1⟩
theorem plX {n c : Nat} {p : Int} (h0 : 0 ≤ p) (h1 : p ≤ 1) : (TX n c).isPl p := ⟨h0, by show p ≤ ((2 : Nat) : Int) - 1; omega⟩
theorem hX (m lo hi : Int) (h0 : 0 ≤ m) (h1 : m ≤ 120) (h2 : hulLo (fun x => (TX 1 1).stand x.h m) allL 3 = lo) (h3 : hulHi (fun x => (TX 1 1).stand x.h m) allL 3 = hi) : (TX 1 1).height m = ⟨(lo, hi), 0⟩ := by
  unfold TD.height
  rw [if_neg (fun h => h (TX_valid 1 1 (by decide))), if_neg (fun h => h (minX h0 h1)), if_neg allX_ne, allX, ← h2, ← h3]
  rfl
theorem hX10 : (TX 1 1).height 10 = ⟨(13, 14), 0⟩ := hX 10 13 14 (by decide) (by decide) (by kernel_rfl) (by kernel_rfl)
theorem dX (p : Nat) (m lo hi : Int) (hp : p ≤ 1) (h0 : 0 ≤ m) (h1 : m ≤ 120) (h2 : hulLo (a98 (TX 1 1) m p) allL 3 = lo) (h3 : hulHi (b98 (TX 1 1) m p) allL 3 = hi) : (TX 1 1).depthT p m = ⟨(lo, hi), 0⟩ := by
  unfold TD.depthT
  rw [if_neg (fun h => h (TX_valid 1 1 (by decide))), if_neg (fun h => h ⟨plX (by omega) (by omega), minX h0 h1⟩), if_neg allX_ne, allX, Int.toNat_natCast, ← h2, ← h3]
  rfl
theorem dX0 : (TX 1 1).depthT 0 10 = ⟨(7, 9), 0⟩ := dX 0 10 7 9 (by decide) (by decide) (by decide) (by kernel_rfl) (by kernel_rfl)
theorem sX : (TX 1 1).sandT 0 = ⟨(5, 6), 0⟩ := by
  unfold TD.sandT
  rw [if_neg (fun h => h (TX_valid 1 1 (by decide))), if_neg (fun h => h (plX (by decide) (by decide))), if_neg allX_ne, allX]
  kernel_rfl
theorem fX (s : Bool) (v : Int) (h : firstF (okF (TX 1 1) 1 5 s) 121 0 = ⟨v, 0⟩) : (TX 1 1).firstT 1 5 0 s = ⟨v, 0⟩ := by
  unfold TD.firstT
  rw [if_neg (fun h => h (TX_valid 1 1 (by decide))), if_neg (fun h => h ⟨plX (by decide) (by decide), by decide, minX (by decide) (by decide)⟩), if_neg allX_ne]
  exact h
theorem okX (p : Nat) (l : Int) (s : Bool) : okF (TX 1 1) p l s = fun m => if s = true then decide (l ≤ hulLo (a98 (TX 1 1) m p) allL 3) else decide (l ≤ hulHi (b98 (TX 1 1) m p) allL 3) := by
  funext m
  unfold okF
  rw [allX]
  rfl
theorem fXf : (TX 1 1).firstT 1 5 0 false = ⟨28, 0⟩ := fX false 28 (by rw [okX]; kernel_rfl)
theorem gX (p : Nat) (l h : Int) : goodM (TX 1 1) p l h = fun m => decide (l ≤ hulLo (a98 (TX 1 1) m p) allL 3) && decide (hulHi (b98 (TX 1 1) m p) allL 3 ≤ h) := by
  funext m
  unfold goodM
  rw [allX]
  rfl
theorem vX : (TX 1 1).servedT 1 5 8 = ⟨[(29, 33), (87, 91)], 0⟩ := by
  unfold TD.servedT
  rw [if_neg (fun h => h (TX_valid 1 1 (by decide))), if_neg (fun h => h ⟨plX (by decide) (by decide), by decide, by decide⟩), if_neg allX_ne]
  have h : servF (goodM (TX 1 1) 1 5 8) 121 0 [] = [(29, 33), (87, 91)] := by
    rw [gX]
    kernel_rfl
  exact congrArg (Told.mk · 0) h
theorem depX (m : Int) (p : Nat) : depAll (TX 1 1) m p = depOut (TX 1 1) m p allL 3 := by
  unfold depAll
  rw [allX]
  rfl
theorem pX : (TX 1 1).placesT 30 5 8 = ⟨(2, 2), 0⟩ := by
  unfold TD.placesT
  rw [if_neg (fun h => h (TX_valid 1 1 (by decide))), if_neg (fun h => h ⟨minX (by decide) (by decide), by decide, by decide⟩), if_neg allX_ne]
  simp only [depX]
  kernel_rfl
theorem nX : (TX 1 1).nextT 0 = ⟨(0, 3), 0⟩ := by
  unfold TD.nextT
  rw [if_neg (fun h => h (TX_valid 1 1 (by decide))), if_neg (fun h => h (minX (by decide) (by decide))), if_neg allX_ne]
  simp only [depX]
  kernel_rfl
theorem cX : (TX 1 1).countT = ⟨6, 0⟩ := by
  unfold TD.countT
  rw [if_neg (fun h => h (TX_valid 1 1 (by decide))), allX]
  kernel_rfl
theorem can_eq (t : TD) : t.can = fun so => !(t.sub (t.restOf so)).all.isEmpty := by
  funext so
  unfold TD.can
  cases h : (t.sub (t.restOf so)).all <;> simp
theorem kY (c : Nat) : (TX 2 c).clashT = ⟨3, 0⟩ := by
  unfold TD.clashT
  rw [if_neg (fun h => h (TX_valid 2 c (by decide))), can_eq, if_neg]
  · kernel_rfl
  · intro h
    have h2 : ((TX 2 c).sub ((TX 2 c).restOf (2 ^ (TX 2 c).nL - 1))).all.isEmpty = true := by kernel_rfl
    have h : (!((TX 2 c).sub ((TX 2 c).restOf (2 ^ (TX 2 c).nL - 1))).all.isEmpty) = true := h
    rw [h2] at h
    cases h
end Go.Proofs.YtipbempkngfdbaaGreatDoor
/-
  Contract: are two lists of spans the same?
-/
namespace Go.Proofs.YtipbempkngfdbaaGreatDoor
open Go Go.Sy
set_option linter.unusedSimpArgs false
set_option maxRecDepth 100000
set_option maxHeartbeats 4000000
attribute [local irreducible] CallP CodeP Ent YieldP

theorem t19 (a b : List (Int × Int)) (c d : Nat) (ha : a.length ≤ 1000) : CallP Tryz.prog 25 [.slice 0 2 0 a.length c, .slice 1 2 0 b.length d] [some (.roa 2 a.length (prow a)), some (.roa 2 b.length (prow b))]
    (Ret (.bool (decide (a = b))) [some (.roa 2 a.length (prow a)), some (.roa 2 b.length (prow b))]) := by
  refine callR (E := E) E_ok Tryz.func25 rfl ?_
  refine And.intro ?_ (And.intro (fun hl => ?_) (fun hl => ?_))
  · simp [AllP, under, gB, wB, inR_iff, IntKind.bits]
  · have hl' : ¬ (a.length = b.length) := fun e => by rw [e] at hl; simp at hl
    have e0 : decide (a = b) = false := decide_eq_false fun e => hl' (by rw [e])
    refine And.intro ?_ ?_
    · simp [AllP, under, gB, wB, inR_iff, IntKind.bits]
    rw [e0]
    exact ent_tau [0, 1] ⟨by (repeat' (first | exact trivial | exact rfl | exact fun _ _ => rfl | exact Or.inl rfl | refine And.intro ?_ ?_)), by (repeat' (first | exact trivial | exact rfl | exact congrArg (SV.int .i64) (Int.natCast_succ _).symm | refine And.intro ?_ ?_)), rfl⟩
  · have hl0 : (a.length : Int) = b.length := by simpa using hl
    have hl' : a.length = b.length := by omega
    refine And.intro ?_ ?_
    · simp [AllP, under, gB, wB, inR_iff, IntKind.bits]
    refine loopP E_ok [0, 1] (fun k : Nat => [(5, .int .i64 k)]) (fun _ H => H) (fun k => k ≤ a.length ∧ ∀ j, j < k → a.getD j (0, 0) = b.getD j (0, 0)) (fun k => a.length - k) 0 ⟨Nat.zero_le _, fun j hj => by omega⟩ ?_ ?_
    · exact ent_tau [0, 1] ⟨by (repeat' (first | exact trivial | exact rfl | exact fun _ _ => rfl | exact Or.inl rfl | refine And.intro ?_ ?_)), by (repeat' (first | exact trivial | exact rfl | exact congrArg (SV.int .i64) (Int.natCast_succ _).symm | refine And.intro ?_ ?_)), rfl⟩
    · rintro k ⟨hk, hall⟩
      refine And.intro ?_ (And.intro (fun hn => ?_) (fun hn => ?_))
      · simp [AllP, under, gB, wB, inR_iff, IntKind.bits]
      · have hn' : k < a.length := by simpa using hn
        have ek : (0 + (k : Int).toNat) = k := by omega
        refine And.intro ?_ ?_
        · simp [AllP, under, gB, wB, inR_iff, IntKind.bits]
        refine drawP E_ok [] pl25_6 (by kernel_rfl) ?_
        refine And.intro ?_ ?_
        · simp [AllP, under, gB, wB, inR_iff, IntKind.bits]
          omega
        refine And.intro ?_ ?_
        · exact rfl
        have ev : ∀ (o : List (Int × Int)), [(o.getD (0 + (k : Int).toNat) (0, 0)).1, (o.getD (0 + (k : Int).toNat) (0, 0)).2] = [(o.getD k (0, 0)).1, (o.getD k (0, 0)).2] := fun o => by rw [ek]
        refine And.intro ?_ (And.intro (fun hd => ?_) (fun hd => ?_))
        · simp [AllP, under, gB, wB, inR_iff, IntKind.bits]
        · have hd' : ¬ (a.getD k (0, 0) = b.getD k (0, 0)) := fun e => by
            rw [ev, ev, e] at hd
            simp at hd
          have e0 : decide (a = b) = false := decide_eq_false fun e => hd' (by rw [e])
          refine And.intro ?_ ?_
          · simp [AllP, under, gB, wB, inR_iff, IntKind.bits]
          refine And.intro trivial ?_
          rw [e0]
          exact ent_tau [0, 1] ⟨by (repeat' (first | exact trivial | exact rfl | exact fun _ _ => rfl | exact Or.inl rfl | refine And.intro ?_ ?_)), by (repeat' (first | exact trivial | exact rfl | exact congrArg (SV.int .i64) (Int.natCast_succ _).symm | refine And.intro ?_ ?_)), rfl⟩
        · have hd' : a.getD k (0, 0) = b.getD k (0, 0) := by
            rw [ev, ev] at hd
            have h2 : [(a.getD k (0, 0)).1, (a.getD k (0, 0)).2] = [(b.getD k (0, 0)).1, (b.getD k (0, 0)).2] := by
              simpa only [Bool.not_eq_false', decide_eq_true_eq] using hd
            simp only [List.cons.injEq, and_true] at h2
            exact Prod.ext h2.1 h2.2
          refine And.intro ?_ ⟨k + 1, ⟨hn', fun j hj => ?_⟩, by omega, ?_⟩
          · simp [AllP, under, gB, wB, inR_iff, IntKind.bits]
            omega
          · rcases Nat.lt_or_ge j k with h | h
            · exact hall j h
            · have : j = k := by omega
              subst this
              exact hd'
          · exact ent_tau [0, 1] ⟨by (repeat' (first | exact trivial | exact rfl | exact fun _ _ => rfl | exact Or.inl rfl | refine And.intro ?_ ?_)), by (repeat' (first | exact trivial | exact rfl | exact congrArg (SV.int .i64) (Int.natCast_succ _).symm | refine And.intro ?_ ?_)), rfl⟩
      · have hn' : k = a.length := by
          have : ¬ (k < a.length) := by simpa using hn
          omega
        subst hn'
        have e0 : decide (a = b) = true := decide_eq_true (List.ext_getElem hl' fun i h1 h2 => by
          have := hall i h1
          rwa [List.getD_eq_getElem?_getD, List.getD_eq_getElem?_getD, List.getElem?_eq_getElem h1, List.getElem?_eq_getElem h2] at this)
        refine And.intro ?_ ?_
        · simp [AllP, under, gB, wB, inR_iff, IntKind.bits]
        refine And.intro trivial ?_
        rw [e0]
        exact ent_tau [0, 1] ⟨by (repeat' (first | exact trivial | exact rfl | exact fun _ _ => rfl | exact Or.inl rfl | refine And.intro ?_ ?_)), by (repeat' (first | exact trivial | exact rfl | exact congrArg (SV.int .i64) (Int.natCast_succ _).symm | refine And.intro ?_ ?_)), rfl⟩
end Go.Proofs.YtipbempkngfdbaaGreatDoor
/-
  Contract: the law package's alive.
-/
namespace Go.Proofs.YtipbempkngfdbaaGreatDoor
open Go Go.Sy
set_option linter.unusedSimpArgs false
set_option maxRecDepth 100000
set_option maxHeartbeats 4000000
attribute [local irreducible] CallP CodeP Ent YieldP

/-- The tables of the program. -/
def HB : SHeap := [some (.glob 0 [.int .i64 0, .int .i64 1, .int .i64 3, .int .i64 6, .int .i64 9, .int .i64 11, .int .i64 12]), some db]
theorem hX10c : CallP Tryz.prog 6 [(TX 1 1).A, .int .i64 10] (TX 1 1).HG (Ret (.tup [.agg [.int .i64 13, .int .i64 14], .int .i64 0]) (TX 1 1).HG) := by
  have h := t22 (TX 1 1) 10
  rwa [hX10] at h
theorem dX0c : CallP Tryz.prog 8 [(TX 1 1).A, .int .i64 0, .int .i64 10] (TX 1 1).HG (Ret (.tup [.agg [.int .i64 7, .int .i64 9], .int .i64 0]) (TX 1 1).HG) := by
  have h := t25 (TX 1 1) 0 10
  rwa [dX0] at h
theorem sXc : CallP Tryz.prog 10 [(TX 1 1).A, .int .i64 0] (TX 1 1).HG (Ret (.tup [.agg [.int .i64 5, .int .i64 6], .int .i64 0]) (TX 1 1).HG) := by
  have h := t31 (TX 1 1) 0
  rwa [sX] at h
theorem fXfc : CallP Tryz.prog 22 [(TX 1 1).A, .int .i64 1, .int .i64 5, .int .i64 0, .bool false] (TX 1 1).HG (Ret (.tup [.int .i64 28, .int .i64 0]) (TX 1 1).HG) := by
  have h := t17 (TX 1 1) 1 5 0 false
  rwa [fXf] at h
theorem pXc : CallP Tryz.prog 12 [(TX 1 1).A, .int .i64 30, .int .i64 5, .int .i64 8] (TX 1 1).HG (Ret (.tup [.int .i64 2, .int .i64 2, .int .i64 0]) (TX 1 1).HG) := by
  have h := t32 (TX 1 1) 30 5 8
  rwa [pX] at h
theorem cXc : CallP Tryz.prog 14 [(TX 1 1).A] (TX 1 1).HG (Ret (.tup [.int .i64 6, .int .i64 0]) (TX 1 1).HG) := by
  have h := t26 (TX 1 1)
  rwa [cX] at h
theorem nXc : CallP Tryz.prog 16 [(TX 1 1).A, .int .i64 0] (TX 1 1).HG (Ret (.tup [.int .i64 0, .int .i64 3, .int .i64 0]) (TX 1 1).HG) := by
  have h := t37 (TX 1 1) 0
  rwa [nX] at h
theorem kYc (c : Nat) : CallP Tryz.prog 23 [(TX 2 c).A] (TX 2 c).HG (Ret (.tup [.int .i64 3, .int .i64 0]) (TX 2 c).HG) := by
  have h := t20 (TX 2 c)
  rwa [kY] at h
theorem vXc : CallP Tryz.prog 21 [(TX 1 1).A, .int .i64 1, .int .i64 5, .int .i64 8] (TX 1 1).HG (fun ce h' => ∃ cap, 2 ≤ cap ∧ cap ≤ 9223372036854775807 ∧ ce = .ret (.tup [.slice 5 2 0 2 cap, .int .i64 0]) ∧ h' = (TX 1 1).HG ++ [some (.arr 2 2 cap (prow [(29, 33), (87, 91)]))]) := by
  have h := t15 (TX 1 1) 1 5 8
  rw [vX] at h
  refine h.mono ?_
  rintro ce h' (⟨h0, _⟩ | ⟨_, cap, h1, h2, h3, h4⟩)
  · cases h0
  · exact ⟨cap, h1, h2, h3, h4⟩
theorem t14 : CallP Tryz.prog 5 [] HB (Ret (.bool true) HB) := by
  refine callR (E := E) E_ok Tryz.func5 rfl ?_
  refine And.intro ?_ ?_
  · simp [AllP, under, gB, wB, inR_iff, IntKind.bits]
  refine (t23_f).use [] ?_ (by (repeat' (first | exact trivial | exact rfl | exact fun _ _ => rfl | exact Or.inl rfl | refine And.intro ?_ ?_))) rfl
  refine And.intro ?_ ?_
  · simp [AllP, under, gB, wB, inR_iff, IntKind.bits]
  refine (hX10c).use [2, 3, 4, 0, 1] ?_ (by (repeat' (first | exact trivial | exact rfl | exact fun _ _ => rfl | exact Or.inl rfl | refine And.intro ?_ ?_))) rfl
  refine And.intro ?_ ?_
  · simp [AllP, under, gB, wB, inR_iff, IntKind.bits]
  refine (t23_f).use [] ?_ (by (repeat' (first | exact trivial | exact rfl | exact fun _ _ => rfl | exact Or.inl rfl | refine And.intro ?_ ?_))) rfl
  refine And.intro ?_ ?_
  · simp [AllP, under, gB, wB, inR_iff, IntKind.bits]
  refine (dX0c).use [6, 7, 8, 0, 1] ?_ (by (repeat' (first | exact trivial | exact rfl | exact fun _ _ => rfl | exact Or.inl rfl | refine And.intro ?_ ?_))) rfl
  refine And.intro ?_ ?_
  · simp [AllP, under, gB, wB, inR_iff, IntKind.bits]
  refine (t23_f).use [] ?_ (by (repeat' (first | exact trivial | exact rfl | exact fun _ _ => rfl | exact Or.inl rfl | refine And.intro ?_ ?_))) rfl
  refine And.intro ?_ ?_
  · simp [AllP, under, gB, wB, inR_iff, IntKind.bits]
  refine (sXc).use [10, 11, 12, 0, 1] ?_ (by (repeat' (first | exact trivial | exact rfl | exact fun _ _ => rfl | exact Or.inl rfl | refine And.intro ?_ ?_))) rfl
  refine And.intro ?_ ?_
  · simp [AllP, under, gB, wB, inR_iff, IntKind.bits]
  refine (t23_f).use [] ?_ (by (repeat' (first | exact trivial | exact rfl | exact fun _ _ => rfl | exact Or.inl rfl | refine And.intro ?_ ?_))) rfl
  refine And.intro ?_ ?_
  · simp [AllP, under, gB, wB, inR_iff, IntKind.bits]
  refine CallP.frameH vXc [14, 15, 16, 0, 1] (by (repeat' (first | exact trivial | exact rfl | exact fun _ _ => rfl | exact Or.inl rfl | refine And.intro ?_ ?_))) rfl ?_
  rintro ce h' ⟨cap, hc1, hc2, rfl, rfl⟩
  refine ⟨rfl, ?_⟩
  refine And.intro ?_ ?_
  · simp [AllP, under, gB, wB, inR_iff, IntKind.bits]
  refine (t23_f).use [] ?_ (by (repeat' (first | exact trivial | exact rfl | exact fun _ _ => rfl | exact Or.inl rfl | refine And.intro ?_ ?_))) rfl
  refine And.intro ?_ ?_
  · simp [AllP, under, gB, wB, inR_iff, IntKind.bits]
  refine (fXfc).use [18, 19, 20, 0, 1] ?_ (by (repeat' (first | exact trivial | exact rfl | exact fun _ _ => rfl | exact Or.inl rfl | refine And.intro ?_ ?_))) rfl
  refine And.intro ?_ ?_
  · simp [AllP, under, gB, wB, inR_iff, IntKind.bits]
  refine (t23_f).use [] ?_ (by (repeat' (first | exact trivial | exact rfl | exact fun _ _ => rfl | exact Or.inl rfl | refine And.intro ?_ ?_))) rfl
  refine And.intro ?_ ?_
  · simp [AllP, under, gB, wB, inR_iff, IntKind.bits]
  refine (pXc).use [21, 22, 23, 0, 1] ?_ (by (repeat' (first | exact trivial | exact rfl | exact fun _ _ => rfl | exact Or.inl rfl | refine And.intro ?_ ?_))) rfl
  refine And.intro ?_ ?_
  · simp [AllP, under, gB, wB, inR_iff, IntKind.bits]
  refine (t23_f).use [] ?_ (by (repeat' (first | exact trivial | exact rfl | exact fun _ _ => rfl | exact Or.inl rfl | refine And.intro ?_ ?_))) rfl
  refine And.intro ?_ ?_
  · simp [AllP, under, gB, wB, inR_iff, IntKind.bits]
  refine (cXc).use [24, 25, 26, 0, 1] ?_ (by (repeat' (first | exact trivial | exact rfl | exact fun _ _ => rfl | exact Or.inl rfl | refine And.intro ?_ ?_))) rfl
  refine And.intro ?_ ?_
  · simp [AllP, under, gB, wB, inR_iff, IntKind.bits]
  refine (t23_f).use [] ?_ (by (repeat' (first | exact trivial | exact rfl | exact fun _ _ => rfl | exact Or.inl rfl | refine And.intro ?_ ?_))) rfl
  refine And.intro ?_ ?_
  · simp [AllP, under, gB, wB, inR_iff, IntKind.bits]
  refine (nXc).use [27, 28, 29, 0, 1] ?_ (by (repeat' (first | exact trivial | exact rfl | exact fun _ _ => rfl | exact Or.inl rfl | refine And.intro ?_ ?_))) rfl
  refine And.intro ?_ ?_
  · simp [AllP, under, gB, wB, inR_iff, IntKind.bits]
  refine CallP.frameH t23_t [] (by (repeat' (first | exact trivial | exact rfl | exact fun _ _ => rfl | exact Or.inl rfl | refine And.intro ?_ ?_))) rfl ?_
  rintro ce h' ⟨c, hc3, hc4, rfl, rfl⟩
  refine ⟨rfl, ?_⟩
  refine And.intro ?_ ?_
  · simp [AllP, under, gB, wB, inR_iff, IntKind.bits]
  refine (kYc c).use [30, 31, 32, 0, 1] ?_ (by (repeat' (first | exact trivial | exact rfl | exact fun _ _ => rfl | exact Or.inl rfl | refine And.intro ?_ ?_))) rfl
  refine And.intro ?_ ?_
  · simp [AllP, under, gB, wB, inR_iff, IntKind.bits]
  refine cutP [] [(1, .ptr 2 0), (2, .int .i64 0), (3, .ptr 3 0), (4, .int .i64 0), (5, .ptr 4 0), (6, .int .i64 0), (7, .slice 5 2 0 2 cap), (8, .int .i64 0), (9, .int .i64 28), (10, .int .i64 0), (11, .int .i64 2), (12, .int .i64 2), (13, .int .i64 0), (14, .int .i64 6), (15, .int .i64 0), (16, .int .i64 0), (17, .int .i64 3), (18, .int .i64 0), (19, .int .i64 3), (20, .int .i64 0)] (fun _ => [some (.glob 0 [.int .i64 0, .int .i64 1, .int .i64 3, .int .i64 6, .int .i64 9, .int .i64 11, .int .i64 12]), some db, some (.cells [.int .i64 13, .int .i64 14]), some (.cells [.int .i64 7, .int .i64 9]), some (.cells [.int .i64 5, .int .i64 6]), some (.arr 2 2 cap (prow [(29, 33), (87, 91)]))]) ?_ ?_
  · refine ent_tau [0, 1, 5, 9, 13, 17] ⟨?_, by (repeat' (first | exact trivial | exact rfl | exact congrArg (SV.int .i64) (Int.natCast_succ _).symm | refine And.intro ?_ ?_)), rfl⟩
    (repeat' (first | exact trivial | exact rfl | exact fun _ _ => rfl | exact Or.inl rfl | refine And.intro ?_ ?_))
  refine drawP E_ok [2, 3, 4] pl5_10 (by kernel_rfl) ?_
  refine And.intro (And.intro ?_ ?_) trivial
  · (repeat' (first | exact trivial | exact fun _ => rfl | exact rfl | refine And.intro ?_ ?_))
  refine (t24 13 14).use [] ?_ (by (repeat' (first | exact trivial | exact rfl | exact fun _ _ => rfl | exact Or.inl rfl | refine And.intro ?_ ?_))) rfl
  refine And.intro (And.intro ?_ (And.intro (fun h => ?_) (fun h => absurd h (by decide)))) trivial
  · (repeat' (first | exact trivial | exact fun _ => rfl | exact rfl | refine And.intro ?_ ?_))
  refine (t24 7 9).use [] ?_ (by (repeat' (first | exact trivial | exact rfl | exact fun _ _ => rfl | exact Or.inl rfl | refine And.intro ?_ ?_))) rfl
  refine And.intro (And.intro ?_ (And.intro (fun h => ?_) (fun h => absurd h (by decide)))) trivial
  · (repeat' (first | exact trivial | exact fun _ => rfl | exact rfl | refine And.intro ?_ ?_))
  refine (t24 5 6).use [] ?_ (by (repeat' (first | exact trivial | exact rfl | exact fun _ _ => rfl | exact Or.inl rfl | refine And.intro ?_ ?_))) rfl
  refine And.intro (And.intro ?_ (And.intro (fun h => ?_) (fun h => absurd h (by decide)))) trivial
  · (repeat' (first | exact trivial | exact fun _ => rfl | exact rfl | refine And.intro ?_ ?_))
  refine (t24 29 33).use [] ?_ (by (repeat' (first | exact trivial | exact rfl | exact fun _ _ => rfl | exact Or.inl rfl | refine And.intro ?_ ?_))) rfl
  refine And.intro (And.intro ?_ (And.intro (fun h => ?_) (fun h => absurd h (by decide)))) trivial
  · (repeat' (first | exact trivial | exact fun _ => rfl | exact rfl | refine And.intro ?_ ?_))
  refine (t24 87 91).use [] ?_ (by (repeat' (first | exact trivial | exact rfl | exact fun _ _ => rfl | exact Or.inl rfl | refine And.intro ?_ ?_))) rfl
  refine And.intro (And.intro ?_ (And.intro (fun h => ?_) (fun h => absurd h (by decide)))) trivial
  · (repeat' (first | exact trivial | exact fun _ => rfl | exact rfl | refine And.intro ?_ ?_))
  skip
  refine And.intro (And.intro ?_ (And.intro (fun h => ?_) (fun h => absurd h (by decide)))) trivial
  · (repeat' (first | exact trivial | exact fun _ => rfl | exact rfl | refine And.intro ?_ ?_))
  refine (t19 [(29, 33), (87, 91)] [(29, 33), (87, 91)] cap 2 (by decide)).use [5, 6] ?_ ?_ rfl
  rotate_left
  · (repeat' (first | exact trivial | exact rfl | exact fun _ _ => rfl | exact Or.inl rfl | refine And.intro ?_ ?_))
    intro k hk
    rcases lt2 hk with rfl | rfl <;> rfl
  refine And.intro ?_ ?_
  · (repeat' (first | exact trivial | exact fun _ => rfl | exact rfl | refine And.intro ?_ ?_))
  refine And.intro rfl ?_
  refine And.intro ?_ ?_
  · (repeat' (first | exact trivial | exact fun _ => rfl | exact rfl | refine And.intro ?_ ?_))
  exact ent_tau [0, 1] ⟨by (repeat' (first | exact trivial | exact rfl | exact fun _ _ => rfl | exact Or.inl rfl | refine And.intro ?_ ?_)), by (repeat' (first | exact trivial | exact rfl | exact congrArg (SV.int .i64) (Int.natCast_succ _).symm | refine And.intro ?_ ?_)), rfl⟩
end Go.Proofs.YtipbempkngfdbaaGreatDoor
