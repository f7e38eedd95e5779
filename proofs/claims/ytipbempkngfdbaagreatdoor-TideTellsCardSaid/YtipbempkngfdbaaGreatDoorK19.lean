/-
  Parts: B22, B23, B4c.
-/
import Derived.Test.YtipbempkngfdbaaGreatDoorK18
import Derived.Test.YtipbempkngfdbaaGreatDoorK15
set_option linter.unusedVariables false
/-
  Contract: tide.Clash.
-/
namespace Go.Proofs.YtipbempkngfdbaaGreatDoor
open Go Go.Sy
set_option linter.unusedSimpArgs false
set_option maxRecDepth 100000
set_option maxHeartbeats 4000000
attribute [local irreducible] CallP CodeP Ent YieldP

theorem t60 (t : TD) : CallP Tryz.prog 76 [.ptr 0 0] (t.shore ++ []) (Ret (.bool true) (t.shore ++ [])) := by
  refine callR (E := E) E_ok Tryz.func76 rfl ?_
  refine And.intro ?_ ?_
  · simp [AllP, under, gB, wB, inR_iff, IntKind.bits]
  exact ent_tau [0, 1, 2, 3, 4] ⟨by (repeat' (first | exact trivial | exact rfl | exact fun _ _ => rfl | exact Or.inl rfl | refine And.intro ?_ ?_)), by (repeat' (first | exact trivial | exact rfl | exact congrArg (SV.int .i64) (Int.natCast_succ _).symm | refine And.intro ?_ ?_)), rfl⟩
/-- The first set of so many looks, from s on, of c of them, that cannot all be right. -/
def inS (can : Int → Bool) (many : Int) : Nat → Int → Option Int
  | 0, _ => none
  | c + 1, s => if oc64 s = many ∧ can s = false then some s else inS can many c (s + 1)
def outS (can : Int → Bool) (N : Nat) : Nat → Int → Option Int
  | 0, _ => none
  | c + 1, m => match inS can m N 0 with
    | some s => some s
    | none => outS can N c (m + 1)
def orNone (o : Option Int) : Told Int := match o with
  | some s => ⟨s, 0⟩
  | none => ⟨0, 4⟩
open Classical in
noncomputable def TD.clashT (t : TD) : Told Int := if ¬ t.Valid then ⟨0, 1⟩ else if t.can (2 ^ t.nL - 1) = true then ⟨0, 4⟩ else orNone (outS t.can (2 ^ t.nL) (t.nL + 1) 0)
theorem t20 (t : TD) : CallP Tryz.prog 23 [t.A] t.HG (Ret (.tup [.int .i64 t.clashT.v, .int .i64 t.clashT.e]) t.HG) := by
  refine callD (E := E) E_ok Tryz.func23 rfl Tryz.func75 ⟨_, _, _, _, _, _, _, _, rfl, rfl, rfl⟩ rfl rfl ?_
  refine And.intro ?_ ?_
  · simp [AllP, under, gB, wB, inR_iff, IntKind.bits]
  refine CallP.frame (t44_0 t 76 (.inl rfl) _ (fun _ => t60 t)) [0, 1, 2] (by (repeat' (first | exact trivial | exact rfl | exact fun _ _ => rfl | exact Or.inl rfl | refine And.intro ?_ ?_))) (apartB_ok rfl) rfl ?_
  rintro ce h' (⟨hv, hb, rfl, rfl⟩ | ⟨hv, rfl, rfl⟩ | ⟨hv, hb, rfl, rfl⟩)
  · refine ⟨ownB_ok rfl, ?_⟩
    have hL := hv.2.2.1
    have h64 : (2 : Nat) ^ t.nL ≤ 64 := by
      have : (2 : Nat) ^ t.nL ≤ 2 ^ 6 := Nat.pow_le_pow_right (by omega) hL
      omega
    have hN : ((2 : Int) ^ t.nL) = ((2 ^ t.nL : Nat) : Int) := by norm_cast
    have hN0 : 0 < (2 : Nat) ^ t.nL := Nat.pow_pos (by omega)
    generalize hNN : (2 : Nat) ^ t.nL = N at h64 hN hN0
    refine And.intro ?_ ?_
    · simp [AllP, under, gB, wB, inR_iff, IntKind.bits]
    refine (t63 t hv).use [7, 0, 1, 2, 8, 3] ?_ (by (repeat' (first | exact trivial | exact rfl | exact fun _ _ => rfl | exact Or.inl rfl | refine And.intro ?_ ?_))) rfl
    refine And.intro ?_ ?_
    · simp [AllP, under, gB, wB, inR_iff, IntKind.bits]
    refine (t61 t hv (2 ^ t.nL - 1)).use [7, 0, 1, 2, 8, 3, 9] ?_ (by (repeat' (first | exact trivial | exact rfl | exact fun _ _ => rfl | exact Or.inl rfl | refine And.intro ?_ ?_))) rfl
    refine And.intro ?_ ?_
    · simp [AllP, under, gB, wB, inR_iff, IntKind.bits]
    refine must (fun hb => ?_) (fun hb => ?_)
    · have hcan : t.can (2 ^ t.nL - 1) = false := by simpa using hb
      have e0 : t.clashT = orNone (outS t.can N (t.nL + 1) 0) := by simp [TD.clashT, hv, hcan, hNN]
      refine And.intro ?_ ?_
      · simp [AllP, under, gB, wB, inR_iff, IntKind.bits]
        omega
      refine loopP E_ok [3, 4, 5, 24] (fun k : Nat => [(25, .int .i64 k)]) (fun _ H => H) (fun k => k ≤ t.nL + 1 ∧ outS t.can N (t.nL + 1) 0 = outS t.can N (t.nL + 1 - k) k) (fun k => t.nL + 1 - k) 0 ⟨by omega, rfl⟩ ?_ ?_
      · exact ent_tau [0, 1, 2, 3, 4, 5, 6, 7, 8, 9] ⟨by (repeat' (first | exact trivial | exact rfl | exact fun _ _ => rfl | exact Or.inl rfl | refine And.intro ?_ ?_)), by (repeat' (first | exact trivial | exact rfl | exact congrArg (SV.int .i64) (Int.natCast_succ _).symm | refine And.intro ?_ ?_)), rfl⟩
      · rintro k ⟨hk, hF⟩
        refine And.intro ?_ (And.intro (fun hn => ?_) (fun hn => ?_))
        · simp [AllP, under, gB, wB, inR_iff, IntKind.bits]
        · have hn' : k < t.nL + 1 := by
            have : (k : Int) < (t.nL : Int) + 1 := by simpa using hn
            omega
          have ec : t.nL + 1 - k = (t.nL + 1 - (k + 1)) + 1 := by omega
          refine And.intro ?_ ?_
          · simp [AllP, under, gB, wB, inR_iff, IntKind.bits]
          refine (t63 t hv).use [7, 0, 1, 2, 8, 3] ?_ (by (repeat' (first | exact trivial | exact rfl | exact fun _ _ => rfl | exact Or.inl rfl | refine And.intro ?_ ?_))) rfl
          refine And.intro ?_ ?_
          · simp [AllP, under, gB, wB, inR_iff, IntKind.bits]
            rw [hN]
            show 0 ≤ ((N : Nat) : Int) ∧ ((N : Nat) : Int) ≤ (18446744073709551615 : Int)
            omega
          refine loopP E_ok [3, 4, 5, 6, 24, 25, 30] (fun j : Nat => [(31, .int .u64 j)]) (fun _ H => H) (fun j => j ≤ N ∧ inS t.can k N 0 = inS t.can k (N - j) j) (fun j => N - j) 0 ⟨by omega, rfl⟩ ?_ ?_
          · exact ent_tau [0, 1, 2, 3, 4, 5, 6, 7, 8, 9] ⟨by (repeat' (first | exact trivial | exact rfl | exact fun _ _ => rfl | exact Or.inl rfl | refine And.intro ?_ ?_)), by (repeat' (first | exact trivial | exact rfl | exact congrArg (SV.int .i64) (Int.natCast_succ _).symm | refine And.intro ?_ ?_)), rfl⟩
          · rintro j ⟨hj, hG⟩
            refine And.intro ?_ (And.intro (fun hm => ?_) (fun hm => ?_))
            · simp [AllP, under, gB, wB, inR_iff, IntKind.bits]
            · have hm' : j < N := by
                rw [hN] at hm
                have : (j : Int) < (N : Int) - 1 + 1 := by simpa using hm
                omega
              have ec2 : N - j = (N - (j + 1)) + 1 := by omega
              refine And.intro ?_ ?_
              · simp [AllP, under, gB, wB, inR_iff, IntKind.bits]
              refine (t66 j).use [] ?_ (by (repeat' (first | exact trivial | exact rfl | exact fun _ _ => rfl | exact Or.inl rfl | refine And.intro ?_ ?_))) rfl
              refine And.intro ?_ (And.intro (fun hc => ?_) (fun hc => ?_))
              · simp [AllP, under, gB, wB, inR_iff, IntKind.bits]
              · have hc' : oc64 j = k := by simpa [gB, wB] using hc
                refine (t61 t hv j).use [7, 0, 1, 2, 8, 3, 9] ?_ (by (repeat' (first | exact trivial | exact rfl | exact fun _ _ => rfl | exact Or.inl rfl | refine And.intro ?_ ?_))) rfl
                refine And.intro ?_ (And.intro (fun hd => ?_) (fun hd => ?_))
                · simp [AllP, under, gB, wB, inR_iff, IntKind.bits]
                · have hd' : t.can j = false := by simpa [hc', selV] using hd
                  have e1 : t.clashT = ⟨j, 0⟩ := by
                    rw [e0, hF, ec, outS, hG, ec2, inS, if_pos ⟨hc', hd'⟩]
                    rfl
                  refine And.intro ?_ ?_
                  · simp [AllP, under, gB, wB, inR_iff, IntKind.bits]
                    omega
                  refine And.intro trivial ?_
                  refine And.intro trivial ?_
                  refine (t43_nil 0).use [6] ?_ (by (repeat' (first | exact trivial | exact rfl | exact fun _ _ => rfl | exact Or.inl rfl | refine And.intro ?_ ?_))) rfl
                  refine And.intro ?_ ⟨_, _, ⟨rfl, rfl⟩, ?_⟩
                  · simp [AllP, under, gB, wB, inR_iff, IntKind.bits]
                  rw [e1]
                  exact ent_tau [0, 1, 2, 3, 4] ⟨by (repeat' (first | exact trivial | exact rfl | exact fun _ _ => rfl | exact Or.inl rfl | refine And.intro ?_ ?_)), by (repeat' (first | exact trivial | exact rfl | exact congrArg (SV.int .i64) (Int.natCast_succ _).symm | refine And.intro ?_ ?_)), rfl⟩
                · have hd' : ¬ t.can j = false := by simpa [hc', selV] using hd
                  refine And.intro ?_ ⟨j + 1, ⟨hm', ?_⟩, by omega, ?_⟩
                  · refine ⟨?_, trivial⟩
                    show 0 ≤ (j : Int) + 1 ∧ (j : Int) + 1 ≤ (18446744073709551615 : Int)
                    omega
                  · rw [hG, ec2, inS, if_neg (fun e => hd' e.2)]
                    congr 1
                  · refine ent_tau [0, 1, 2, 3, 4, 5, 6, 7, 8, 9] ⟨by (repeat' (first | exact trivial | exact rfl | exact fun _ _ => rfl | exact Or.inl rfl | refine And.intro ?_ ?_)), ?_, rfl⟩
                    (repeat' (first | exact trivial | exact rfl | exact congrArg (SV.int .i64) (Int.natCast_succ _).symm | refine And.intro ?_ ?_))
              · have hc' : ¬ oc64 j = k := by simpa [gB, wB] using hc
                refine And.intro ?_ (And.intro (fun hd => ?_) (fun hd => ?_))
                · simp [AllP, under, gB, wB, inR_iff, IntKind.bits]
                  exact hc'
                · simp [hc', selV] at hd
                · skip
                  refine And.intro ?_ ⟨j + 1, ⟨hm', ?_⟩, by omega, ?_⟩
                  · refine ⟨?_, trivial⟩
                    show 0 ≤ (j : Int) + 1 ∧ (j : Int) + 1 ≤ (18446744073709551615 : Int)
                    omega
                  · rw [hG, ec2, inS, if_neg (fun e => hc' e.1)]
                    congr 1
                  · refine ent_tau [0, 1, 2, 3, 4, 5, 6, 7, 8, 9] ⟨by (repeat' (first | exact trivial | exact rfl | exact fun _ _ => rfl | exact Or.inl rfl | refine And.intro ?_ ?_)), ?_, rfl⟩
                    (repeat' (first | exact trivial | exact rfl | exact congrArg (SV.int .i64) (Int.natCast_succ _).symm | refine And.intro ?_ ?_))
            · have hm' : j = N := by
                rw [hN] at hm
                have : ¬ ((j : Int) < (N : Int) - 1 + 1) := by simpa using hm
                omega
              subst hm'
              rw [Nat.sub_self, inS] at hG
              have hF2 : outS t.can j (t.nL + 1) 0 = outS t.can j (t.nL + 1 - (k + 1)) ((k + 1 : Nat) : Int) := by
                rw [hF, ec, outS, hG]
                rfl
              refine And.intro trivial ?_
              refine And.intro ?_ ⟨k + 1, ⟨hn', hF2⟩, by omega, ?_⟩
              · simp [AllP, under, gB, wB, inR_iff, IntKind.bits]
                omega
              · refine ent_tau [0, 1, 2, 3, 4, 5, 6, 7, 8, 9] ⟨by (repeat' (first | exact trivial | exact rfl | exact fun _ _ => rfl | exact Or.inl rfl | refine And.intro ?_ ?_)), by (repeat' (first | exact trivial | exact rfl | exact congrArg (SV.int .i64) (Int.natCast_succ _).symm | refine And.intro ?_ ?_)), rfl⟩
        · have hn' : k = t.nL + 1 := by
            have : ¬ ((k : Int) < (t.nL : Int) + 1) := by simpa using hn
            omega
          subst hn'
          rw [Nat.sub_self, outS] at hF
          have e1 : t.clashT = ⟨0, 4⟩ := by rw [e0, hF, orNone]
          refine And.intro ?_ ?_
          · simp [AllP, under, gB, wB, inR_iff, IntKind.bits]
          refine And.intro trivial ?_
          refine (t43_nil 4).use [6] ?_ (by (repeat' (first | exact trivial | exact rfl | exact fun _ _ => rfl | exact Or.inl rfl | refine And.intro ?_ ?_))) rfl
          refine And.intro ?_ ⟨_, _, ⟨rfl, rfl⟩, ?_⟩
          · simp [AllP, under, gB, wB, inR_iff, IntKind.bits]
          rw [e1]
          exact ent_tau [0, 1, 2, 3, 4] ⟨by (repeat' (first | exact trivial | exact rfl | exact fun _ _ => rfl | exact Or.inl rfl | refine And.intro ?_ ?_)), by (repeat' (first | exact trivial | exact rfl | exact congrArg (SV.int .i64) (Int.natCast_succ _).symm | refine And.intro ?_ ?_)), rfl⟩
    · have hcan : t.can (2 ^ t.nL - 1) = true := by simpa using hb
      have e0 : t.clashT = ⟨0, 4⟩ := by simp [TD.clashT, hv, hcan]
      refine And.intro ?_ ?_
      · simp [AllP, under, gB, wB, inR_iff, IntKind.bits]
      refine (t43_stop 0 4).use [6] ?_ (by (repeat' (first | exact trivial | exact rfl | exact fun _ _ => rfl | exact Or.inl rfl | refine And.intro ?_ ?_))) rfl
      refine And.intro ?_ ⟨_, _, ⟨rfl, rfl⟩, ?_⟩
      · simp [AllP, under, gB, wB, inR_iff, IntKind.bits]
      rw [e0]
      exact ent_tau [0, 1, 2, 3, 4] ⟨by (repeat' (first | exact trivial | exact rfl | exact fun _ _ => rfl | exact Or.inl rfl | refine And.intro ?_ ?_)), by (repeat' (first | exact trivial | exact rfl | exact congrArg (SV.int .i64) (Int.natCast_succ _).symm | refine And.intro ?_ ?_)), rfl⟩
  · refine ⟨ownB_ok rfl, ?_⟩
    have e0 : t.clashT = ⟨0, 1⟩ := by simp [TD.clashT, hv]
    refine And.intro ?_ ?_
    · simp [AllP, under, gB, wB, inR_iff, IntKind.bits]
    refine (t43_stop 0 1).use [6] ?_ (by (repeat' (first | exact trivial | exact rfl | exact fun _ _ => rfl | exact Or.inl rfl | refine And.intro ?_ ?_))) rfl
    refine And.intro ?_ ⟨_, _, ⟨rfl, rfl⟩, ?_⟩
    · simp [AllP, under, gB, wB, inR_iff, IntKind.bits]
    rw [e0]
    exact ent_tau [0, 1, 2, 3, 4] ⟨by (repeat' (first | exact trivial | exact rfl | exact fun _ _ => rfl | exact Or.inl rfl | refine And.intro ?_ ?_)), by (repeat' (first | exact trivial | exact rfl | exact congrArg (SV.int .i64) (Int.natCast_succ _).symm | refine And.intro ?_ ?_)), rfl⟩
  · cases hb
end Go.Proofs.YtipbempkngfdbaaGreatDoor
/-
  Contracts: the tides of the document's examples.
-/
namespace Go.Proofs.YtipbempkngfdbaaGreatDoor
open Go Go.Sy
set_option linter.unusedSimpArgs false
set_option maxRecDepth 100000
set_option maxHeartbeats 4000000
attribute [local irreducible] CallP CodeP Ent YieldP

theorem t24 (a b : Int) : CallP Tryz.prog 24 [.int .i64 a, .int .i64 b] [] (Ret (.agg [.int .i64 a, .int .i64 b]) []) := by
  refine callR (E := E) E_ok Tryz.func24 rfl ?_
  refine And.intro ?_ ?_
  · simp [AllP, under, gB, wB, inR_iff, IntKind.bits]
  exact ent_tau [] ⟨by (repeat' (first | exact trivial | exact rfl | exact fun _ _ => rfl | exact Or.inl rfl | refine And.intro ?_ ?_)), by (repeat' (first | exact trivial | exact rfl | exact congrArg (SV.int .i64) (Int.natCast_succ _).symm | refine And.intro ?_ ?_)), rfl⟩
theorem t75 (m a b : Int) : CallP Tryz.prog 68 [.int .i64 m, .int .i64 a, .int .i64 b] [] (Ret (.agg [.int .i64 m, .int .i64 a, .int .i64 b]) []) := by
  refine callR (E := E) E_ok Tryz.func68 rfl ?_
  refine And.intro ?_ ?_
  · simp [AllP, under, gB, wB, inR_iff, IntKind.bits]
  refine (t24 a b).use [] ?_ (by (repeat' (first | exact trivial | exact rfl | exact fun _ _ => rfl | exact Or.inl rfl | refine And.intro ?_ ?_))) rfl
  refine And.intro ?_ ?_
  · simp [AllP, under, gB, wB, inR_iff, IntKind.bits]
  exact ent_tau [] ⟨by (repeat' (first | exact trivial | exact rfl | exact fun _ _ => rfl | exact Or.inl rfl | refine And.intro ?_ ?_)), by (repeat' (first | exact trivial | exact rfl | exact congrArg (SV.int .i64) (Int.natCast_succ _).symm | refine And.intro ?_ ?_)), rfl⟩
theorem t36 (p m a b : Int) : CallP Tryz.prog 69 [.int .i64 p, .int .i64 m, .int .i64 a, .int .i64 b] [] (Ret (.agg [.int .i64 p, .int .i64 m, .int .i64 a, .int .i64 b]) []) := by
  refine callR (E := E) E_ok Tryz.func69 rfl ?_
  refine And.intro ?_ ?_
  · simp [AllP, under, gB, wB, inR_iff, IntKind.bits]
  refine (t24 a b).use [] ?_ (by (repeat' (first | exact trivial | exact rfl | exact fun _ _ => rfl | exact Or.inl rfl | refine And.intro ?_ ?_))) rfl
  refine And.intro ?_ ?_
  · simp [AllP, under, gB, wB, inR_iff, IntKind.bits]
  exact ent_tau [] ⟨by (repeat' (first | exact trivial | exact rfl | exact fun _ _ => rfl | exact Or.inl rfl | refine And.intro ?_ ?_)), by (repeat' (first | exact trivial | exact rfl | exact congrArg (SV.int .i64) (Int.natCast_succ _).symm | refine And.intro ?_ ?_)), rfl⟩
def ix (l : List Int) (k : Nat) : Int := l.getD k 0
/-- The tide T of the document's examples, with so many of the looks. -/
def TX (n c : Nat) : TD where
  nM := 3
  nS := 2
  nL := n
  mi := ix [0, 60, 120]
  mlo := ix [10, 40, 12]
  mhi := ix [12, 41, 12]
  slo := ix [5, 20]
  shi := ix [6, 20]
  lp := ix [1, 1]
  lm := ix [30, 30]
  llo := ix [6, 5]
  lhi := ix [6, 5]
  bM := true
  bS := true
  bL := true
  cM := 3
  cS := 2
  cL := c
theorem lt3 {k : Nat} (h : k < 3) : k = 0 ∨ k = 1 ∨ k = 2 := by omega
theorem lt2 {k : Nat} (h : k < 2) : k = 0 ∨ k = 1 := by omega
def rowsX (n c : Nat) : SHeap := [some (.arr 3 3 3 (row3 (TX n c).mi (TX n c).mlo (TX n c).mhi)), some (.arr 2 2 2 (row2 (TX n c).slo (TX n c).shi)), some (.arr 4 n c (row4 (TX n c).lp (TX n c).lm (TX n c).llo (TX n c).lhi))]
theorem t23_f : CallP Tryz.prog 20 [.bool false] [] (Ret (TX 1 1).A (rowsX 1 1)) := by
  refine callR (E := E) E_ok Tryz.func20 rfl ?_
  refine And.intro ?_ ?_
  · simp [AllP, under, gB, wB, inR_iff, IntKind.bits]
  refine (t75 0 10 12).use [] ?_ (by (repeat' (first | exact trivial | exact rfl | exact fun _ _ => rfl | exact Or.inl rfl | refine And.intro ?_ ?_))) rfl
  refine And.intro ?_ ?_
  · simp [AllP, under, gB, wB, inR_iff, IntKind.bits]
  refine (t75 60 40 41).use [] ?_ (by (repeat' (first | exact trivial | exact rfl | exact fun _ _ => rfl | exact Or.inl rfl | refine And.intro ?_ ?_))) rfl
  refine And.intro ?_ ?_
  · simp [AllP, under, gB, wB, inR_iff, IntKind.bits]
  refine (t75 120 12 12).use [] ?_ (by (repeat' (first | exact trivial | exact rfl | exact fun _ _ => rfl | exact Or.inl rfl | refine And.intro ?_ ?_))) rfl
  refine And.intro ?_ ?_
  · simp [AllP, under, gB, wB, inR_iff, IntKind.bits]
  refine (t24 5 6).use [] ?_ (by (repeat' (first | exact trivial | exact rfl | exact fun _ _ => rfl | exact Or.inl rfl | refine And.intro ?_ ?_))) rfl
  refine And.intro ?_ ?_
  · simp [AllP, under, gB, wB, inR_iff, IntKind.bits]
  refine (t24 20 20).use [] ?_ (by (repeat' (first | exact trivial | exact rfl | exact fun _ _ => rfl | exact Or.inl rfl | refine And.intro ?_ ?_))) rfl
  refine And.intro ?_ ?_
  · simp [AllP, under, gB, wB, inR_iff, IntKind.bits]
  refine (t36 1 30 6 6).use [] ?_ (by (repeat' (first | exact trivial | exact rfl | exact fun _ _ => rfl | exact Or.inl rfl | refine And.intro ?_ ?_))) rfl
  refine And.intro ?_ (And.intro (fun h => ?_) (fun h => ?_))
  · simp [AllP, under, gB, wB, inR_iff, IntKind.bits]
  · cases h
  · refine And.intro ?_ ?_
    · simp [AllP, under, gB, wB, inR_iff, IntKind.bits]
    refine Ent.trans (entV (v' := .agg [.osl true 1 3 3 3, .osl true 2 2 2 2, .osl true 3 4 1 1]) (fun η => by simp [den, denL])) ?_
    refine ent_tau [1, 2, 3] ⟨?_, by (repeat' (first | exact trivial | exact rfl | exact congrArg (SV.int .i64) (Int.natCast_succ _).symm | refine And.intro ?_ ?_)), rfl⟩
    (repeat' (first | exact trivial | exact rfl | exact fun _ _ => rfl | exact Or.inl rfl | refine And.intro ?_ ?_))
    · intro k hk
      rcases lt3 hk with rfl | rfl | rfl <;> rfl
    · intro k hk
      rcases lt2 hk with rfl | rfl <;> rfl
    · intro k hk
      have : k = 0 := Nat.lt_one_iff.1 hk
      subst this
      rfl
def pl20_e : Plan := .alt 4 (.eager 5 <| .alt 6 .done .no) .no
def pl20_3s : Plan := .eager 0 <| .alt 1 (.alt 2 (.alt 3 pl20_e .no) .no) (.alt 2 (.alt 1 (.alt 3 pl20_e .no) (.alt 3 (.alt 1 pl20_e .no) .no)) .no)
theorem t23_t : CallP Tryz.prog 20 [.bool true] [] (fun ce h' => ∃ c, 2 ≤ c ∧ c ≤ 9223372036854775807 ∧ ce = .ret (TX 2 c).A ∧ h' = rowsX 2 c) := by
  refine callK (E := E) E_ok Tryz.func20 rfl ?_
  refine And.intro ?_ ?_
  · simp [AllP, under, gB, wB, inR_iff, IntKind.bits]
  refine (t75 0 10 12).use [] ?_ (by (repeat' (first | exact trivial | exact rfl | exact fun _ _ => rfl | exact Or.inl rfl | refine And.intro ?_ ?_))) rfl
  refine And.intro ?_ ?_
  · simp [AllP, under, gB, wB, inR_iff, IntKind.bits]
  refine (t75 60 40 41).use [] ?_ (by (repeat' (first | exact trivial | exact rfl | exact fun _ _ => rfl | exact Or.inl rfl | refine And.intro ?_ ?_))) rfl
  refine And.intro ?_ ?_
  · simp [AllP, under, gB, wB, inR_iff, IntKind.bits]
  refine (t75 120 12 12).use [] ?_ (by (repeat' (first | exact trivial | exact rfl | exact fun _ _ => rfl | exact Or.inl rfl | refine And.intro ?_ ?_))) rfl
  refine And.intro ?_ ?_
  · simp [AllP, under, gB, wB, inR_iff, IntKind.bits]
  refine (t24 5 6).use [] ?_ (by (repeat' (first | exact trivial | exact rfl | exact fun _ _ => rfl | exact Or.inl rfl | refine And.intro ?_ ?_))) rfl
  refine And.intro ?_ ?_
  · simp [AllP, under, gB, wB, inR_iff, IntKind.bits]
  refine (t24 20 20).use [] ?_ (by (repeat' (first | exact trivial | exact rfl | exact fun _ _ => rfl | exact Or.inl rfl | refine And.intro ?_ ?_))) rfl
  refine And.intro ?_ ?_
  · simp [AllP, under, gB, wB, inR_iff, IntKind.bits]
  refine (t36 1 30 6 6).use [] ?_ (by (repeat' (first | exact trivial | exact rfl | exact fun _ _ => rfl | exact Or.inl rfl | refine And.intro ?_ ?_))) rfl
  refine And.intro ?_ (And.intro (fun h => ?_) (fun h => ?_))
  · simp [AllP, under, gB, wB, inR_iff, IntKind.bits]
  · refine And.intro trivial ?_
    refine cutP [2, 3] [] (fun H => (((H.set 1 (some (.arr 3 3 3 (row3 (TX 2 0).mi (TX 2 0).mlo (TX 2 0).mhi)))).set 2 (some (.arr 2 2 2 (row2 (TX 2 0).slo (TX 2 0).shi)))).set 3 (some (.arr 4 1 1 (row4 (TX 2 0).lp (TX 2 0).lm (TX 2 0).llo (TX 2 0).lhi))))) ?_ ?_
    · refine ent_tau [0, 1, 2, 3, 4] ⟨?_, by (repeat' (first | exact trivial | exact rfl | exact congrArg (SV.int .i64) (Int.natCast_succ _).symm | refine And.intro ?_ ?_)), rfl⟩
      (repeat' (first | exact trivial | exact rfl | exact fun _ _ => rfl | exact Or.inl rfl | refine And.intro ?_ ?_))
      · intro k hk
        rcases lt3 hk with rfl | rfl | rfl <;> rfl
      · intro k hk
        rcases lt2 hk with rfl | rfl <;> rfl
      · intro k hk
        have : k = 0 := Nat.lt_one_iff.1 hk
        subst this
        rfl
    refine drawP E_ok [] pl20_3s (by kernel_rfl) ?_
    refine And.intro ?_ (And.intro ?_ trivial)
    · refine And.intro (And.intro ?_ ?_) trivial
      · simp [AllP, under, gB, wB, inR_iff, IntKind.bits]
      refine (t36 1 30 5 5).use [] ?_ (by (repeat' (first | exact trivial | exact rfl | exact fun _ _ => rfl | exact Or.inl rfl | refine And.intro ?_ ?_))) rfl
      refine And.intro (And.intro ?_ trivial) trivial
      refine And.intro ?_ ?_
      · exact ⟨by decide, by decide, by decide, by decide, fun k hk => (by have := Nat.lt_one_iff.1 hk; subst this; rfl), by decide, trivial⟩
      intro c hc1 hc2
      refine And.intro ?_ trivial
      refine And.intro ?_ ?_
      · simp [AllP, under, gB, wB, inR_iff, IntKind.bits]
      refine And.intro ?_ ?_
      · exact rfl
      refine And.intro ?_ ⟨_, _, ⟨c, hc1, hc2, rfl, rfl⟩, ?_⟩
      · simp [AllP, under, gB, wB, inR_iff, IntKind.bits]
      refine Ent.trans (entV (v' := .agg [.osl true 1 3 3 3, .osl true 2 2 2 2, .osl true 6 4 2 c]) (fun η => by simp [den, denL])) ?_
      refine ent_tau [1, 2, 6] ⟨?_, by (repeat' (first | exact trivial | exact rfl | exact congrArg (SV.int .i64) (Int.natCast_succ _).symm | refine And.intro ?_ ?_)), rfl⟩
      (repeat' (first | exact trivial | exact rfl | exact fun _ _ => rfl | exact Or.inl rfl | refine And.intro ?_ ?_))
      · intro k hk
        rcases lt2 hk with rfl | rfl <;> rfl
    · refine And.intro ?_ ?_
      · simp [AllP, under, gB, wB, inR_iff, IntKind.bits]
      refine (t36 1 30 5 5).use [] ?_ (by (repeat' (first | exact trivial | exact rfl | exact fun _ _ => rfl | exact Or.inl rfl | refine And.intro ?_ ?_))) rfl
      refine And.intro ?_ ?_
      · refine And.intro ?_ trivial
        refine And.intro ?_ trivial
        refine And.intro ?_ ?_
        · exact ⟨by decide, by decide, by decide, by decide, fun k hk => (by have := Nat.lt_one_iff.1 hk; subst this; rfl), by decide, trivial⟩
        intro c hc1 hc2
        refine And.intro ?_ trivial
        refine And.intro ?_ ?_
        · simp [AllP, under, gB, wB, inR_iff, IntKind.bits]
        refine And.intro ?_ ?_
        · exact rfl
        refine And.intro ?_ ⟨_, _, ⟨c, hc1, hc2, rfl, rfl⟩, ?_⟩
        · simp [AllP, under, gB, wB, inR_iff, IntKind.bits]
        refine Ent.trans (entV (v' := .agg [.osl true 1 3 3 3, .osl true 2 2 2 2, .osl true 6 4 2 c]) (fun η => by simp [den, denL])) ?_
        refine ent_tau [1, 2, 6] ⟨?_, by (repeat' (first | exact trivial | exact rfl | exact congrArg (SV.int .i64) (Int.natCast_succ _).symm | refine And.intro ?_ ?_)), rfl⟩
        (repeat' (first | exact trivial | exact rfl | exact fun _ _ => rfl | exact Or.inl rfl | refine And.intro ?_ ?_))
        · intro k hk
          rcases lt2 hk with rfl | rfl <;> rfl
      · refine And.intro ?_ trivial
        refine And.intro ?_ trivial
        refine And.intro ?_ trivial
        refine And.intro ?_ ?_
        · exact ⟨by decide, by decide, by decide, by decide, fun k hk => (by have := Nat.lt_one_iff.1 hk; subst this; rfl), by decide, trivial⟩
        intro c hc1 hc2
        refine And.intro ?_ trivial
        refine And.intro ?_ ?_
        · simp [AllP, under, gB, wB, inR_iff, IntKind.bits]
        refine And.intro ?_ ?_
        · exact rfl
        refine And.intro ?_ ⟨_, _, ⟨c, hc1, hc2, rfl, rfl⟩, ?_⟩
        · simp [AllP, under, gB, wB, inR_iff, IntKind.bits]
        refine Ent.trans (entV (v' := .agg [.osl true 1 3 3 3, .osl true 2 2 2 2, .osl true 6 4 2 c]) (fun η => by simp [den, denL])) ?_
        refine ent_tau [1, 2, 6] ⟨?_, by (repeat' (first | exact trivial | exact rfl | exact congrArg (SV.int .i64) (Int.natCast_succ _).symm | refine And.intro ?_ ?_)), rfl⟩
        (repeat' (first | exact trivial | exact rfl | exact fun _ _ => rfl | exact Or.inl rfl | refine And.intro ?_ ?_))
        · intro k hk
          rcases lt2 hk with rfl | rfl <;> rfl
  · cases h
end Go.Proofs.YtipbempkngfdbaaGreatDoor
/-
  Contracts: a tide is opened; the question has captured 3 variables.
-/
namespace Go.Proofs.YtipbempkngfdbaaGreatDoor
open Go Go.Sy
set_option linter.unusedSimpArgs false
set_option maxRecDepth 100000
set_option maxHeartbeats 4000000
attribute [local irreducible] CallP CodeP Ent YieldP
set_option maxHeartbeats 800000

noncomputable def B44_3 (t : TD) (c0 c1 c2 : Int) : SHeap := [some (.roa 3 t.nM (row3 t.mi t.mlo t.mhi)), some (.roa 2 t.nS (row2 t.slo t.shi)), some (.roa 4 t.nL (row4 t.lp t.lm t.llo t.lhi)), some (.roc [.int .i64 c0]), some (.roc [.int .i64 c1]), some (.roc [.int .i64 c2])]
theorem t44_3 (t : TD) (c0 c1 c2 : Int) (f : Nat) (hf : f = 71 ∨ f = 74 ∨ f = 50) (b : Bool)
    (his : t.Valid → CallP Tryz.prog f [.ptr 0 0, .ptr 5 0, .ptr 6 0, .ptr 7 0] (t.shore ++ [some (.roc [.int .i64 c0]), some (.roc [.int .i64 c1]), some (.roc [.int .i64 c2])]) (Ret (.bool b) (t.shore ++ [some (.roc [.int .i64 c0]), some (.roc [.int .i64 c1]), some (.roc [.int .i64 c2])]))) :
    CallP Tryz.prog 28 [t.A, .fn (.func f) [] [.ptr 3 0, .ptr 4 0, .ptr 5 0]] (B44_3 t c0 c1 c2) (K44 t b (B44_3 t c0 c1 c2) 6 7) := by
  refine callK (E := E) E_ok Tryz.func28 rfl ?_
  refine And.intro ?_ ?_
  · simp [AllP, under, gB, wB, inR_iff, IntKind.bits]
  refine (t90 _ _ _).use [] ?_ (by (repeat' (first | exact trivial | exact rfl | exact fun _ _ => rfl | exact Or.inl rfl | refine And.intro ?_ ?_))) rfl
  refine And.intro ?_ ?_
  · simp [AllP, under, gB, wB, inR_iff, IntKind.bits]
  refine And.intro (fun h1 => ?_) (fun h1 => ?_)
  · refine (t90 _ _ _).use [] ?_ (by (repeat' (first | exact trivial | exact rfl | exact fun _ _ => rfl | exact Or.inl rfl | refine And.intro ?_ ?_))) rfl
    refine And.intro ?_ ?_
    · simp [AllP, under, gB, wB, inR_iff, IntKind.bits]
    refine must (fun hb => ?_) (fun hb => ?_)
    · -- the lists are as long as they may be
      have hb' : (2 ≤ t.nM ∧ t.nM ≤ 4) ∧ (1 ≤ t.nS ∧ t.nS ≤ 4) ∧ t.nL ≤ 6 := by
        simp [inB, gB, wB] at hb h1
        omega
      obtain ⟨hM, hS, hL⟩ := hb'
      refine And.intro ?_ ?_
      · simp [AllP, under, gB, wB, inR_iff, IntKind.bits]
      refine loopP E_ok [0, 1, 2, 5, 31, 32] (fun i : Nat => [(33, .int .i64 i)]) (fun _ H => H) (fun i => i ≤ t.nM ∧ ∀ j, j < i → t.markOk j) (fun i => t.nM - i) 0 ⟨Nat.zero_le _, fun j h => by omega⟩ ?_ ?_
      · exact ent_tau [0, 1, 2, 3, 4, 5, 6] ⟨by (repeat' (first | exact trivial | exact rfl | exact fun _ _ => rfl | exact Or.inl rfl | refine And.intro ?_ ?_)), by (repeat' (first | exact trivial | exact rfl | exact congrArg (SV.int .i64) (Int.natCast_succ _).symm | refine And.intro ?_ ?_)), rfl⟩
      · rintro i ⟨hi, hall⟩
        refine And.intro ?_ (And.intro (fun hlt => ?_) (fun hlt => ?_))
        · simp [AllP, under, gB, wB, inR_iff, IntKind.bits]
        · have hlt' : i < t.nM := by simpa using hlt
          have ei : (0 + (i : Int).toNat) = i := by omega
          have ei' : (0 + ((i : Int) - 1).toNat) = i - 1 := by omega
          refine And.intro ?_ ?_
          · simp [AllP, under, gB, wB, inR_iff, IntKind.bits]
            omega
          rw [ei]
          refine drawQ E_ok [6, 7] pl28_6 (by kernel_rfl) ?_
          refine And.intro (And.intro ?_ ?_) trivial
          · simp [AllP, under, gB, wB, inR_iff, IntKind.bits]
          refine (t90 _ _ _).use [] ?_ (by (repeat' (first | exact trivial | exact rfl | exact fun _ _ => rfl | exact Or.inl rfl | refine And.intro ?_ ?_))) rfl
          refine And.intro (And.intro ?_ (And.intro (fun h2 => ?_) (fun h2 => ?_))) trivial
          · simp [AllP, under, gB, wB, inR_iff, IntKind.bits]
          · refine (t95 _ _).use [] ?_ (by (repeat' (first | exact trivial | exact rfl | exact fun _ _ => rfl | exact Or.inl rfl | refine And.intro ?_ ?_))) rfl
            refine And.intro (And.intro ?_ ?_) trivial
            · have hp := fun h => hall (i - 1) h
              simp only [TD.markOk] at hp
              simp [inB, gB, wB] at h2
              simp [AllP, under, gB, wB, inR_iff, IntKind.bits, ei', inB, hiB]
              omega
            · refine must (fun hb => ?_) (fun hb => ?_)
              · refine And.intro ?_ ?_
                · simp [AllP, under, gB, wB, inR_iff, IntKind.bits]
                refine And.intro ?_ ?_
                · exact rfl
                refine And.intro ?_ ⟨i + 1, ⟨hlt', fun j hj => ?_⟩, by omega, ?_⟩
                · simp [AllP, under, gB, wB, inR_iff, IntKind.bits]
                  omega
                · rcases Nat.lt_or_ge j i with hji | hji
                  · exact hall j hji
                  · have : j = i := by omega
                    subst this
                    rw [ei'] at hb
                    simp [inB, hiB, gB, wB] at h2 hb
                    simp only [TD.markOk]
                    omega
                · exact ent_tau [0, 1, 2, 3, 4, 5, 6] ⟨by (repeat' (first | exact trivial | exact rfl | exact fun _ _ => rfl | exact Or.inl rfl | refine And.intro ?_ ?_)), by (repeat' (first | exact trivial | exact rfl | exact congrArg (SV.int .i64) (Int.natCast_succ _).symm | refine And.intro ?_ ?_)), rfl⟩
              · refine And.intro ?_ ?_
                · simp [AllP, under, gB, wB, inR_iff, IntKind.bits]
                refine And.intro ?_ ?_
                · exact rfl
                refine And.intro trivial ?_
                refine And.intro ?_ ⟨_, _, .inr (.inl ⟨fun hv => ?_, rfl, rfl⟩), ?_⟩
                · simp [AllP, under, gB, wB, inR_iff, IntKind.bits]
                · have hm := hv.2.2.2.1 i hlt'
                  simp only [TD.markOk] at hm
                  rw [ei'] at hb
                  simp [inB, hiB, gB, wB] at h2 hb
                  omega
                · exact ent_tau [0, 1, 2, 3, 4, 5] ⟨by (repeat' (first | exact trivial | exact rfl | exact fun _ _ => rfl | exact Or.inl rfl | refine And.intro ?_ ?_)), by (repeat' (first | exact trivial | exact rfl | exact congrArg (SV.int .i64) (Int.natCast_succ _).symm | refine And.intro ?_ ?_)), rfl⟩
          · refine And.intro (And.intro ?_ ?_) trivial
            · simp [AllP, under, gB, wB, inR_iff, IntKind.bits]
              simpa [gB, wB] using h2
            · have h2' : inB (t.mi i) 0 240 = false := by simpa [gB, wB] using h2
              refine must (fun hb => ?_) (fun hb => ?_)
              · simp [h2'] at hb
              · refine And.intro ?_ ?_
                · simp [AllP, under, gB, wB, inR_iff, IntKind.bits]
                refine And.intro ?_ ?_
                · exact rfl
                refine And.intro trivial ?_
                refine And.intro ?_ ⟨_, _, .inr (.inl ⟨fun hv => ?_, rfl, rfl⟩), ?_⟩
                · simp [AllP, under, gB, wB, inR_iff, IntKind.bits]
                · have hm := hv.2.2.2.1 i hlt'
                  simp only [TD.markOk] at hm
                  simp [inB, gB, wB] at h2
                  omega
                · exact ent_tau [0, 1, 2, 3, 4, 5] ⟨by (repeat' (first | exact trivial | exact rfl | exact fun _ _ => rfl | exact Or.inl rfl | refine And.intro ?_ ?_)), by (repeat' (first | exact trivial | exact rfl | exact congrArg (SV.int .i64) (Int.natCast_succ _).symm | refine And.intro ?_ ?_)), rfl⟩
        · have hiM : i = t.nM := by
            have : ¬ (i < t.nM) := by simpa using hlt
            omega
          subst hiM
          refine And.intro ?_ ?_
          · simp [AllP, under, gB, wB, inR_iff, IntKind.bits]
          refine And.intro trivial ?_
          refine ⟨t.F, ?_⟩
          refine And.intro ?_ ?_
          · simp [AllP, under, gB, wB, inR_iff, IntKind.bits]
          refine loopP E_ok [0, 1, 2, 5, 8, 71, 72] (fun i : Nat => [(73, .int .i64 i)]) (fun _ H => H) (fun i => i ≤ t.nS ∧ ∀ j, j < i → t.sandOk j) (fun i => t.nS - i) 0 ⟨Nat.zero_le _, fun j h => by omega⟩ ?_ ?_
          · exact ent_tau [0, 1, 2, 3, 4, 5, 6, 7, 8] ⟨by (repeat' (first | exact trivial | exact rfl | exact fun _ _ => rfl | exact Or.inl rfl | refine And.intro ?_ ?_)), by (repeat' (first | exact trivial | exact rfl | exact congrArg (SV.int .i64) (Int.natCast_succ _).symm | refine And.intro ?_ ?_)), rfl⟩
          · rintro i ⟨hi, hsand⟩
            refine And.intro ?_ (And.intro (fun hlt2 => ?_) (fun hlt2 => ?_))
            · simp [AllP, under, gB, wB, inR_iff, IntKind.bits]
            · have hlt' : i < t.nS := by simpa using hlt2
              have ei : (0 + (i : Int).toNat) = i := by omega
              refine And.intro ?_ ?_
              · simp [AllP, under, gB, wB, inR_iff, IntKind.bits]
                omega
              rw [ei]
              refine (t95 _ _).use [] ?_ (by (repeat' (first | exact trivial | exact rfl | exact fun _ _ => rfl | exact Or.inl rfl | refine And.intro ?_ ?_))) rfl
              refine And.intro ?_ ?_
              · simp [AllP, under, gB, wB, inR_iff, IntKind.bits]
              refine must (fun hb => ?_) (fun hb => ?_)
              · refine And.intro ?_ ⟨i + 1, ⟨hlt', fun j hj => ?_⟩, by omega, ?_⟩
                · simp [AllP, under, gB, wB, inR_iff, IntKind.bits]
                  omega
                · rcases Nat.lt_or_ge j i with hji | hji
                  · exact hsand j hji
                  · have : j = i := by omega
                    subst this
                    simp [hiB] at hb
                    simp only [TD.sandOk]
                    omega
                · exact ent_tau [0, 1, 2, 3, 4, 5, 6, 7, 8] ⟨by (repeat' (first | exact trivial | exact rfl | exact fun _ _ => rfl | exact Or.inl rfl | refine And.intro ?_ ?_)), by (repeat' (first | exact trivial | exact rfl | exact congrArg (SV.int .i64) (Int.natCast_succ _).symm | refine And.intro ?_ ?_)), rfl⟩
              · refine And.intro ?_ ?_
                · simp [AllP, under, gB, wB, inR_iff, IntKind.bits]
                refine And.intro ?_ ⟨_, _, .inr (.inl ⟨fun hv => ?_, rfl, rfl⟩), ?_⟩
                · simp [AllP, under, gB, wB, inR_iff, IntKind.bits]
                · have hm := hv.2.2.2.2.1 i hlt'
                  simp only [TD.sandOk] at hm
                  simp [hiB] at hb
                  omega
                · exact ent_tau [0, 1, 2, 3, 4, 5] ⟨by (repeat' (first | exact trivial | exact rfl | exact fun _ _ => rfl | exact Or.inl rfl | refine And.intro ?_ ?_)), by (repeat' (first | exact trivial | exact rfl | exact congrArg (SV.int .i64) (Int.natCast_succ _).symm | refine And.intro ?_ ?_)), rfl⟩
            · have hiS : i = t.nS := by
                have : ¬ (i < t.nS) := by simpa using hlt2
                omega
              subst hiS
              refine And.intro ?_ ?_
              · simp [AllP, under, gB, wB, inR_iff, IntKind.bits]
              refine And.intro trivial ?_
              refine loopP E_ok [0, 1, 8, 83, 84] (fun i : Nat => [(85, .int .i64 i)]) (fun _ H => H) (fun i => i ≤ t.nL ∧ ∀ j, j < i → t.lookOk j) (fun i => t.nL - i) 0 ⟨Nat.zero_le _, fun j h => by omega⟩ ?_ ?_
              · exact ent_tau [0, 1, 2, 3, 4, 5, 6, 7, 8] ⟨by (repeat' (first | exact trivial | exact rfl | exact fun _ _ => rfl | exact Or.inl rfl | refine And.intro ?_ ?_)), by (repeat' (first | exact trivial | exact rfl | exact congrArg (SV.int .i64) (Int.natCast_succ _).symm | refine And.intro ?_ ?_)), rfl⟩
              · rintro i ⟨hi, hlook⟩
                refine And.intro ?_ (And.intro (fun hlt3 => ?_) (fun hlt3 => ?_))
                · simp [AllP, under, gB, wB, inR_iff, IntKind.bits]
                · have hlt' : i < t.nL := by simpa using hlt3
                  have ei : (0 + (i : Int).toNat) = i := by omega
                  refine And.intro ?_ ?_
                  · simp [AllP, under, gB, wB, inR_iff, IntKind.bits]
                    omega
                  rw [ei]
                  refine (t46 t (by omega) (t.lp i)).use [8, 0, 1, 2, 7] ?_ (by (repeat' (first | exact trivial | exact rfl | exact fun _ _ => rfl | exact Or.inl rfl | refine And.intro ?_ ?_))) rfl
                  refine And.intro ?_ (And.intro (fun h6 => ?_) (fun h6 => ?_))
                  · simp [AllP, under, gB, wB, inR_iff, IntKind.bits]
                  · have h6' : inB (t.lp i) 0 (t.nS - 1) = true := by simpa [gB, wB] using h6
                    refine (t57 t (by omega) (by omega) (t.lm i)).use [8, 0, 1, 2, 7] ?_ (by (repeat' (first | exact trivial | exact rfl | exact fun _ _ => rfl | exact Or.inl rfl | refine And.intro ?_ ?_))) rfl
                    refine And.intro ?_ (And.intro (fun h7 => ?_) (fun h7 => ?_))
                    · simp [AllP, under, gB, wB, inR_iff, IntKind.bits]
                    · have h7' : inB (t.lm i) (t.mi 0) (t.mi (t.nM - 1)) = true := by simpa [gB, wB, h6'] using h7
                      refine (t96 _ _).use [] ?_ (by (repeat' (first | exact trivial | exact rfl | exact fun _ _ => rfl | exact Or.inl rfl | refine And.intro ?_ ?_))) rfl
                      refine And.intro ?_ ?_
                      · simp [AllP, under, gB, wB, inR_iff, IntKind.bits]
                      refine must (fun hb => ?_) (fun hb => ?_)
                      · refine And.intro ?_ ⟨i + 1, ⟨hlt', fun j hj => ?_⟩, by omega, ?_⟩
                        · simp [AllP, under, gB, wB, inR_iff, IntKind.bits]
                          omega
                        · rcases Nat.lt_or_ge j i with hji | hji
                          · exact hlook j hji
                          · have : j = i := by omega
                            subst this
                            simp [inB, hiB, gB, wB] at hb h6' h7'
                            simp only [TD.lookOk]
                            omega
                        · exact ent_tau [0, 1, 2, 3, 4, 5, 6, 7, 8] ⟨by (repeat' (first | exact trivial | exact rfl | exact fun _ _ => rfl | exact Or.inl rfl | refine And.intro ?_ ?_)), by (repeat' (first | exact trivial | exact rfl | exact congrArg (SV.int .i64) (Int.natCast_succ _).symm | refine And.intro ?_ ?_)), rfl⟩
                      · refine And.intro ?_ ?_
                        · simp [AllP, under, gB, wB, inR_iff, IntKind.bits]
                        refine And.intro ?_ ⟨_, _, .inr (.inl ⟨fun hv => ?_, rfl, rfl⟩), ?_⟩
                        · simp [AllP, under, gB, wB, inR_iff, IntKind.bits]
                        · have hm := hv.2.2.2.2.2 i hlt'
                          simp only [TD.lookOk] at hm
                          simp [inB, hiB, gB, wB, h6', h7'] at hb h6' h7'
                          omega
                        · exact ent_tau [0, 1, 2, 3, 4, 5] ⟨by (repeat' (first | exact trivial | exact rfl | exact fun _ _ => rfl | exact Or.inl rfl | refine And.intro ?_ ?_)), by (repeat' (first | exact trivial | exact rfl | exact congrArg (SV.int .i64) (Int.natCast_succ _).symm | refine And.intro ?_ ?_)), rfl⟩
                    · have h7' : inB (t.lm i) (t.mi 0) (t.mi (t.nM - 1)) = false := by simpa [gB, wB, h6'] using h7
                      refine And.intro ?_ ?_
                      · simp [AllP, under, gB, wB, inR_iff, IntKind.bits]
                        simp [h6', h7']
                      refine must (fun hb => ?_) (fun hb => ?_)
                      · simp [h6', h7'] at hb
                      · refine And.intro ?_ ?_
                        · simp [AllP, under, gB, wB, inR_iff, IntKind.bits]
                        refine And.intro ?_ ⟨_, _, .inr (.inl ⟨fun hv => ?_, rfl, rfl⟩), ?_⟩
                        · simp [AllP, under, gB, wB, inR_iff, IntKind.bits]
                        · have hm := hv.2.2.2.2.2 i hlt'
                          simp only [TD.lookOk] at hm
                          simp [inB, hiB, gB, wB] at h6' h7'
                          omega
                        · exact ent_tau [0, 1, 2, 3, 4, 5] ⟨by (repeat' (first | exact trivial | exact rfl | exact fun _ _ => rfl | exact Or.inl rfl | refine And.intro ?_ ?_)), by (repeat' (first | exact trivial | exact rfl | exact congrArg (SV.int .i64) (Int.natCast_succ _).symm | refine And.intro ?_ ?_)), rfl⟩
                  · have h6' : inB (t.lp i) 0 (t.nS - 1) = false := by simpa [gB, wB] using h6
                    refine And.intro ?_ (And.intro (fun h7 => ?_) (fun h7 => ?_))
                    · simp [AllP, under, gB, wB, inR_iff, IntKind.bits]
                      exact h6'
                    · simp [gB, wB, h6'] at h7
                    · refine And.intro ?_ ?_
                      · simp [AllP, under, gB, wB, inR_iff, IntKind.bits]
                      refine must (fun hb => ?_) (fun hb => ?_)
                      · simp [h6'] at hb
                      · refine And.intro ?_ ?_
                        · simp [AllP, under, gB, wB, inR_iff, IntKind.bits]
                        refine And.intro ?_ ⟨_, _, .inr (.inl ⟨fun hv => ?_, rfl, rfl⟩), ?_⟩
                        · simp [AllP, under, gB, wB, inR_iff, IntKind.bits]
                        · have hm := hv.2.2.2.2.2 i hlt'
                          simp only [TD.lookOk] at hm
                          simp [inB, hiB, gB, wB] at h6'
                          omega
                        · exact ent_tau [0, 1, 2, 3, 4, 5] ⟨by (repeat' (first | exact trivial | exact rfl | exact fun _ _ => rfl | exact Or.inl rfl | refine And.intro ?_ ?_)), by (repeat' (first | exact trivial | exact rfl | exact congrArg (SV.int .i64) (Int.natCast_succ _).symm | refine And.intro ?_ ?_)), rfl⟩
                · have hiL : i = t.nL := by
                    have : ¬ (i < t.nL) := by simpa using hlt3
                    omega
                  subst hiL
                  have hv : t.Valid := ⟨hM, hS, hL, hall, hsand, hlook⟩
                  refine And.intro ?_ ?_
                  · simp [AllP, under, gB, wB, inR_iff, IntKind.bits]
                  rcases hf with rfl | rfl | rfl
                  · refine And.intro ?_ ?_
                    · simp [AllP, under, gB, wB, inR_iff, IntKind.bits]
                    refine (his hv).use [8, 0, 1, 2, 7, 3, 4, 5] ?_ (by (repeat' (first | exact trivial | exact rfl | exact fun _ _ => rfl | exact Or.inl rfl | refine And.intro ?_ ?_))) rfl
                    refine And.intro ?_ ?_
                    · simp [AllP, under, gB, wB, inR_iff, IntKind.bits]
                    refine must (fun hb => ?_) (fun hb => ?_)
                    · refine And.intro ?_ ⟨_, _, .inl ⟨hv, hb, rfl, rfl⟩, ?_⟩
                      · simp [AllP, under, gB, wB, inR_iff, IntKind.bits]
                      exact ent_tau [0, 1, 2, 3, 4, 5, 8, 7] ⟨by (repeat' (first | exact trivial | exact rfl | exact fun _ _ => rfl | exact Or.inl rfl | refine And.intro ?_ ?_)), by (repeat' (first | exact trivial | exact rfl | exact congrArg (SV.int .i64) (Int.natCast_succ _).symm | refine And.intro ?_ ?_)), rfl⟩
                    · refine And.intro ?_ ⟨_, _, .inr (.inr ⟨hv, hb, rfl, rfl⟩), ?_⟩
                      · simp [AllP, under, gB, wB, inR_iff, IntKind.bits]
                      exact ent_tau [0, 1, 2, 3, 4, 5] ⟨by (repeat' (first | exact trivial | exact rfl | exact fun _ _ => rfl | exact Or.inl rfl | refine And.intro ?_ ?_)), by (repeat' (first | exact trivial | exact rfl | exact congrArg (SV.int .i64) (Int.natCast_succ _).symm | refine And.intro ?_ ?_)), rfl⟩
                  · refine And.intro ?_ ?_
                    · simp [AllP, under, gB, wB, inR_iff, IntKind.bits]
                    refine (his hv).use [8, 0, 1, 2, 7, 3, 4, 5] ?_ (by (repeat' (first | exact trivial | exact rfl | exact fun _ _ => rfl | exact Or.inl rfl | refine And.intro ?_ ?_))) rfl
                    refine And.intro ?_ ?_
                    · simp [AllP, under, gB, wB, inR_iff, IntKind.bits]
                    refine must (fun hb => ?_) (fun hb => ?_)
                    · refine And.intro ?_ ⟨_, _, .inl ⟨hv, hb, rfl, rfl⟩, ?_⟩
                      · simp [AllP, under, gB, wB, inR_iff, IntKind.bits]
                      exact ent_tau [0, 1, 2, 3, 4, 5, 8, 7] ⟨by (repeat' (first | exact trivial | exact rfl | exact fun _ _ => rfl | exact Or.inl rfl | refine And.intro ?_ ?_)), by (repeat' (first | exact trivial | exact rfl | exact congrArg (SV.int .i64) (Int.natCast_succ _).symm | refine And.intro ?_ ?_)), rfl⟩
                    · refine And.intro ?_ ⟨_, _, .inr (.inr ⟨hv, hb, rfl, rfl⟩), ?_⟩
                      · simp [AllP, under, gB, wB, inR_iff, IntKind.bits]
                      exact ent_tau [0, 1, 2, 3, 4, 5] ⟨by (repeat' (first | exact trivial | exact rfl | exact fun _ _ => rfl | exact Or.inl rfl | refine And.intro ?_ ?_)), by (repeat' (first | exact trivial | exact rfl | exact congrArg (SV.int .i64) (Int.natCast_succ _).symm | refine And.intro ?_ ?_)), rfl⟩
                  · refine And.intro ?_ ?_
                    · simp [AllP, under, gB, wB, inR_iff, IntKind.bits]
                    refine (his hv).use [8, 0, 1, 2, 7, 3, 4, 5] ?_ (by (repeat' (first | exact trivial | exact rfl | exact fun _ _ => rfl | exact Or.inl rfl | refine And.intro ?_ ?_))) rfl
                    refine And.intro ?_ ?_
                    · simp [AllP, under, gB, wB, inR_iff, IntKind.bits]
                    refine must (fun hb => ?_) (fun hb => ?_)
                    · refine And.intro ?_ ⟨_, _, .inl ⟨hv, hb, rfl, rfl⟩, ?_⟩
                      · simp [AllP, under, gB, wB, inR_iff, IntKind.bits]
                      exact ent_tau [0, 1, 2, 3, 4, 5, 8, 7] ⟨by (repeat' (first | exact trivial | exact rfl | exact fun _ _ => rfl | exact Or.inl rfl | refine And.intro ?_ ?_)), by (repeat' (first | exact trivial | exact rfl | exact congrArg (SV.int .i64) (Int.natCast_succ _).symm | refine And.intro ?_ ?_)), rfl⟩
                    · refine And.intro ?_ ⟨_, _, .inr (.inr ⟨hv, hb, rfl, rfl⟩), ?_⟩
                      · simp [AllP, under, gB, wB, inR_iff, IntKind.bits]
                      exact ent_tau [0, 1, 2, 3, 4, 5] ⟨by (repeat' (first | exact trivial | exact rfl | exact fun _ _ => rfl | exact Or.inl rfl | refine And.intro ?_ ?_)), by (repeat' (first | exact trivial | exact rfl | exact congrArg (SV.int .i64) (Int.natCast_succ _).symm | refine And.intro ?_ ?_)), rfl⟩
    · refine And.intro ?_ ⟨_, _, .inr (.inl ⟨fun hv => ?_, rfl, rfl⟩), ?_⟩
      · simp [AllP, under, gB, wB, inR_iff, IntKind.bits]
      · have h3 := hv.1
        have h4 := hv.2.1
        have h5 := hv.2.2.1
        simp [inB, gB, wB] at hb h1
        omega
      · exact ent_tau [0, 1, 2, 3, 4, 5] ⟨by (repeat' (first | exact trivial | exact rfl | exact fun _ _ => rfl | exact Or.inl rfl | refine And.intro ?_ ?_)), by (repeat' (first | exact trivial | exact rfl | exact congrArg (SV.int .i64) (Int.natCast_succ _).symm | refine And.intro ?_ ?_)), rfl⟩
  · have h1' : inB (t.nM : Int) 2 4 = false := by simpa [gB, wB] using h1
    refine And.intro ?_ ?_
    · simp [AllP, under, gB, wB, inR_iff, IntKind.bits]
      exact h1'
    refine must (fun hb => ?_) (fun hb => ?_)
    · simp [h1'] at hb
    · refine And.intro ?_ ⟨_, _, .inr (.inl ⟨fun hv => ?_, rfl, rfl⟩), ?_⟩
      · simp [AllP, under, gB, wB, inR_iff, IntKind.bits]
      · have h3 := hv.1
        simp [inB, gB, wB] at h1
        omega
      · exact ent_tau [0, 1, 2, 3, 4, 5] ⟨by (repeat' (first | exact trivial | exact rfl | exact fun _ _ => rfl | exact Or.inl rfl | refine And.intro ?_ ?_)), by (repeat' (first | exact trivial | exact rfl | exact congrArg (SV.int .i64) (Int.natCast_succ _).symm | refine And.intro ?_ ?_)), rfl⟩
end Go.Proofs.YtipbempkngfdbaaGreatDoor
