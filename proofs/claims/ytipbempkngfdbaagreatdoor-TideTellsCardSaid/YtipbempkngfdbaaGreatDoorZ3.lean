/-
  Contracts of the specification: left, Next.
-/
import Derived.Test.YtipbempkngfdbaaGreatDoorZ1
namespace Go.Proofs.YtipbempkngfdbaaGreatDoor
open Go Go.Sy
set_option linter.unusedSimpArgs false
set_option maxRecDepth 100000
set_option maxHeartbeats 4000000
attribute [local irreducible] CallP CodeP Ent YieldP

/-- How many of the first i have each depth. -/
def manyR (d : Nat → Int) (i : Nat) (k : Nat) : List SV := [.int .i64 (cntD d k i : Nat)]
theorem cntD_le (d : Nat → Int) (k : Int) : ∀ n, cntD d k n ≤ n
  | 0 => by simp [cntD, cntN]
  | n + 1 => by
    have := cntD_le d k n
    rw [cntD_succ]
    split <;> omega
theorem outF'_n (d : Nat → Int) : ∀ n, outF' d n ≤ n
  | 0 => Nat.le_refl _
  | n + 1 => by
    have a := outF'_n d n
    have b := cntD_le d (d n) (n + 1)
    rw [outF']
    split <;> omega
theorem many_step (d : Nat → Int) (i : Nat) {q k : Nat} (hq : d i = q) : selL (decide (k = q)) (splice (manyR d i q) 0 [.int .i64 ((cntD d q i : Nat) + 1)]) (manyR d i k) = manyR d (i + 1) k := by
  by_cases h : k = q
  · subst h
    rw [decide_eq_true rfl, selL_true]
    simp only [manyR, splice, cntD_succ, hq, if_true]
    rfl
  · rw [decide_eq_false h, selL_false]
    simp only [manyR, cntD_succ]
    rw [if_neg (by rw [hq]; omega)]
    rfl
theorem out_step (d : Nat → Int) (i : Nat) : (if ((outF' d i : Nat) : Int) < ((cntD d (d i) (i + 1) : Nat) : Int) then ((cntD d (d i) (i + 1) : Nat) : Int) else ((outF' d i : Nat) : Int)) = ((outF' d (i + 1) : Nat) : Int) := by
  rw [outF']
  by_cases h : cntD d (d i) (i + 1) > outF' d i
  · rw [if_pos h, if_pos (by omega)]
  · rw [if_neg h, if_neg (by omega)]
theorem out_q (d : Nat → Int) (i : Nat) {q : Nat} (hq : d i = q) {Q : Nat} (e3 : Q = q) : (if (bif decide (Q = Q) then ((cntD d Q i : Nat) : Int) + 1 else ((cntD d Q i : Nat) : Int)) > ((outF' d i : Nat) : Int) then (bif decide (Q = Q) then ((cntD d Q i : Nat) : Int) + 1 else ((cntD d Q i : Nat) : Int)) else ((outF' d i : Nat) : Int)) = ((outF' d (i + 1) : Nat) : Int) := by
  subst e3
  have e : cntD d Q (i + 1) = cntD d Q i + 1 := by rw [cntD_succ, if_pos hq]
  have := out_step d i
  rw [hq, e] at this
  rw [decide_eq_true rfl, cond_true]
  push_cast at this
  exact this
theorem zLeft (t : TD) (hv : t.Valid) (X : List Tru) (hX : ∀ x ∈ X, x ∈ t.tru) (ia ib ca cb : Nat → Nat) (hI : Idx t X ia ib) (hX2 : X.length ≤ 100000) (c : Nat) (p m : Int) (hp : 0 ≤ p ∧ p < t.nS) (hm : t.isMin m) :
    CallP Tryz.prog 66 [t.A, .slice 3 2 0 X.length c, .int .i64 p, .int .i64 m] (H54 t X.length ia ib ca cb)
      (Ret (.int .i64 (outF' (fun i => t.dep m p.toNat (X.getD i noTru)) X.length : Nat)) (H54 t X.length ia ib ca cb)) := by
  refine callR (E := E) E_ok Tryz.func66 rfl ?_
  refine And.intro ?_ ?_
  · (repeat' (first | exact trivial | exact fun _ => rfl | exact rfl | refine And.intro ?_ ?_))
    all_goals first | decide | (show (8 : Int) * 61 ≤ 281474976710656; decide)
  refine loopP E_ok [1, 2, 3, 4, 9] (fun i : Nat => [(10, .int .i64 (outF' (fun i => t.dep m p.toNat (X.getD i noTru)) i : Nat)), (11, .int .i64 i)])
    (fun i _ => H54 t X.length ia ib ca cb ++ [some (.cells [.osl t.bM 0 3 t.nM t.cM, .osl t.bS 1 2 t.nS t.cS, .osl t.bL 2 4 t.nL t.cL]), some (.arr 1 61 61 (manyR (fun i => t.dep m p.toNat (X.getD i noTru)) i))])
    (fun i => i ≤ X.length) (fun i => X.length - i) 0 (Nat.zero_le _) ?_ ?_
  · refine ent_tau [0, 1, 2, 3, 4, 5, 6, 7] ⟨?_, ?_, rfl⟩
    · (repeat' (first | exact trivial | exact rfl | exact fun _ _ => rfl | exact fun _ _ _ _ => rfl | exact Or.inl rfl | exact Or.inr rfl | refine And.intro ?_ ?_))
    · (repeat' (first | exact trivial | exact rfl | exact congrArg (SV.int .i64) (Int.natCast_succ _).symm | refine And.intro ?_ ?_))
  rintro i hi
  have e1 : 0 + ((i : Nat) : Int).toNat = i := by omega
  refine And.intro ?_ (And.intro (fun hc => ?_) (fun hc => ?_))
  · (repeat' (first | exact trivial | exact fun _ => rfl | exact rfl | refine And.intro ?_ ?_))
  · have hlt : i < X.length := by
      have := of_decide_eq_true hc
      omega
    have a := hI.a i hlt
    have b := hI.b i hlt
    have c100 : CallP Tryz.prog 56 [t.A, .agg [.row 3 (ia (0 + ((i : Nat) : Int).toNat)) t.nM (ca (0 + ((i : Nat) : Int).toNat)), .row 4 (ib (0 + ((i : Nat) : Int).toNat)) t.nS (cb (0 + ((i : Nat) : Int).toNat))], .int .i64 p, .int .i64 m] (HP t) (Ret (.int .i64 (t.dep m p.toNat (X.getD i noTru))) (HP t)) := by
      rw [e1, TD.dep, ← a.2, ← b.2]
      exact t100r t hv a.1 b.1 _ _ p m hp hm
    have hd := dep_range hv (show p.toNat < t.nS by omega) hm (hX _ (truD_mem hlt))
    obtain ⟨q, hq⟩ : ∃ q : Nat, t.dep m p.toNat (X.getD i noTru) = q := ⟨(t.dep m p.toNat (X.getD i noTru)).toNat, by omega⟩
    rw [hq] at c100 hd
    have e3 : 0 + ((q : Nat) : Int).toNat = q := by omega
    have hcn := cntD_le (fun i => t.dep m p.toNat (X.getD i noTru)) ((0 + ((q : Nat) : Int).toNat : Nat) : Int) i
    have hon := outF'_n (fun i => t.dep m p.toNat (X.getD i noTru)) i
    refine And.intro trivial ?_
    refine drawP E_ok [6] pl66_6 (by kernel_rfl) ?_
    refine And.intro (And.intro ?_ ?_) trivial
    · (repeat' (first | exact True.intro | exact d1 _ | exact d1t _ | exact d2 _ | exact d3 _ _ | exact d3f _ _ | exact fun _ _ => rfl | exact fun _ => rfl | exact rfl | refine And.intro ?_ ?_))
      all_goals first | omega | exact un (by omega)
    refine c100.use [0, 1, 2, 4, 5] ?_ (by (repeat' (first | exact trivial | exact rfl | exact fun _ _ => rfl | exact fun _ _ _ _ => rfl | exact Or.inl rfl | exact Or.inr rfl | refine And.intro ?_ ?_))) rfl
    refine And.intro ?_ ?_
    · (repeat' (first | exact True.intro | exact d1 _ | exact d1t _ | exact d2 _ | exact d3 _ _ | exact d3f _ _ | exact fun _ _ => rfl | exact fun _ => rfl | exact rfl | refine And.intro ?_ ?_))
    refine And.intro rfl ?_
    refine And.intro ?_ ?_
    · (repeat' (first | exact trivial | exact fun _ => rfl | exact rfl | refine And.intro ?_ ?_))
      all_goals first | omega | exact un (by omega)
    refine ⟨i + 1, hlt, by omega, ?_⟩
    refine ent_tau [0, 1, 2, 3, 4, 5, 6, 7] ⟨?_, ?_, rfl⟩
    · (repeat' (first | exact trivial | exact rfl | exact fun _ _ => rfl | exact fun _ _ _ _ => rfl | exact Or.inl rfl | exact Or.inr rfl | refine And.intro ?_ ?_))
      intro k hk
      show selL (decide (k = 0 + ((q : Nat) : Int).toNat)) (splice (manyR (fun i => t.dep m p.toNat (X.getD i noTru)) i (0 + ((q : Nat) : Int).toNat)) 0 [.int .i64 (((cntD (fun i => t.dep m p.toNat (X.getD i noTru)) ((0 + ((q : Nat) : Int).toNat : Nat) : Int) i : Nat) : Int) + 1)]) (manyR (fun i => t.dep m p.toNat (X.getD i noTru)) i k) = manyR (fun i => t.dep m p.toNat (X.getD i noTru)) (i + 1) k
      rw [e3]
      exact many_step _ i hq
    · (repeat' (first | exact trivial | exact rfl | exact congrArg (SV.int .i64) (Int.natCast_succ _).symm | refine And.intro ?_ ?_))
      exact congrArg (SV.int .i64) (out_q _ i hq e3)
  · have e : i = X.length := by
      have := of_decide_eq_false hc
      omega
    subst e
    (repeat' (first | exact trivial | exact fun _ => rfl | exact rfl | refine And.intro ?_ ?_))
    exact ent_tau [0, 1, 2, 3, 4, 5] ⟨by (repeat' (first | exact trivial | exact rfl | exact fun _ _ => rfl | exact fun _ _ _ _ => rfl | exact Or.inl rfl | exact Or.inr rfl | refine And.intro ?_ ?_)), by (repeat' (first | exact trivial | exact rfl | exact congrArg (SV.int .i64) (Int.natCast_succ _).symm | refine And.intro ?_ ?_)), rfl⟩
end Go.Proofs.YtipbempkngfdbaaGreatDoor
