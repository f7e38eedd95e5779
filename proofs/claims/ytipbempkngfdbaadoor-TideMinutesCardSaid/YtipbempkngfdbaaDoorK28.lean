/-
  Parts: G8, G12.
-/
import Derived.Test.YtipbempkngfdbaaDoorK26
set_option linter.unusedVariables false
/-
  Contract of the specification: depth.
-/
namespace Go.Proofs.YtipbempkngfdbaaDoor
open Go Go.Sy
set_option linter.unusedSimpArgs false
set_option maxRecDepth 100000
set_option maxHeartbeats 4000000
attribute [local irreducible] CallP CodeP Ent YieldP

theorem t100r (t : TD) (hv : t.Valid) {i k : Nat} (hi : i < t.hts.length) (hk : k < t.sds.length) (ca cb : Nat) (p m : Int) (hp : 0 ≤ p ∧ p < t.nS) (hm : t.isMin m) :
    CallP Tryd.prog 100 [t.A, .agg [.row 3 i t.nM ca, .row 4 k t.nS cb], .int .i64 p, .int .i64 m] (HP t) (Ret (.int .i64 (max0 (t.stand (hrow t.hts i) m - hrow t.sds k p.toNat))) (HP t)) := by
  have hM := hv.1
  have hS := hv.2.1
  refine CallP.entR (h1 := HP t ++ [some (.roa 1 t.nM fun m => [.int .i64 (hrow t.hts i m)])] ++ [some (.roa 1 t.nS fun m => [.int .i64 (hrow t.sds k m)])]) (v := .int .i64 (max0 (t.stand (hrow t.hts i) m - hrow t.sds k p.toNat))) ?_ ?_
  · refine CallP.row (j := 3) (args' := [t.A, .agg [.osl true 5 1 t.nM ca, .row 4 k t.nS cb], .int .i64 p, .int .i64 m]) rfl i hi (show 0 < t.nM by omega) ?_ ?_
    · intro η b h1 h2
      have h1' : η 5 = some (b, 0) := h1
      simp only [denL, den, h1', Option.map_some]
      have := h2 t.nM ca
      simp only [den] at this
      rw [this]
    refine CallP.row (j := 4) (args' := [t.A, .agg [.osl true 5 1 t.nM ca, .osl true 6 1 t.nS cb], .int .i64 p, .int .i64 m]) rfl k hk (show 0 < t.nS by omega) ?_ ?_
    · intro η b h1 h2
      have h1' : η 6 = some (b, 0) := h1
      simp only [denL, den, h1', Option.map_some]
      have := h2 t.nS cb
      simp only [den] at this
      rw [this]
    refine (t100 t hv (hrow t.hts i) (hrow t.sds k) (hrow_h hv hi) (hrow_s hv hk) t.nM t.nS ca cb (Nat.le_refl _) (by omega) (Nat.le_refl _) p m hp hm).use [0, 1, 2, 5, 6] ?_ (by (repeat' (first | exact trivial | exact rfl | exact fun _ _ => rfl | exact Or.inl rfl | refine And.intro ?_ ?_))) rfl
    exact ⟨rfl, rfl⟩
  · exact ent_tau [0, 1, 2, 3, 4] ⟨by (repeat' (first | exact trivial | exact rfl | exact fun _ _ => rfl | exact fun _ _ _ _ => rfl | exact Or.inl rfl | exact Or.inr rfl | refine And.intro ?_ ?_)), by (repeat' (first | exact trivial | exact rfl | exact congrArg (SV.int .i64) (Int.natCast_succ _).symm | refine And.intro ?_ ?_)), rfl⟩
/-- The tide's rows, a list of truths, and both pools. -/
def H54 (t : TD) (n : Nat) (ia ib ca cb : Nat → Nat) : SHeap := t.H ++ [some (.roa 2 n (rowsT 4 5 t.nM t.nS ia ib ca cb)), some (poolL false t.nM t.hts), some (poolL false t.nS t.sds)]
def pl54_5s : Plan := .eager 1 <| .eager 2 <| .eager 3 <| .eager 4 <| .eager 5 <| .eager 6 <| .eager 7 <| .alt 0 (.alt 8 (.alt 9 (.alt 10 .done .no) .no) .no) (.alt 8 (.alt 0 (.alt 9 (.alt 10 .done .no) .no) .no) .no)
theorem t54 (t : TD) (hv : t.Valid) (X : List Tru) (hX : ∀ x ∈ X, x ∈ t.tru) (ia ib ca cb : Nat → Nat) (hI : Idx t X ia ib) (hX2 : X.length ≤ 100000) (c : Nat) (p m : Int) (hp : 0 ≤ p ∧ p < t.nS) (hm : t.isMin m) :
    CallP Tryd.prog 54 [t.A, .slice 3 2 0 X.length c, .int .i64 p, .int .i64 m] (H54 t X.length ia ib ca cb)
      (Ret (.agg [.int .i64 (spL (t.dep m p.toNat) X).1, .int .i64 (spL (t.dep m p.toNat) X).2]) (H54 t X.length ia ib ca cb)) := by
  refine callR (E := E) E_ok Tryd.func54 rfl ?_
  refine And.intro ?_ ?_
  · (repeat' (first | exact trivial | exact fun _ => rfl | exact rfl | refine And.intro ?_ ?_))
  refine loopP E_ok [1, 2, 3, 4, 8, 9] (fun i : Nat => [(10, .int .i64 i)])
    (fun i _ => H54 t X.length ia ib ca cb ++ [some (.cells [.osl t.bM 0 3 t.nM t.cM, .osl t.bS 1 2 t.nS t.cS, .osl t.bL 2 4 t.nL t.cL]), some (.cells [.int .i64 0, .int .i64 0]), some (.cells [.int .i64 (spF (fun i => t.dep m p.toNat (X.getD i noTru)) i).1, .int .i64 (spF (fun i => t.dep m p.toNat (X.getD i noTru)) i).2])])
    (fun i => i ≤ X.length) (fun i => X.length - i) 0 (Nat.zero_le _) ?_ ?_
  · exact ent_tau [0, 1, 2, 3, 4, 5, 6, 7, 8] ⟨by (repeat' (first | exact trivial | exact rfl | exact fun _ _ => rfl | exact fun _ _ _ _ => rfl | exact Or.inl rfl | exact Or.inr rfl | refine And.intro ?_ ?_)), by (repeat' (first | exact trivial | exact rfl | exact congrArg (SV.int .i64) (Int.natCast_succ _).symm | refine And.intro ?_ ?_)), rfl⟩
  rintro i hi
  have e1 : 0 + ((i : Nat) : Int).toNat = i := by omega
  refine And.intro ?_ (And.intro (fun hc => ?_) (fun hc => ?_))
  · (repeat' (first | exact trivial | exact fun _ => rfl | exact rfl | refine And.intro ?_ ?_))
  · have hlt : i < X.length := by
      have := of_decide_eq_true hc
      omega
    have a := hI.a i hlt
    have b := hI.b i hlt
    have c100 : CallP Tryd.prog 100 [t.A, .agg [.row 3 (ia (0 + ((i : Nat) : Int).toNat)) t.nM (ca (0 + ((i : Nat) : Int).toNat)), .row 4 (ib (0 + ((i : Nat) : Int).toNat)) t.nS (cb (0 + ((i : Nat) : Int).toNat))], .int .i64 p, .int .i64 m] (HP t) (Ret (.int .i64 (t.dep m p.toNat (X.getD i noTru))) (HP t)) := by
      rw [e1, TD.dep, ← a.2, ← b.2]
      exact t100r t hv a.1 b.1 _ _ p m hp hm
    have hd := dep_range hv (show p.toNat < t.nS by omega) hm (hX _ (truD_mem hlt))
    refine And.intro trivial ?_
    refine drawP E_ok [6] pl54_5s (by kernel_rfl) ?_
    (repeat' (first | exact trivial | exact fun _ => rfl | exact rfl | refine And.intro ?_ ?_))
    all_goals first | omega | exact un (by omega) | skip
    all_goals refine c100.use [0, 1, 2, 4, 5] ?_ (by (repeat' (first | exact trivial | exact rfl | exact fun _ _ => rfl | exact fun _ _ _ _ => rfl | exact Or.inl rfl | exact Or.inr rfl | refine And.intro ?_ ?_))) rfl
    all_goals (repeat' (first | exact trivial | exact fun _ => rfl | exact rfl | refine And.intro ?_ ?_))
    all_goals first | omega | exact un (by omega) | skip
    all_goals refine (t99 _ _ _).use [] ?_ trivial rfl
    all_goals (repeat' (first | exact trivial | exact fun _ => rfl | exact rfl | refine And.intro ?_ ?_))
    all_goals first | omega | exact un (by omega) | skip
    all_goals refine ⟨i + 1, hlt, by omega, ?_⟩
    all_goals refine ent_tau [0, 1, 2, 3, 4, 5, 6, 7, 8] ⟨?_, ?_, rfl⟩
    all_goals first | (repeat' (first | exact trivial | exact rfl | exact fun _ _ => rfl | exact fun _ _ _ _ => rfl | exact Or.inl rfl | exact Or.inr rfl | refine And.intro ?_ ?_)) | skip
    all_goals (repeat' (first | exact trivial | exact rfl | exact congrArg (SV.int .i64) (Int.natCast_succ _).symm | refine And.intro ?_ ?_))
  · have e : i = X.length := by
      have := of_decide_eq_false hc
      omega
    subst e
    (repeat' (first | exact trivial | exact fun _ => rfl | exact rfl | refine And.intro ?_ ?_))
    exact ent_tau [0, 1, 2, 3, 4, 5] ⟨by (repeat' (first | exact trivial | exact rfl | exact fun _ _ => rfl | exact fun _ _ _ _ => rfl | exact Or.inl rfl | exact Or.inr rfl | refine And.intro ?_ ?_)), by (repeat' (first | exact trivial | exact rfl | exact congrArg (SV.int .i64) (Int.natCast_succ _).symm | refine And.intro ?_ ?_)), rfl⟩
end Go.Proofs.YtipbempkngfdbaaDoor
/-
  Contract of the specification: First.
-/
namespace Go.Proofs.YtipbempkngfdbaaDoor
open Go Go.Sy
set_option linter.unusedSimpArgs false
set_option maxRecDepth 100000
set_option maxHeartbeats 4000000
attribute [local irreducible] CallP CodeP Ent YieldP

theorem firstT_inv {t : TD} (hv : ¬ t.Valid) (p l m : Int) (s : Bool) : t.firstT p l m s = ⟨0, 1⟩ := by
  unfold TD.firstT
  rw [if_pos hv]
theorem firstT_arg {t : TD} (hv : t.Valid) {p l m : Int} (h : ¬ (t.isPl p ∧ (0 ≤ l ∧ l ≤ 60) ∧ t.isMin m)) (s : Bool) : t.firstT p l m s = ⟨0, 2⟩ := by
  unfold TD.firstT
  rw [if_neg (fun h => h hv), if_pos h]
theorem firstT_nil {t : TD} (hv : t.Valid) (hn : t.tru = []) {p l m : Int} (h : t.isPl p ∧ (0 ≤ l ∧ l ≤ 60) ∧ t.isMin m) (s : Bool) : t.firstT p l m s = ⟨0, 10⟩ := by
  unfold TD.firstT
  rw [if_neg (fun h => h hv), if_neg (fun h2 => h2 h), if_pos ((all_nil hv).2 hn)]
theorem ok_bif {lo hi l : Int} {s : Bool} (h : lo ≤ hi) : (bif decide (lo ≥ l) then true else bif !s then decide (hi ≥ l) else false) = if s = true then decide (l ≤ lo) else decide (l ≤ hi) := by
  by_cases h1 : l ≤ lo
  · have h2 : l ≤ hi := by omega
    cases s <;> simp [h1, h2]
  · cases s <;> simp [h1]
theorem t18 (t : TD) (ht : t.ok) (hlong : max (max t.nM t.nS) t.nL ≤ 40) (p l m : Int) (s : Bool) :
    CallP Tryd.prog 18 [t.A, .int .i64 p, .int .i64 l, .int .i64 m, .bool s] t.H (Ret (.tup [.int .i64 (t.firstT p l m s).v, .int .i64 (t.firstT p l m s).e]) t.H) := by
  have c52 := t52 t (by omega) p
  have c53 := t53 l
  have c58 := t58 t (by omega) m
  obtain ⟨a, ha⟩ : ∃ a, inB p 0 (t.nS - 1) = a := ⟨_, rfl⟩
  obtain ⟨b, hb⟩ : ∃ b, inB l 0 60 = b := ⟨_, rfl⟩
  obtain ⟨c, hc⟩ : ∃ c, (decide (0 < t.nM) && inB m (t.mi 0) (t.mi (t.nM - 1))) = c := ⟨_, rfl⟩
  rw [ha] at c52
  rw [hb] at c53
  rw [hc] at c58
  have arg : t.Valid → (a && (b && c)) = false → ¬ (t.isPl p ∧ (0 ≤ l ∧ l ≤ 60) ∧ t.isMin m) := fun hv h => by
    rintro ⟨h1, h2, h3⟩
    have e1 : a = true := by rw [← ha]; simp only [inB, Bool.and_eq_true, decide_eq_true_eq]; exact ⟨h1.1, h1.2⟩
    have e2 : b = true := by rw [← hb]; simp only [inB, Bool.and_eq_true, decide_eq_true_eq]; exact h2
    have e3 : c = true := by rw [← hc]; simp only [inB, Bool.and_eq_true, decide_eq_true_eq]; exact ⟨by have := hv.1; omega, h3.1, h3.2⟩
    rw [e1, e2, e3] at h
    cases h
  have good : t.Valid → (a && (b && c)) = true → t.isPl p ∧ (0 ≤ l ∧ l ≤ 60) ∧ t.isMin m := fun hv h => by
    simp only [Bool.and_eq_true] at h
    obtain ⟨h1, h2, h3⟩ := h
    rw [← ha] at h1
    rw [← hb] at h2
    rw [← hc] at h3
    simp only [inB, Bool.and_eq_true, decide_eq_true_eq] at h1 h2 h3
    exact ⟨⟨h1.1, h1.2⟩, h2, h3.2⟩
  refine callR (E := E) E_ok Tryd.func18 rfl ?_
  refine And.intro ?_ ?_
  · (repeat' (first | exact trivial | exact fun _ => rfl | exact rfl | refine And.intro ?_ ?_))
  refine drawP E_ok [3] pl18_1 (by kernel_rfl) ?_
  refine And.intro (And.intro ?_ ?_) trivial
  · (repeat' (first | exact True.intro | exact d1 _ | exact d1t _ | exact d2 _ | exact d3 _ _ | exact d3f _ _ | exact fun _ _ => rfl | exact fun _ => rfl | exact rfl | refine And.intro ?_ ?_))
  refine c52.use [0, 1, 2] ?_ (by (repeat' (first | exact trivial | exact rfl | exact fun _ _ => rfl | exact Or.inl rfl | refine And.intro ?_ ?_))) rfl
  cases a with
  | false =>
    refine And.intro (And.intro ?_ (And.intro (fun hgd => absurd hgd (by decide)) (fun hgd => ?_))) trivial
    · (repeat' (first | exact True.intro | exact d1 _ | exact d1t _ | exact d2 _ | exact d3 _ _ | exact d3f _ _ | exact fun _ _ => rfl | exact fun _ => rfl | exact rfl | refine And.intro ?_ ?_))
    refine And.intro (And.intro ?_ (And.intro (fun hgd => absurd hgd (by decide)) (fun hgd => ?_))) trivial
    · (repeat' (first | exact True.intro | exact d1 _ | exact d1t _ | exact d2 _ | exact d3 _ _ | exact d3f _ _ | exact fun _ _ => rfl | exact fun _ => rfl | exact rfl | refine And.intro ?_ ?_))
    refine And.intro (And.intro ?_ ?_) trivial
    · (repeat' (first | exact True.intro | exact d1 _ | exact d1t _ | exact d2 _ | exact d3 _ _ | exact d3f _ _ | exact fun _ _ => rfl | exact fun _ => rfl | exact rfl | refine And.intro ?_ ?_))
    refine CallP.frameH (t51 t ht false) [0, 1, 2] (by (repeat' (first | exact trivial | exact rfl | exact fun _ _ => rfl | exact Or.inl rfl | refine And.intro ?_ ?_))) rfl ?_
    rintro ce h' (⟨hv, rfl, rfl⟩ | ⟨hv, hf, rfl, rfl⟩ | ⟨hv, hf, hX, rfl, rfl⟩ | ⟨hv, hf, hX, c2, ia, ib, ca, cb, hI, hc2, rfl, rfl⟩)
    · refine ⟨rfl, ?_⟩
      refine And.intro ?_ ?_
      · (repeat' (first | exact True.intro | exact d1 _ | exact d1t _ | exact d2 _ | exact d3 _ _ | exact d3f _ _ | exact fun _ _ => rfl | exact fun _ => rfl | exact rfl | refine And.intro ?_ ?_))
      refine And.intro rfl ?_
      refine And.intro ?_ (And.intro (fun h3 => ?_) (fun h3 => ?_))
      · (repeat' (first | exact trivial | exact fun _ => rfl | exact rfl | refine And.intro ?_ ?_))
      · have e := firstT_inv hv p l m s
        (repeat' (first | exact trivial | exact fun _ => rfl | exact rfl | refine And.intro ?_ ?_))
        rw [e]
        exact ent_tau [0, 1, 2] ⟨by (repeat' (first | exact trivial | exact rfl | exact fun _ _ => rfl | exact Or.inl rfl | refine And.intro ?_ ?_)), by (repeat' (first | exact trivial | exact rfl | exact congrArg (SV.int .i64) (Int.natCast_succ _).symm | refine And.intro ?_ ?_)), rfl⟩
      · exact absurd h3 (by decide)
    · refine ⟨rfl, ?_⟩
      refine And.intro ?_ ?_
      · (repeat' (first | exact True.intro | exact d1 _ | exact d1t _ | exact d2 _ | exact d3 _ _ | exact d3f _ _ | exact fun _ _ => rfl | exact fun _ => rfl | exact rfl | refine And.intro ?_ ?_))
      refine And.intro rfl ?_
      refine And.intro ?_ (And.intro (fun h3 => ?_) (fun h3 => ?_))
      · (repeat' (first | exact trivial | exact fun _ => rfl | exact rfl | refine And.intro ?_ ?_))
      · have e := firstT_arg hv (arg hv (by rfl)) s
        (repeat' (first | exact trivial | exact fun _ => rfl | exact rfl | refine And.intro ?_ ?_))
        rw [e]
        exact ent_tau [0, 1, 2] ⟨by (repeat' (first | exact trivial | exact rfl | exact fun _ _ => rfl | exact Or.inl rfl | refine And.intro ?_ ?_)), by (repeat' (first | exact trivial | exact rfl | exact congrArg (SV.int .i64) (Int.natCast_succ _).symm | refine And.intro ?_ ?_)), rfl⟩
      · exact absurd h3 (by decide)
    · cases hf
    · cases hf
  | true =>
    refine And.intro (And.intro ?_ (And.intro (fun hgd => ?_) (fun hgd => absurd hgd (by decide)))) trivial
    · (repeat' (first | exact True.intro | exact d1 _ | exact d1t _ | exact d2 _ | exact d3 _ _ | exact d3f _ _ | exact fun _ _ => rfl | exact fun _ => rfl | exact rfl | refine And.intro ?_ ?_))
    refine c53.use [] ?_ trivial rfl
    cases b with
    | false =>
      refine And.intro (And.intro ?_ (And.intro (fun hgd => absurd hgd (by decide)) (fun hgd => ?_))) trivial
      · (repeat' (first | exact True.intro | exact d1 _ | exact d1t _ | exact d2 _ | exact d3 _ _ | exact d3f _ _ | exact fun _ _ => rfl | exact fun _ => rfl | exact rfl | refine And.intro ?_ ?_))
      refine And.intro (And.intro ?_ ?_) trivial
      · (repeat' (first | exact True.intro | exact d1 _ | exact d1t _ | exact d2 _ | exact d3 _ _ | exact d3f _ _ | exact fun _ _ => rfl | exact fun _ => rfl | exact rfl | refine And.intro ?_ ?_))
      refine CallP.frameH (t51 t ht false) [0, 1, 2] (by (repeat' (first | exact trivial | exact rfl | exact fun _ _ => rfl | exact Or.inl rfl | refine And.intro ?_ ?_))) rfl ?_
      rintro ce h' (⟨hv, rfl, rfl⟩ | ⟨hv, hf, rfl, rfl⟩ | ⟨hv, hf, hX, rfl, rfl⟩ | ⟨hv, hf, hX, c2, ia, ib, ca, cb, hI, hc2, rfl, rfl⟩)
      · refine ⟨rfl, ?_⟩
        refine And.intro ?_ ?_
        · (repeat' (first | exact True.intro | exact d1 _ | exact d1t _ | exact d2 _ | exact d3 _ _ | exact d3f _ _ | exact fun _ _ => rfl | exact fun _ => rfl | exact rfl | refine And.intro ?_ ?_))
        refine And.intro rfl ?_
        refine And.intro ?_ (And.intro (fun h3 => ?_) (fun h3 => ?_))
        · (repeat' (first | exact trivial | exact fun _ => rfl | exact rfl | refine And.intro ?_ ?_))
        · have e := firstT_inv hv p l m s
          (repeat' (first | exact trivial | exact fun _ => rfl | exact rfl | refine And.intro ?_ ?_))
          rw [e]
          exact ent_tau [0, 1, 2] ⟨by (repeat' (first | exact trivial | exact rfl | exact fun _ _ => rfl | exact Or.inl rfl | refine And.intro ?_ ?_)), by (repeat' (first | exact trivial | exact rfl | exact congrArg (SV.int .i64) (Int.natCast_succ _).symm | refine And.intro ?_ ?_)), rfl⟩
        · exact absurd h3 (by decide)
      · refine ⟨rfl, ?_⟩
        refine And.intro ?_ ?_
        · (repeat' (first | exact True.intro | exact d1 _ | exact d1t _ | exact d2 _ | exact d3 _ _ | exact d3f _ _ | exact fun _ _ => rfl | exact fun _ => rfl | exact rfl | refine And.intro ?_ ?_))
        refine And.intro rfl ?_
        refine And.intro ?_ (And.intro (fun h3 => ?_) (fun h3 => ?_))
        · (repeat' (first | exact trivial | exact fun _ => rfl | exact rfl | refine And.intro ?_ ?_))
        · have e := firstT_arg hv (arg hv (by rfl)) s
          (repeat' (first | exact trivial | exact fun _ => rfl | exact rfl | refine And.intro ?_ ?_))
          rw [e]
          exact ent_tau [0, 1, 2] ⟨by (repeat' (first | exact trivial | exact rfl | exact fun _ _ => rfl | exact Or.inl rfl | refine And.intro ?_ ?_)), by (repeat' (first | exact trivial | exact rfl | exact congrArg (SV.int .i64) (Int.natCast_succ _).symm | refine And.intro ?_ ?_)), rfl⟩
        · exact absurd h3 (by decide)
      · cases hf
      · cases hf
    | true =>
      refine And.intro (And.intro ?_ (And.intro (fun hgd => ?_) (fun hgd => absurd hgd (by decide)))) trivial
      · (repeat' (first | exact True.intro | exact d1 _ | exact d1t _ | exact d2 _ | exact d3 _ _ | exact d3f _ _ | exact fun _ _ => rfl | exact fun _ => rfl | exact rfl | refine And.intro ?_ ?_))
      refine c58.use [0, 1, 2] ?_ (by (repeat' (first | exact trivial | exact rfl | exact fun _ _ => rfl | exact Or.inl rfl | refine And.intro ?_ ?_))) rfl
      refine And.intro (And.intro ?_ ?_) trivial
      · (repeat' (first | exact True.intro | exact d1 _ | exact d1t _ | exact d2 _ | exact d3 _ _ | exact d3f _ _ | exact fun _ _ => rfl | exact fun _ => rfl | exact rfl | refine And.intro ?_ ?_))
      refine CallP.frameH (t51 t ht c) [0, 1, 2] (by (repeat' (first | exact trivial | exact rfl | exact fun _ _ => rfl | exact Or.inl rfl | refine And.intro ?_ ?_))) rfl ?_
      rintro ce h' (⟨hv, rfl, rfl⟩ | ⟨hv, hf, rfl, rfl⟩ | ⟨hv, hf, hX, rfl, rfl⟩ | ⟨hv, hf, hX, c2, ia, ib, ca, cb, hI, hc2, rfl, rfl⟩)
      · refine ⟨rfl, ?_⟩
        refine And.intro ?_ ?_
        · (repeat' (first | exact True.intro | exact d1 _ | exact d1t _ | exact d2 _ | exact d3 _ _ | exact d3f _ _ | exact fun _ _ => rfl | exact fun _ => rfl | exact rfl | refine And.intro ?_ ?_))
        refine And.intro rfl ?_
        refine And.intro ?_ (And.intro (fun h3 => ?_) (fun h3 => ?_))
        · (repeat' (first | exact trivial | exact fun _ => rfl | exact rfl | refine And.intro ?_ ?_))
        · have e := firstT_inv hv p l m s
          (repeat' (first | exact trivial | exact fun _ => rfl | exact rfl | refine And.intro ?_ ?_))
          rw [e]
          exact ent_tau [0, 1, 2] ⟨by (repeat' (first | exact trivial | exact rfl | exact fun _ _ => rfl | exact Or.inl rfl | refine And.intro ?_ ?_)), by (repeat' (first | exact trivial | exact rfl | exact congrArg (SV.int .i64) (Int.natCast_succ _).symm | refine And.intro ?_ ?_)), rfl⟩
        · exact absurd h3 (by decide)
      · refine ⟨rfl, ?_⟩
        refine And.intro ?_ ?_
        · (repeat' (first | exact True.intro | exact d1 _ | exact d1t _ | exact d2 _ | exact d3 _ _ | exact d3f _ _ | exact fun _ _ => rfl | exact fun _ => rfl | exact rfl | refine And.intro ?_ ?_))
        refine And.intro rfl ?_
        refine And.intro ?_ (And.intro (fun h3 => ?_) (fun h3 => ?_))
        · (repeat' (first | exact trivial | exact fun _ => rfl | exact rfl | refine And.intro ?_ ?_))
        · have e := firstT_arg hv (arg hv (by rw [hf]; rfl)) s
          (repeat' (first | exact trivial | exact fun _ => rfl | exact rfl | refine And.intro ?_ ?_))
          rw [e]
          exact ent_tau [0, 1, 2] ⟨by (repeat' (first | exact trivial | exact rfl | exact fun _ _ => rfl | exact Or.inl rfl | refine And.intro ?_ ?_)), by (repeat' (first | exact trivial | exact rfl | exact congrArg (SV.int .i64) (Int.natCast_succ _).symm | refine And.intro ?_ ?_)), rfl⟩
        · exact absurd h3 (by decide)
      · refine ⟨rfl, ?_⟩
        refine And.intro ?_ ?_
        · (repeat' (first | exact True.intro | exact d1 _ | exact d1t _ | exact d2 _ | exact d3 _ _ | exact d3f _ _ | exact fun _ _ => rfl | exact fun _ => rfl | exact rfl | refine And.intro ?_ ?_))
        refine And.intro rfl ?_
        refine And.intro ?_ (And.intro (fun h3 => ?_) (fun h3 => ?_))
        · (repeat' (first | exact trivial | exact fun _ => rfl | exact rfl | refine And.intro ?_ ?_))
        · have e := firstT_nil hv hX (good hv (by rw [hf]; rfl)) s
          (repeat' (first | exact trivial | exact fun _ => rfl | exact rfl | refine And.intro ?_ ?_))
          rw [e]
          exact ent_tau [0, 1, 2] ⟨by (repeat' (first | exact trivial | exact rfl | exact fun _ _ => rfl | exact Or.inl rfl | refine And.intro ?_ ?_)), by (repeat' (first | exact trivial | exact rfl | exact congrArg (SV.int .i64) (Int.natCast_succ _).symm | refine And.intro ?_ ?_)), rfl⟩
        · exact absurd h3 (by decide)
      · obtain ⟨g1, g2, g3⟩ := good hv (by rw [hf]; rfl)
        refine ⟨rfl, ?_⟩
        refine And.intro ?_ ?_
        · (repeat' (first | exact True.intro | exact d1 _ | exact d1t _ | exact d2 _ | exact d3 _ _ | exact d3f _ _ | exact fun _ _ => rfl | exact fun _ => rfl | exact rfl | refine And.intro ?_ ?_))
        refine And.intro rfl ?_
        refine And.intro ?_ (And.intro (fun h3 => ?_) (fun h3 => ?_))
        · (repeat' (first | exact trivial | exact fun _ => rfl | exact rfl | refine And.intro ?_ ?_))
        · exact absurd h3 (by decide)
        have hM := hv.1
        have hpn : p.toNat < t.nS := by
          have := g1.1
          have := g1.2
          omega
        have ep : ((p.toNat : Nat) : Int) = p := by have := g1.1; omega
        have hpl : 0 ≤ p ∧ p < t.nS := by omega
        have hlast := g3.2
        have h0 := g3.1
        have mk1 := (hv.marks (i := 0) (by omega)).1
        have mk2 := (hv.marks (i := t.nM - 1) (by omega)).1
        have eL : t.mi (0 + ((t.nM : Int) - 1).toNat) = t.mi (t.nM - 1) := by rw [show 0 + ((t.nM : Int) - 1).toNat = t.nM - 1 by omega]
        have fr : t.firstT p l m s = firstF (okR t p.toNat l s) (t.mi (t.nM - 1) - m + 1).toNat m := by
          have := first_ref hv hX hpn g2 g3 s
          rwa [ep] at this
        refine And.intro trivial ?_
        refine loopP E_ok [1, 2, 4, 5, 12] (fun x : Int => [(14, .int .i64 x)]) (fun _ _ => t.H ++ [some (.cells [.osl t.bM 0 3 t.nM t.cM, .osl t.bS 1 2 t.nS t.cS, .osl t.bL 2 4 t.nL t.cL]), some (.arr 2 t.tru.length c2 (rowsT 5 6 t.nM t.nS ia ib ca cb)), some (poolL true t.nM t.hts), some (poolL true t.nS t.sds)])
          (fun x => (m ≤ x ∧ x ≤ t.mi (t.nM - 1) + 1) ∧ t.firstT p l m s = firstF (okR t p.toNat l s) (t.mi (t.nM - 1) - x + 1).toNat x) (fun x => (t.mi (t.nM - 1) - x + 1).toNat) m ⟨⟨Int.le_refl _, by omega⟩, fr⟩ ?_ ?_
        · refine ent_tau [0, 1, 2, 3, 4, 5, 6] ⟨?_, ?_, rfl⟩
          · (repeat' (first | exact trivial | exact rfl | exact fun _ _ => rfl | exact fun _ _ _ _ => rfl | exact Or.inl rfl | exact Or.inr rfl | refine And.intro ?_ ?_))
          · (repeat' (first | exact trivial | exact rfl | exact congrArg (SV.int .i64) (Int.natCast_succ _).symm | refine And.intro ?_ ?_))
        rintro x ⟨⟨hx1, hx2⟩, hF⟩
        refine And.intro ?_ (And.intro (fun hcc => ?_) (fun hcc => ?_))
        · (repeat' (first | exact trivial | exact fun _ => rfl | exact rfl | refine And.intro ?_ ?_))
          all_goals first | omega | exact un (by omega)
        · have hle : x ≤ t.mi (t.nM - 1) := by
            rw [eL] at hcc
            exact of_decide_eq_true hcc
          have hx : t.isMin x := ⟨by omega, hle⟩
          have D := dep_sp hv hX hpn hx
          have hlo : (spL (t.dep x p.toNat) t.tru).1 ≤ (spL (t.dep x p.toNat) t.tru).2 := by
            obtain ⟨y, hy⟩ := List.exists_mem_of_ne_nil _ hX
            have := D.bnd y hy
            omega
          have eo := ok_bif (s := s) (l := l) hlo
          have ec : (t.mi (t.nM - 1) - x + 1).toNat = (t.mi (t.nM - 1) - (x + 1) + 1).toNat + 1 := by omega
          refine And.intro ?_ ?_
          · (repeat' (first | exact trivial | exact fun _ => rfl | exact rfl | refine And.intro ?_ ?_))
          refine (t54 t hv t.tru (fun _ h => h) ia ib ca cb hI (Nat.le_trans (tru_len hv) (by decide)) c2 p x hpl hx).use [0, 1, 2, 4, 5, 6] ?_ (by (repeat' (first | exact trivial | exact rfl | exact fun _ _ => rfl | exact fun _ _ _ _ => rfl | exact Or.inl rfl | exact Or.inr rfl | refine And.intro ?_ ?_))) rfl
          refine And.intro ?_ (And.intro (fun hok => ?_) (fun hok => ?_))
          · (repeat' (first | exact True.intro | exact d1 _ | exact d1t _ | exact d2 _ | exact d3 _ _ | exact d3f _ _ | exact fun _ _ => rfl | exact fun _ => rfl | exact rfl | refine And.intro ?_ ?_))

          · have hk : okR t p.toNat l s x = true := by
              unfold okR
              rw [← eo]
              exact hok
            have e : t.firstT p l m s = ⟨x, 0⟩ := by rw [hF, ec, firstF, if_pos hk]
            (repeat' (first | exact trivial | exact fun _ => rfl | exact rfl | refine And.intro ?_ ?_))
            rw [e]
            exact ent_tau [0, 1, 2] ⟨by (repeat' (first | exact trivial | exact rfl | exact fun _ _ => rfl | exact Or.inl rfl | refine And.intro ?_ ?_)), by (repeat' (first | exact trivial | exact rfl | exact congrArg (SV.int .i64) (Int.natCast_succ _).symm | refine And.intro ?_ ?_)), rfl⟩
          · have hk : okR t p.toNat l s x = false := by
              unfold okR
              rw [← eo]
              exact hok
            refine And.intro ?_ ?_
            · (repeat' (first | exact trivial | exact fun _ => rfl | exact rfl | refine And.intro ?_ ?_))
              all_goals omega
            refine ⟨x + 1, ⟨⟨by omega, by omega⟩, ?_⟩, by omega, ?_⟩
            · rw [hF, ec, firstF, if_neg (by rw [hk]; decide)]
            refine ent_tau [0, 1, 2, 3, 4, 5, 6] ⟨?_, ?_, rfl⟩
            · (repeat' (first | exact trivial | exact rfl | exact fun _ _ => rfl | exact fun _ _ _ _ => rfl | exact Or.inl rfl | exact Or.inr rfl | refine And.intro ?_ ?_))
            · (repeat' (first | exact trivial | exact rfl | exact congrArg (SV.int .i64) (Int.natCast_succ _).symm | refine And.intro ?_ ?_))
        · have e : x = t.mi (t.nM - 1) + 1 := by
            rw [eL] at hcc
            have := of_decide_eq_false hcc
            omega
          have e2 : t.firstT p l m s = ⟨0, 4⟩ := by
            rw [hF, e, show (t.mi (t.nM - 1) - (t.mi (t.nM - 1) + 1) + 1).toNat = 0 by omega]
            rfl
          (repeat' (first | exact trivial | exact fun _ => rfl | exact rfl | refine And.intro ?_ ?_))
          rw [e2]
          exact ent_tau [0, 1, 2] ⟨by (repeat' (first | exact trivial | exact rfl | exact fun _ _ => rfl | exact Or.inl rfl | refine And.intro ?_ ?_)), by (repeat' (first | exact trivial | exact rfl | exact congrArg (SV.int .i64) (Int.natCast_succ _).symm | refine And.intro ?_ ?_)), rfl⟩
end Go.Proofs.YtipbempkngfdbaaDoor
