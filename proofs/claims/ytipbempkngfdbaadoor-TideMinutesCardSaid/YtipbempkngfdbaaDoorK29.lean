/-
  Parts: G13, G11, G14.
-/
import Derived.Test.YtipbempkngfdbaaDoorK28
import Derived.Test.YtipbempkngfdbaaDoorK27
set_option linter.unusedVariables false
/-
  Contract of the specification: Served.
-/
namespace Go.Proofs.YtipbempkngfdbaaDoor
open Go Go.Sy
set_option linter.unusedSimpArgs false
set_option maxRecDepth 100000
set_option maxHeartbeats 4000000
attribute [local irreducible] CallP CodeP Ent YieldP

theorem servedT_inv {t : TD} (hv : ¬ t.Valid) (p l h : Int) : t.servedT p l h = ⟨[], 1⟩ := by
  unfold TD.servedT
  rw [if_pos hv]
theorem servedT_arg {t : TD} (hv : t.Valid) {p l h : Int} (hh : ¬ (t.isPl p ∧ (0 ≤ l ∧ l ≤ 60) ∧ (0 ≤ h ∧ h ≤ 60))) : t.servedT p l h = ⟨[], 2⟩ := by
  unfold TD.servedT
  rw [if_neg (fun h => h hv), if_pos hh]
theorem servedT_nil {t : TD} (hv : t.Valid) (hn : t.tru = []) {p l h : Int} (hh : t.isPl p ∧ (0 ≤ l ∧ l ≤ 60) ∧ (0 ≤ h ∧ h ≤ 60)) : t.servedT p l h = ⟨[], 10⟩ := by
  unfold TD.servedT
  rw [if_neg (fun h => h hv), if_neg (fun h2 => h2 hh), if_pos ((all_nil hv).2 hn)]
/-- A slice of spans, and an error. -/
def K16 (t : TD) (r : Told (List (Int × Int))) : CE → SHeap → Prop := fun ce h' =>
  (r.v = [] ∧ ce = .ret (.tup [.snil, .int .i64 r.e]) ∧ h' = t.H) ∨ (0 < r.v.length ∧ ∃ cap, (r.v.length ≤ cap ∧ cap ≤ 9223372036854775807) ∧ ce = .ret (.tup [.slice 3 2 0 r.v.length cap, .int .i64 r.e]) ∧ h' = t.H ++ [some (.arr 2 r.v.length cap (prow r.v))])
/-- What is known in the loop. -/
structure IS (t : TD) (p : Nat) (l h : Int) (x : Int) (n : Nat) (o : List (Int × Int)) (c : Nat) : Prop where
  len : n = o.length
  x0 : t.mi 0 + n ≤ x
  x1 : x ≤ t.mi (t.nM - 1) + 1
  cap : 0 < n → n ≤ c ∧ c ≤ 9223372036854775807
  val : ∀ i, i < n → 0 ≤ (o.getD i (0, 0)).2 ∧ (o.getD i (0, 0)).2 < x
  eq : servF (goodR t p l h) (t.mi (t.nM - 1) - t.mi 0 + 1).toNat (t.mi 0) [] = servF (goodR t p l h) (t.mi (t.nM - 1) - x + 1).toNat x o
theorem IS.start (t : TD) (p : Nat) (l h : Int) (h0 : t.mi 0 ≤ t.mi (t.nM - 1)) : IS t p l h (t.mi 0) 0 [] 0 :=
  ⟨rfl, by simp, by omega, fun h => absurd h (Nat.lt_irrefl 0), fun i hi => absurd hi (Nat.not_lt_zero i), rfl⟩
theorem IS.bad {t : TD} {p : Nat} {l h x : Int} {n c : Nat} {o : List (Int × Int)} (I : IS t p l h x n o c) (hx : x ≤ t.mi (t.nM - 1)) (hg : goodR t p l h x = false) : IS t p l h (x + 1) n o c := by
  have a := I.x0
  refine ⟨I.len, by omega, by omega, I.cap, fun i hi => ?_, ?_⟩
  · have := I.val i hi
    omega
  · rw [I.eq, show (t.mi (t.nM - 1) - x + 1).toNat = (t.mi (t.nM - 1) - (x + 1) + 1).toNat + 1 by omega, servF, hg]
    rfl
theorem IS.add {t : TD} {p : Nat} {l h x : Int} {n c c' : Nat} {o : List (Int × Int)} (I : IS t p l h x n o c) (h0 : 0 ≤ t.mi 0) (hx : x ≤ t.mi (t.nM - 1)) (hg : goodR t p l h x = true) (hd : ¬ (0 < n ∧ (o.getD (o.length - 1) (0, 0)).2 + 1 = x)) (hc : n + 1 ≤ c' ∧ c' ≤ 9223372036854775807) : IS t p l h (x + 1) (n + 1) (o ++ [(x, x)]) c' := by
  have a := I.x0
  have hl := I.len
  refine ⟨by rw [List.length_append, List.length_singleton, ← hl], by omega, by omega, fun _ => hc, fun i hi => ?_, ?_⟩
  · rw [getD_app, ← hl]
    split
    · rename_i h4
      have := I.val i h4
      omega
    · rw [if_pos (by omega)]
      show 0 ≤ x ∧ x < x + 1
      omega
  · rw [I.eq, show (t.mi (t.nM - 1) - x + 1).toNat = (t.mi (t.nM - 1) - (x + 1) + 1).toNat + 1 by omega, servF, hg]
    congr 1
    unfold stepS
    rw [if_neg (by decide), if_neg (by rw [← hl] at hd ⊢; exact hd)]
theorem IS.more {t : TD} {p : Nat} {l h x : Int} {n c : Nat} {o : List (Int × Int)} (I : IS t p l h x n o c) (h0 : 0 ≤ t.mi 0) (hx : x ≤ t.mi (t.nM - 1)) (hg : goodR t p l h x = true) (hn : 0 < n) (hd : (o.getD (n - 1) (0, 0)).2 + 1 = x) : IS t p l h (x + 1) n (o.set (n - 1) ((o.getD (n - 1) (0, 0)).1, x)) c := by
  have a := I.x0
  have hl := I.len
  refine ⟨by rw [List.length_set, ← hl], by omega, by omega, I.cap, fun i hi => ?_, ?_⟩
  · rw [getD_set o _ _ _ (by omega)]
    split
    · show 0 ≤ x ∧ x < x + 1
      omega
    · have := I.val i hi
      omega
  · rw [I.eq, show (t.mi (t.nM - 1) - x + 1).toNat = (t.mi (t.nM - 1) - (x + 1) + 1).toNat + 1 by omega, servF, hg]
    congr 1
    unfold stepS
    rw [if_neg (by decide), if_pos (by rw [← hl]; exact ⟨hn, hd⟩), ← hl, hd]
theorem good_bif (t : TD) (p : Nat) (l h x : Int) : (bif decide ((spL (t.dep x p) t.tru).1 < l) then true else decide ((spL (t.dep x p) t.tru).2 > h)) = !goodR t p l h x := by
  unfold goodR
  by_cases h1 : l ≤ (spL (t.dep x p) t.tru).1
  · have h2 : ¬ (spL (t.dep x p) t.tru).1 < l := by omega
    by_cases h3 : (spL (t.dep x p) t.tru).2 ≤ h
    · have h4 : ¬ (spL (t.dep x p) t.tru).2 > h := by omega
      simp [h1, h2, h3, h4]
    · have h4 : (spL (t.dep x p) t.tru).2 > h := by omega
      simp [h1, h2, h3, h4]
  · have h2 : (spL (t.dep x p) t.tru).1 < l := by omega
    simp [h1, h2]
theorem prow_push {σ : Nat → Nat} {o : List (Int × Int)} {n k : Nat} {x : Int} (hn : n = o.length) (hk : k < n + 1) {b : Nat → List SV} (h2 : b 0 = [.int .i64 x, .int .i64 x]) : selL (decide (k < n)) (prow o k) (b (0 + (k - n))) = renL σ (prow (o ++ [(x, x)]) k) := by
  subst hn
  rcases Nat.lt_succ_iff_lt_or_eq.1 hk with h | rfl
  · rw [decide_eq_true h, selL_true, prow, prow, getD_app, if_pos h]
    rfl
  · rw [decide_eq_false (Nat.lt_irrefl _), selL_false, Nat.sub_self, h2, prow, getD_app, if_neg (Nat.lt_irrefl _), if_pos rfl]
    rfl
theorem t16 (t : TD) (ht : t.ok) (hlong : max (max t.nM t.nS) t.nL ≤ 40) (p l h : Int) :
    CallP Tryd.prog 16 [t.A, .int .i64 p, .int .i64 l, .int .i64 h] t.H (K16 t (t.servedT p l h)) := by
  have c52 := t52 t (by omega) p
  have c53 := t53 l
  have c58 := t53 h
  obtain ⟨a, ha⟩ : ∃ a, inB p 0 (t.nS - 1) = a := ⟨_, rfl⟩
  obtain ⟨b, hb⟩ : ∃ b, inB l 0 60 = b := ⟨_, rfl⟩
  obtain ⟨c, hc⟩ : ∃ c, inB h 0 60 = c := ⟨_, rfl⟩
  rw [ha] at c52
  rw [hb] at c53
  rw [hc] at c58
  have arg : t.Valid → (a && (b && c)) = false → ¬ (t.isPl p ∧ (0 ≤ l ∧ l ≤ 60) ∧ (0 ≤ h ∧ h ≤ 60)) := fun hv hh => by
    rintro ⟨h1, h2, h3⟩
    have e1 : a = true := by rw [← ha]; simp only [inB, Bool.and_eq_true, decide_eq_true_eq]; exact ⟨h1.1, h1.2⟩
    have e2 : b = true := by rw [← hb]; simp only [inB, Bool.and_eq_true, decide_eq_true_eq]; exact h2
    have e3 : c = true := by rw [← hc]; simp only [inB, Bool.and_eq_true, decide_eq_true_eq]; exact h3
    rw [e1, e2, e3] at hh
    cases hh
  have good : t.Valid → (a && (b && c)) = true → t.isPl p ∧ (0 ≤ l ∧ l ≤ 60) ∧ (0 ≤ h ∧ h ≤ 60) := fun hv hh => by
    simp only [Bool.and_eq_true] at hh
    obtain ⟨h1, h2, h3⟩ := hh
    rw [← ha] at h1
    rw [← hb] at h2
    rw [← hc] at h3
    simp only [inB, Bool.and_eq_true, decide_eq_true_eq] at h1 h2 h3
    exact ⟨⟨h1.1, h1.2⟩, h2, h3⟩
  refine callK (E := E) E_ok Tryd.func16 rfl ?_
  refine And.intro ?_ ?_
  · (repeat' (first | exact trivial | exact fun _ => rfl | exact rfl | refine And.intro ?_ ?_))
  refine drawP E_ok [3] pl16_1 (by kernel_rfl) ?_
  refine And.intro (And.intro ?_ ?_) trivial
  · (repeat' (first | exact True.intro | exact d1 _ | exact d1t _ | exact d2 _ | exact d3 _ _ | exact d3f _ _ | exact fun _ _ => rfl | exact fun _ => rfl | exact rfl | refine And.intro ?_ ?_))
  refine c52.use [0, 1, 2] ?_ (by (repeat' (first | exact trivial | exact rfl | exact fun _ _ => rfl | exact Or.inl rfl | refine And.intro ?_ ?_))) rfl
  cases a with
  | false =>
    refine And.intro (And.intro ?_ (And.intro (fun hgd => absurd hgd (by decide)) (fun hgd => ?_))) trivial
    · (repeat' (first | exact True.intro | exact d1 _ | exact d1t _ | exact d2 _ | exact d3 _ _ | exact d3f _ _ | exact fun _ _ => rfl | exact fun _ => rfl | exact rfl | refine And.intro ?_ ?_))
    refine And.intro (And.intro ?_ (And.intro (fun hgd => absurd hgd (by decide)) (fun hgd => ?_))) trivial
    · (repeat' (first | exact True.intro | exact d1 _ | exact d1t _ | exact d2 _ | exact d3 _ _ | exact d3f _ _ | exact fun _ _ => rfl | exact fun _ => rfl | exact rfl | refine And.intro ?_ ?_))
    refine And.intro (And.intro ?_ ?_) trivial
    · (repeat' (first | exact True.intro | exact d1 _ | exact d1t _ | exact d2 _ | exact d3 _ _ | exact d3f _ _ | exact fun _ _ => rfl | exact fun _ => rfl | exact rfl | refine And.intro ?_ ?_))
    refine CallP.frameH (t51 t ht false) [0, 1, 2] (by (repeat' (first | exact trivial | exact rfl | exact fun _ _ => rfl | exact Or.inl rfl | refine And.intro ?_ ?_))) rfl ?_
    rintro ce h' (⟨hv, rfl, rfl⟩ | ⟨hv, hf, rfl, rfl⟩ | ⟨hv, hf, hX, rfl, rfl⟩ | ⟨hv, hf, hX, c2, ia, ib, ca, cb, hI, hc2, rfl, rfl⟩)
    · refine ⟨rfl, ?_⟩
      refine And.intro ?_ ?_
      · (repeat' (first | exact True.intro | exact d1 _ | exact d1t _ | exact d2 _ | exact d3 _ _ | exact d3f _ _ | exact fun _ _ => rfl | exact fun _ => rfl | exact rfl | refine And.intro ?_ ?_))
      refine And.intro rfl ?_
      refine And.intro ?_ (And.intro (fun h3 => ?_) (fun h3 => ?_))
      · (repeat' (first | exact trivial | exact fun _ => rfl | exact rfl | refine And.intro ?_ ?_))
      · have e := servedT_inv hv p l h
        rw [e]
        (repeat' (first | exact trivial | exact fun _ => rfl | exact rfl | refine And.intro ?_ ?_))
        refine ⟨_, t.H, .inl ⟨rfl, rfl, rfl⟩, ?_⟩
        exact ent_tau [0, 1, 2] ⟨by (repeat' (first | exact trivial | exact rfl | exact fun _ _ => rfl | exact Or.inl rfl | refine And.intro ?_ ?_)), by (repeat' (first | exact trivial | exact rfl | exact congrArg (SV.int .i64) (Int.natCast_succ _).symm | refine And.intro ?_ ?_)), rfl⟩
      · exact absurd h3 (by decide)
    · refine ⟨rfl, ?_⟩
      refine And.intro ?_ ?_
      · (repeat' (first | exact True.intro | exact d1 _ | exact d1t _ | exact d2 _ | exact d3 _ _ | exact d3f _ _ | exact fun _ _ => rfl | exact fun _ => rfl | exact rfl | refine And.intro ?_ ?_))
      refine And.intro rfl ?_
      refine And.intro ?_ (And.intro (fun h3 => ?_) (fun h3 => ?_))
      · (repeat' (first | exact trivial | exact fun _ => rfl | exact rfl | refine And.intro ?_ ?_))
      · have e := servedT_arg hv (arg hv (by rfl))
        rw [e]
        (repeat' (first | exact trivial | exact fun _ => rfl | exact rfl | refine And.intro ?_ ?_))
        refine ⟨_, t.H, .inl ⟨rfl, rfl, rfl⟩, ?_⟩
        exact ent_tau [0, 1, 2] ⟨by (repeat' (first | exact trivial | exact rfl | exact fun _ _ => rfl | exact Or.inl rfl | refine And.intro ?_ ?_)), by (repeat' (first | exact trivial | exact rfl | exact congrArg (SV.int .i64) (Int.natCast_succ _).symm | refine And.intro ?_ ?_)), rfl⟩
      · exact absurd h3 (by decide)
    · cases hf
    · cases hf
  | true =>
    refine And.intro (And.intro ?_ (And.intro (fun hgd => ?_) (fun hgd => absurd hgd (by decide)))) trivial
    · (repeat' (first | exact True.intro | exact d1 _ | exact d1t _ | exact d2 _ | exact d3 _ _ | exact d3f _ _ | exact fun _ _ => rfl | exact fun _ => rfl | exact rfl | refine And.intro ?_ ?_))
    refine c53.use [] ?_ trivial rfl
    cases b with
    | false =>
      refine And.intro (And.intro ?_ (And.intro (fun hgd => absurd hgd (by decide)) (fun hgd => ?_))) trivial
      · (repeat' (first | exact True.intro | exact d1 _ | exact d1t _ | exact d2 _ | exact d3 _ _ | exact d3f _ _ | exact fun _ _ => rfl | exact fun _ => rfl | exact rfl | refine And.intro ?_ ?_))
      refine And.intro (And.intro ?_ ?_) trivial
      · (repeat' (first | exact True.intro | exact d1 _ | exact d1t _ | exact d2 _ | exact d3 _ _ | exact d3f _ _ | exact fun _ _ => rfl | exact fun _ => rfl | exact rfl | refine And.intro ?_ ?_))
      refine CallP.frameH (t51 t ht false) [0, 1, 2] (by (repeat' (first | exact trivial | exact rfl | exact fun _ _ => rfl | exact Or.inl rfl | refine And.intro ?_ ?_))) rfl ?_
      rintro ce h' (⟨hv, rfl, rfl⟩ | ⟨hv, hf, rfl, rfl⟩ | ⟨hv, hf, hX, rfl, rfl⟩ | ⟨hv, hf, hX, c2, ia, ib, ca, cb, hI, hc2, rfl, rfl⟩)
      · refine ⟨rfl, ?_⟩
        refine And.intro ?_ ?_
        · (repeat' (first | exact True.intro | exact d1 _ | exact d1t _ | exact d2 _ | exact d3 _ _ | exact d3f _ _ | exact fun _ _ => rfl | exact fun _ => rfl | exact rfl | refine And.intro ?_ ?_))
        refine And.intro rfl ?_
        refine And.intro ?_ (And.intro (fun h3 => ?_) (fun h3 => ?_))
        · (repeat' (first | exact trivial | exact fun _ => rfl | exact rfl | refine And.intro ?_ ?_))
        · have e := servedT_inv hv p l h
          rw [e]
          (repeat' (first | exact trivial | exact fun _ => rfl | exact rfl | refine And.intro ?_ ?_))
          refine ⟨_, t.H, .inl ⟨rfl, rfl, rfl⟩, ?_⟩
          exact ent_tau [0, 1, 2] ⟨by (repeat' (first | exact trivial | exact rfl | exact fun _ _ => rfl | exact Or.inl rfl | refine And.intro ?_ ?_)), by (repeat' (first | exact trivial | exact rfl | exact congrArg (SV.int .i64) (Int.natCast_succ _).symm | refine And.intro ?_ ?_)), rfl⟩
        · exact absurd h3 (by decide)
      · refine ⟨rfl, ?_⟩
        refine And.intro ?_ ?_
        · (repeat' (first | exact True.intro | exact d1 _ | exact d1t _ | exact d2 _ | exact d3 _ _ | exact d3f _ _ | exact fun _ _ => rfl | exact fun _ => rfl | exact rfl | refine And.intro ?_ ?_))
        refine And.intro rfl ?_
        refine And.intro ?_ (And.intro (fun h3 => ?_) (fun h3 => ?_))
        · (repeat' (first | exact trivial | exact fun _ => rfl | exact rfl | refine And.intro ?_ ?_))
        · have e := servedT_arg hv (arg hv (by rfl))
          rw [e]
          (repeat' (first | exact trivial | exact fun _ => rfl | exact rfl | refine And.intro ?_ ?_))
          refine ⟨_, t.H, .inl ⟨rfl, rfl, rfl⟩, ?_⟩
          exact ent_tau [0, 1, 2] ⟨by (repeat' (first | exact trivial | exact rfl | exact fun _ _ => rfl | exact Or.inl rfl | refine And.intro ?_ ?_)), by (repeat' (first | exact trivial | exact rfl | exact congrArg (SV.int .i64) (Int.natCast_succ _).symm | refine And.intro ?_ ?_)), rfl⟩
        · exact absurd h3 (by decide)
      · cases hf
      · cases hf
    | true =>
      refine And.intro (And.intro ?_ (And.intro (fun hgd => ?_) (fun hgd => absurd hgd (by decide)))) trivial
      · (repeat' (first | exact True.intro | exact d1 _ | exact d1t _ | exact d2 _ | exact d3 _ _ | exact d3f _ _ | exact fun _ _ => rfl | exact fun _ => rfl | exact rfl | refine And.intro ?_ ?_))
      refine c58.use [] ?_ trivial rfl
      refine And.intro (And.intro ?_ ?_) trivial
      · (repeat' (first | exact True.intro | exact d1 _ | exact d1t _ | exact d2 _ | exact d3 _ _ | exact d3f _ _ | exact fun _ _ => rfl | exact fun _ => rfl | exact rfl | refine And.intro ?_ ?_))
      refine CallP.frameH (t51 t ht c) [0, 1, 2] (by (repeat' (first | exact trivial | exact rfl | exact fun _ _ => rfl | exact Or.inl rfl | refine And.intro ?_ ?_))) rfl ?_
      rintro ce h' (⟨hv, rfl, rfl⟩ | ⟨hv, hf, rfl, rfl⟩ | ⟨hv, hf, hX, rfl, rfl⟩ | ⟨hv, hf, hX, c2, ia, ib, ca, cb, hI, hc2, rfl, rfl⟩)
      · refine ⟨rfl, ?_⟩
        refine And.intro ?_ ?_
        · (repeat' (first | exact True.intro | exact d1 _ | exact d1t _ | exact d2 _ | exact d3 _ _ | exact d3f _ _ | exact fun _ _ => rfl | exact fun _ => rfl | exact rfl | refine And.intro ?_ ?_))
        refine And.intro rfl ?_
        refine And.intro ?_ (And.intro (fun h3 => ?_) (fun h3 => ?_))
        · (repeat' (first | exact trivial | exact fun _ => rfl | exact rfl | refine And.intro ?_ ?_))
        · have e := servedT_inv hv p l h
          rw [e]
          (repeat' (first | exact trivial | exact fun _ => rfl | exact rfl | refine And.intro ?_ ?_))
          refine ⟨_, t.H, .inl ⟨rfl, rfl, rfl⟩, ?_⟩
          exact ent_tau [0, 1, 2] ⟨by (repeat' (first | exact trivial | exact rfl | exact fun _ _ => rfl | exact Or.inl rfl | refine And.intro ?_ ?_)), by (repeat' (first | exact trivial | exact rfl | exact congrArg (SV.int .i64) (Int.natCast_succ _).symm | refine And.intro ?_ ?_)), rfl⟩
        · exact absurd h3 (by decide)
      · refine ⟨rfl, ?_⟩
        refine And.intro ?_ ?_
        · (repeat' (first | exact True.intro | exact d1 _ | exact d1t _ | exact d2 _ | exact d3 _ _ | exact d3f _ _ | exact fun _ _ => rfl | exact fun _ => rfl | exact rfl | refine And.intro ?_ ?_))
        refine And.intro rfl ?_
        refine And.intro ?_ (And.intro (fun h3 => ?_) (fun h3 => ?_))
        · (repeat' (first | exact trivial | exact fun _ => rfl | exact rfl | refine And.intro ?_ ?_))
        · have e := servedT_arg hv (arg hv (by rw [hf]; rfl))
          rw [e]
          (repeat' (first | exact trivial | exact fun _ => rfl | exact rfl | refine And.intro ?_ ?_))
          refine ⟨_, t.H, .inl ⟨rfl, rfl, rfl⟩, ?_⟩
          exact ent_tau [0, 1, 2] ⟨by (repeat' (first | exact trivial | exact rfl | exact fun _ _ => rfl | exact Or.inl rfl | refine And.intro ?_ ?_)), by (repeat' (first | exact trivial | exact rfl | exact congrArg (SV.int .i64) (Int.natCast_succ _).symm | refine And.intro ?_ ?_)), rfl⟩
        · exact absurd h3 (by decide)
      · refine ⟨rfl, ?_⟩
        refine And.intro ?_ ?_
        · (repeat' (first | exact True.intro | exact d1 _ | exact d1t _ | exact d2 _ | exact d3 _ _ | exact d3f _ _ | exact fun _ _ => rfl | exact fun _ => rfl | exact rfl | refine And.intro ?_ ?_))
        refine And.intro rfl ?_
        refine And.intro ?_ (And.intro (fun h3 => ?_) (fun h3 => ?_))
        · (repeat' (first | exact trivial | exact fun _ => rfl | exact rfl | refine And.intro ?_ ?_))
        · have e := servedT_nil hv hX (good hv (by rw [hf]; rfl))
          rw [e]
          (repeat' (first | exact trivial | exact fun _ => rfl | exact rfl | refine And.intro ?_ ?_))
          refine ⟨_, t.H, .inl ⟨rfl, rfl, rfl⟩, ?_⟩
          exact ent_tau [0, 1, 2] ⟨by (repeat' (first | exact trivial | exact rfl | exact fun _ _ => rfl | exact Or.inl rfl | refine And.intro ?_ ?_)), by (repeat' (first | exact trivial | exact rfl | exact congrArg (SV.int .i64) (Int.natCast_succ _).symm | refine And.intro ?_ ?_)), rfl⟩
        · exact absurd h3 (by decide)
      · obtain ⟨g1, g2, g3⟩ := good hv (by rw [hf]; rfl)
        refine ⟨rfl, ?_⟩
        refine And.intro ?_ ?_
        · (repeat' (first | exact True.intro | exact d1 _ | exact d1t _ | exact d2 _ | exact d3 _ _ | exact d3f _ _ | exact fun _ _ => rfl | exact fun _ => rfl | exact rfl | refine And.intro ?_ ?_))
        refine And.intro rfl ?_
        refine And.intro ?_ (And.intro (fun h3 => ?_) (fun h3 => ?_))
        · (repeat' (first | exact trivial | exact fun _ => rfl | exact rfl | refine And.intro ?_ ?_))
        · exact absurd h3 (by decide)
        have hM := hv.1
        have hpn : p.toNat < t.nS := by
          have := g1.1
          have := g1.2
          omega
        have ep : ((p.toNat : Nat) : Int) = p := by have := g1.1; omega
        have hpl : 0 ≤ p ∧ p < t.nS := by omega
        have mk1 := (hv.marks (i := 0) (by omega)).1
        have mk2 := (hv.marks (i := t.nM - 1) (by omega)).1
        have mle : t.mi 0 ≤ t.mi (t.nM - 1) := mi_le hv (Nat.zero_le _) (by omega)
        have eL : t.mi (0 + ((t.nM : Int) - 1).toNat) = t.mi (t.nM - 1) := by rw [show 0 + ((t.nM : Int) - 1).toNat = t.nM - 1 by omega]
        have fr : t.servedT p l h = ⟨servF (goodR t p.toNat l h) (t.mi (t.nM - 1) - t.mi 0 + 1).toNat (t.mi 0) [], 0⟩ := by
          have := served_ref hv hX hpn g2 g3
          rwa [ep] at this
        rw [fr]
        refine And.intro ?_ ?_
        · (repeat' (first | exact trivial | exact fun _ => rfl | exact rfl | refine And.intro ?_ ?_))
          all_goals first | omega | exact un (by omega)
        refine loopP E_ok [1, 2, 3, 4, 10] (fun g : Int × Nat × List (Int × Int) × Nat => [(12, match g.2.1 with | 0 => .snil | _ + 1 => .slice 7 2 0 g.2.1 g.2.2.2), (13, .int .i64 g.1)])
          (fun g _ => match g.2.1 with
            | 0 => t.H ++ [some (.cells [.osl t.bM 0 3 t.nM t.cM, .osl t.bS 1 2 t.nS t.cS, .osl t.bL 2 4 t.nL t.cL]), some (.arr 2 t.tru.length c2 (rowsT 5 6 t.nM t.nS ia ib ca cb)), some (poolL true t.nM t.hts), some (poolL true t.nS t.sds)]
            | _ + 1 => t.H ++ [some (.cells [.osl t.bM 0 3 t.nM t.cM, .osl t.bS 1 2 t.nS t.cS, .osl t.bL 2 4 t.nL t.cL]), some (.arr 2 t.tru.length c2 (rowsT 5 6 t.nM t.nS ia ib ca cb)), some (poolL true t.nM t.hts), some (poolL true t.nS t.sds), some (.arr 2 g.2.1 g.2.2.2 (prow g.2.2.1))])
          (fun g => IS t p.toNat l h g.1 g.2.1 g.2.2.1 g.2.2.2) (fun g => (t.mi (t.nM - 1) - g.1 + 1).toNat) (t.mi 0, 0, [], 0) (IS.start t _ _ _ mle) ?_ ?_
        · refine ent_tau [0, 1, 2, 3, 4, 5, 6] ⟨?_, ?_, rfl⟩
          · (repeat' (first | exact trivial | exact rfl | exact fun _ _ => rfl | exact fun _ _ _ _ => rfl | exact Or.inl rfl | exact Or.inr rfl | refine And.intro ?_ ?_))
          · (repeat' (first | exact trivial | exact rfl | exact congrArg (SV.int .i64) (Int.natCast_succ _).symm | refine And.intro ?_ ?_))
        rintro ⟨x, n, o, c3⟩ I
        simp only at I
        have hx0 := I.x0
        have hx1 := I.x1
        have hln := I.len
        cases n with
        | zero =>
          obtain rfl : o = [] := List.length_eq_zero_iff.1 hln.symm
          refine And.intro ?_ (And.intro (fun hcc => ?_) (fun hcc => ?_))
          · (repeat' (first | exact trivial | exact fun _ => rfl | exact rfl | refine And.intro ?_ ?_))
            all_goals first | omega | exact un (by omega)
          · have hle : x ≤ t.mi (t.nM - 1) := by
              rw [eL] at hcc
              exact of_decide_eq_true hcc
            have hx : t.isMin x := ⟨by omega, hle⟩
            have eg := good_bif t p.toNat l h x
            refine And.intro ?_ ?_
            · (repeat' (first | exact trivial | exact fun _ => rfl | exact rfl | refine And.intro ?_ ?_))
            refine (t54 t hv t.tru (fun _ h => h) ia ib ca cb hI (Nat.le_trans (tru_len hv) (by decide)) c2 p x hpl hx).use [0, 1, 2, 4, 5, 6] ?_ (by (repeat' (first | exact trivial | exact rfl | exact fun _ _ => rfl | exact fun _ _ _ _ => rfl | exact Or.inl rfl | exact Or.inr rfl | refine And.intro ?_ ?_))) rfl
            refine And.intro ?_ (And.intro (fun hok => ?_) (fun hok => ?_))
            · (repeat' (first | exact True.intro | exact d1 _ | exact d1t _ | exact d2 _ | exact d3 _ _ | exact d3f _ _ | exact fun _ _ => rfl | exact fun _ => rfl | exact rfl | refine And.intro ?_ ?_))
            · have hg : goodR t p.toNat l h x = false := by
                have h2 := eg.symm.trans hok
                cases hgr : goodR t p.toNat l h x
                · rfl
                · rw [hgr] at h2
                  cases h2
              refine And.intro ?_ ?_
              · (repeat' (first | exact trivial | exact fun _ => rfl | exact rfl | refine And.intro ?_ ?_))
                all_goals (simp only; omega)
              refine ⟨(x + 1, 0, [], c3), I.bad hle hg, by simp only; omega, ?_⟩
              refine ent_tau [0, 1, 2, 3, 4, 5, 6] ⟨?_, ?_, rfl⟩
              · (repeat' (first | exact trivial | exact rfl | exact fun _ _ => rfl | exact fun _ _ _ _ => rfl | exact Or.inl rfl | exact Or.inr rfl | refine And.intro ?_ ?_))
              · (repeat' (first | exact trivial | exact rfl | exact congrArg (SV.int .i64) (Int.natCast_succ _).symm | refine And.intro ?_ ?_))
            · have hg : goodR t p.toNat l h x = true := by
                have h2 := eg.symm.trans hok
                cases hgr : goodR t p.toNat l h x
                · rw [hgr] at h2
                  cases h2
                · rfl
              refine And.intro ?_ (And.intro (fun hd => ?_) (fun hd => ?_))
              · (repeat' (first | exact True.intro | exact d1 _ | exact d1t _ | exact d2 _ | exact d3 _ _ | exact d3f _ _ | exact fun _ _ => rfl | exact fun _ => rfl | exact rfl | refine And.intro ?_ ?_))
                all_goals first | exact fun hg2 => absurd hg2 (by decide)
              · exact absurd (show (bif decide ((0 : Int) > 0) then decide ((0 : Int) = x - 1) else false) = true from hd) (by simp)
              · (repeat' (first | exact trivial | exact fun _ => rfl | exact rfl | refine And.intro ?_ ?_))
                all_goals first | decide | (show 1 * 16 ≤ 140737488355328; omega) | skip
                intro c4 h41 h42
                refine And.intro ?_ ?_
                · (repeat' (first | exact trivial | exact fun _ => rfl | exact rfl | refine And.intro ?_ ?_))
                  all_goals (simp only; omega)
                refine ⟨(x + 1, 0 + 1, [(x, x)], c4), I.add mk1.1 hle hg (fun h => absurd h.1 (Nat.lt_irrefl 0)) ⟨h41, h42⟩, by simp only; omega, ?_⟩
                refine ent_tau [0, 1, 2, 3, 4, 5, 6, 9] ⟨?_, ?_, rfl⟩
                · (repeat' (first | exact trivial | exact rfl | exact fun _ _ => rfl | exact fun _ _ _ _ => rfl | exact Or.inl rfl | exact Or.inr rfl | refine And.intro ?_ ?_))
                  exact fun k hk => by
                    obtain rfl : k = 0 := Nat.lt_one_iff.1 hk
                    rfl
                · (repeat' (first | exact trivial | exact rfl | exact congrArg (SV.int .i64) (Int.natCast_succ _).symm | refine And.intro ?_ ?_))
          · have h1 : x = t.mi (t.nM - 1) + 1 := by
              rw [eL] at hcc
              have := of_decide_eq_false hcc
              omega
            have hF := I.eq
            rw [h1, show (t.mi (t.nM - 1) - (t.mi (t.nM - 1) + 1) + 1).toNat = 0 by omega, servF] at hF
            (repeat' (first | exact trivial | exact fun _ => rfl | exact rfl | refine And.intro ?_ ?_))
            refine ⟨_, t.H, .inl ⟨hF, rfl, rfl⟩, ?_⟩
            exact ent_tau [0, 1, 2] ⟨by (repeat' (first | exact trivial | exact rfl | exact fun _ _ => rfl | exact Or.inl rfl | refine And.intro ?_ ?_)), by (repeat' (first | exact trivial | exact rfl | exact congrArg (SV.int .i64) (Int.natCast_succ _).symm | refine And.intro ?_ ?_)), rfl⟩
        | succ n =>
          obtain ⟨hc31, hc32⟩ := I.cap (Nat.succ_pos n)
          refine And.intro ?_ (And.intro (fun hcc => ?_) (fun hcc => ?_))
          · (repeat' (first | exact trivial | exact fun _ => rfl | exact rfl | refine And.intro ?_ ?_))
            all_goals first | omega | exact un (by omega)
          · have hle : x ≤ t.mi (t.nM - 1) := by
              rw [eL] at hcc
              exact of_decide_eq_true hcc
            have hx : t.isMin x := ⟨by omega, hle⟩
            have eg := good_bif t p.toNat l h x
            refine And.intro ?_ ?_
            · (repeat' (first | exact trivial | exact fun _ => rfl | exact rfl | refine And.intro ?_ ?_))
            refine (t54 t hv t.tru (fun _ h => h) ia ib ca cb hI (Nat.le_trans (tru_len hv) (by decide)) c2 p x hpl hx).use [0, 1, 2, 4, 5, 6] ?_ (by (repeat' (first | exact trivial | exact rfl | exact fun _ _ => rfl | exact fun _ _ _ _ => rfl | exact Or.inl rfl | exact Or.inr rfl | refine And.intro ?_ ?_))) rfl
            refine And.intro ?_ (And.intro (fun hok => ?_) (fun hok => ?_))
            · (repeat' (first | exact True.intro | exact d1 _ | exact d1t _ | exact d2 _ | exact d3 _ _ | exact d3f _ _ | exact fun _ _ => rfl | exact fun _ => rfl | exact rfl | refine And.intro ?_ ?_))
            · have hg : goodR t p.toNat l h x = false := by
                have h2 := eg.symm.trans hok
                cases hgr : goodR t p.toNat l h x
                · rfl
                · rw [hgr] at h2
                  cases h2
              refine And.intro ?_ ?_
              · (repeat' (first | exact trivial | exact fun _ => rfl | exact rfl | refine And.intro ?_ ?_))
                all_goals (simp only; omega)
              refine ⟨(x + 1, n + 1, o, c3), I.bad hle hg, by simp only; omega, ?_⟩
              refine ent_tau [0, 1, 2, 3, 4, 5, 6, 7] ⟨?_, ?_, rfl⟩
              · (repeat' (first | exact trivial | exact rfl | exact fun _ _ => rfl | exact fun _ _ _ _ => rfl | exact Or.inl rfl | exact Or.inr rfl | refine And.intro ?_ ?_))
              · (repeat' (first | exact trivial | exact rfl | exact congrArg (SV.int .i64) (Int.natCast_succ _).symm | refine And.intro ?_ ?_))
            · have hg : goodR t p.toNat l h x = true := by
                have h2 := eg.symm.trans hok
                cases hgr : goodR t p.toNat l h x
                · rw [hgr] at h2
                  cases h2
                · rfl
              have ei : 0 + (((n + 1 : Nat) : Int) - 1).toNat = n := by omega
              have hval := I.val n (by omega)
              refine And.intro ?_ (And.intro (fun hd => ?_) (fun hd => ?_))
              · (repeat' (first | exact True.intro | exact d1 _ | exact d1t _ | exact d2 _ | exact d3 _ _ | exact d3f _ _ | exact fun _ _ => rfl | exact fun _ => rfl | exact rfl | refine And.intro ?_ ?_))
                all_goals first | exact d4 ((inR_iff _).2 ⟨by simp only; omega, by simp only; omega⟩) | exact d4 (by simp only; omega)
              · have hd2 : (bif decide (((n + 1 : Nat) : Int) > 0) then decide ((o.getD (0 + (((n + 1 : Nat) : Int) - 1).toNat) (0, 0)).2 = x - 1) else false) = true := hd
                rw [ei, decide_eq_true (show ((n + 1 : Nat) : Int) > 0 by omega), cond_true, decide_eq_true_eq] at hd2
                refine And.intro ?_ ?_
                · (repeat' (first | exact trivial | exact fun _ => rfl | exact rfl | refine And.intro ?_ ?_))
                  all_goals first | (simp only; omega) | exact un (by simp only; omega) | exact un ((inR_iff _).2 ⟨by simp only; omega, by simp only; omega⟩)
                refine ⟨(x + 1, n + 1, o.set n ((o.getD n (0, 0)).1, x), c3), I.more mk1.1 hle hg (Nat.succ_pos n) (show (o.getD n (0, 0)).2 + 1 = x by omega), by simp only; omega, ?_⟩
                refine ent_tau [0, 1, 2, 3, 4, 5, 6, 7] ⟨?_, ?_, rfl⟩
                · (repeat' (first | exact trivial | exact rfl | exact fun _ _ => rfl | exact fun _ _ _ _ => rfl | exact Or.inl rfl | exact Or.inr rfl | refine And.intro ?_ ?_))
                  exact fun i hi => show selL (decide (i = 0 + (((n + 1 : Nat) : Int) - 1).toNat)) (splice (prow o (0 + (((n + 1 : Nat) : Int) - 1).toNat)) 1 [.int .i64 x]) (prow o i) = prow (o.set n ((o.getD n (0, 0)).1, x)) i from by
                    rw [ei]
                    exact prow_set o n i x (by omega)
                · (repeat' (first | exact trivial | exact rfl | exact congrArg (SV.int .i64) (Int.natCast_succ _).symm | refine And.intro ?_ ?_))
              · have hd2 : (bif decide (((n + 1 : Nat) : Int) > 0) then decide ((o.getD (0 + (((n + 1 : Nat) : Int) - 1).toNat) (0, 0)).2 = x - 1) else false) = false := hd
                rw [ei, decide_eq_true (show ((n + 1 : Nat) : Int) > 0 by omega), cond_true, decide_eq_false_iff_not] at hd2
                have hnl : o.length - 1 = n := by omega
                (repeat' (first | exact trivial | exact fun _ => rfl | exact rfl | refine And.intro ?_ ?_))
                all_goals first | exact Nat.le_refl _ | exact hc32 | exact one1L rfl | (show (n + 1 + 1) * 16 ≤ 140737488355328; omega) | skip
                intro c4 h41 h42
                refine And.intro ?_ ?_
                · (repeat' (first | exact trivial | exact fun _ => rfl | exact rfl | refine And.intro ?_ ?_))
                  all_goals (simp only; omega)
                refine ⟨(x + 1, n + 1 + 1, o ++ [(x, x)], c4), I.add mk1.1 hle hg (fun h => by have := h.2; rw [hnl] at this; omega) ⟨h41, h42⟩, by simp only; omega, ?_⟩
                refine ent_tau [0, 1, 2, 3, 4, 5, 6, 10] ⟨?_, ?_, rfl⟩
                · (repeat' (first | exact trivial | exact rfl | exact fun _ _ => rfl | exact fun _ _ _ _ => rfl | exact Or.inl rfl | exact Or.inr rfl | refine And.intro ?_ ?_))
                  exact fun i hi => prow_push hln hi rfl
                · (repeat' (first | exact trivial | exact rfl | exact congrArg (SV.int .i64) (Int.natCast_succ _).symm | refine And.intro ?_ ?_))
          · have h1 : x = t.mi (t.nM - 1) + 1 := by
              rw [eL] at hcc
              have := of_decide_eq_false hcc
              omega
            have hF := I.eq
            rw [h1, show (t.mi (t.nM - 1) - (t.mi (t.nM - 1) + 1) + 1).toNat = 0 by omega, servF] at hF
            (repeat' (first | exact trivial | exact fun _ => rfl | exact rfl | refine And.intro ?_ ?_))
            refine ⟨.ret (.tup [.slice 3 2 0 (n + 1) c3, .int .i64 0]), t.H ++ [some (.arr 2 (n + 1) c3 (prow o))], .inr ⟨?_, c3, ⟨?_, hc32⟩, ?_, ?_⟩, ?_⟩
            · show 0 < (servF (goodR t p.toNat l h) (t.mi (t.nM - 1) - t.mi 0 + 1).toNat (t.mi 0) []).length
              rw [hF, ← hln]
              exact Nat.succ_pos n
            · show (servF (goodR t p.toNat l h) (t.mi (t.nM - 1) - t.mi 0 + 1).toNat (t.mi 0) []).length ≤ c3
              rw [hF, ← hln]
              exact hc31
            · show _ = CE.ret (.tup [.slice 3 2 0 (servF (goodR t p.toNat l h) (t.mi (t.nM - 1) - t.mi 0 + 1).toNat (t.mi 0) []).length c3, .int .i64 0])
              rw [hF, ← hln]
            · show _ = t.H ++ [some (.arr 2 (servF (goodR t p.toNat l h) (t.mi (t.nM - 1) - t.mi 0 + 1).toNat (t.mi 0) []).length c3 (prow (servF (goodR t p.toNat l h) (t.mi (t.nM - 1) - t.mi 0 + 1).toNat (t.mi 0) [])))]
              rw [hF, ← hln]
            refine ent_tau [0, 1, 2, 7] ⟨?_, ?_, rfl⟩
            · (repeat' (first | exact trivial | exact rfl | exact fun _ _ => rfl | exact fun _ _ _ _ => rfl | exact Or.inl rfl | exact Or.inr rfl | refine And.intro ?_ ?_))
            · (repeat' (first | exact trivial | exact rfl | exact congrArg (SV.int .i64) (Int.natCast_succ _).symm | refine And.intro ?_ ?_))
end Go.Proofs.YtipbempkngfdbaaDoor
/-
  Contract: heavy: where it says no, no list is long.
-/
namespace Go.Proofs.YtipbempkngfdbaaDoor
open Go Go.Sy
set_option linter.unusedSimpArgs false
set_option maxRecDepth 100000
set_option maxHeartbeats 4000000
attribute [local irreducible] CallP CodeP Ent YieldP
theorem t13s (t : TD) (ht : t.ok) (ways : Int) : CallP Tryd.prog 13 [t.A, .int .i64 ways] t.H (fun ce h' => ∃ b, (b = false → max (max t.nM t.nS) t.nL ≤ 40) ∧ ce = .ret (.bool b) ∧ h' = t.H) := by
  refine callK (E := E) E_ok Tryd.func13 rfl ?_
  refine And.intro ?_ ?_
  · simp [AllP, under, gB, wB, inR_iff, IntKind.bits]
  refine (t33 t).use [0, 1, 2] ?_ (by (repeat' (first | exact trivial | exact rfl | exact fun _ _ => rfl | exact Or.inl rfl | refine And.intro ?_ ?_))) rfl
  refine And.intro ?_ (And.intro (fun hl => ?_) (fun hl => ?_))
  · simp [AllP, under, gB, wB, inR_iff, IntKind.bits]
  · refine (t34 t ht).use [0, 1, 2] ?_ (by (repeat' (first | exact trivial | exact rfl | exact fun _ _ => rfl | exact Or.inl rfl | refine And.intro ?_ ?_))) rfl
    refine And.intro ?_ (And.intro (fun hb => ?_) (fun hb => ?_))
    · simp [AllP, under, gB, wB, inR_iff, IntKind.bits]
    · refine And.intro trivial ?_
      refine (t33 t).use [0, 1, 2] ?_ (by (repeat' (first | exact trivial | exact rfl | exact fun _ _ => rfl | exact Or.inl rfl | refine And.intro ?_ ?_))) rfl
      refine And.intro ?_ ⟨.ret (.bool (decide (40 < max (max t.nM t.nS) t.nL))), t.H, ⟨_, fun h => by have := of_decide_eq_false h; omega, rfl, rfl⟩, ?_⟩
      · simp [AllP, under, gB, wB, inR_iff, IntKind.bits]
      exact ent_tau [0, 1, 2] ⟨by (repeat' (first | exact trivial | exact rfl | exact fun _ _ => rfl | exact Or.inl rfl | refine And.intro ?_ ?_)), by (repeat' (first | exact trivial | exact rfl | exact congrArg (SV.int .i64) (Int.natCast_succ _).symm | refine And.intro ?_ ?_)), rfl⟩
    · have hv : t.Valid := by
        cases hc : decide (40 < max (max t.nM t.nS) t.nL)
        · rw [hc] at hb
          have hb2 : (!t.valid) = false := hb
          simpa [TD.valid] using hb2
        · rw [hc] at hb
          cases hb
      have hM := hv.1
      have hS := hv.2.1
      refine And.intro ?_ ?_
      · simp [AllP, under, gB, wB, inR_iff, IntKind.bits]
      refine loopP E_ok [1, 2, 4, 20, 21] (fun g : Nat × Int => [(5, .int .i64 g.2), (22, .int .i64 g.1)]) (fun _ H => H) (fun g => g.1 ≤ t.nM ∧ 0 ≤ g.2 ∧ g.2 ≤ 3 ^ g.1) (fun g => t.nM - g.1) (0, 1) ⟨Nat.zero_le _, by decide, by decide⟩ ?_ ?_
      · exact ent_tau [0, 1, 2, 3] ⟨by (repeat' (first | exact trivial | exact rfl | exact fun _ _ => rfl | exact Or.inl rfl | refine And.intro ?_ ?_)), by (repeat' (first | exact trivial | exact rfl | exact congrArg (SV.int .i64) (Int.natCast_succ _).symm | refine And.intro ?_ ?_)), rfl⟩
      · rintro ⟨k, n⟩ ⟨hk, hn0, hn⟩
        have p3 := pow3 (k := k) (by simp only at hk; omega)
        simp only at hk hn0 hn
        refine And.intro ?_ (And.intro (fun hc => ?_) (fun hc => ?_))
        · simp [AllP, under, gB, wB, inR_iff, IntKind.bits]
        · have hk' : k < t.nM := by
            have : (k : Int) < t.nM := by simpa using hc
            omega
          have mk := hv.marks (i := 0 + ((k : Int)).toNat) (by omega)
          simp only [TD.markOk] at mk
          have gr := grow3 (d := t.mhi (0 + ((k : Int)).toNat) - t.mlo (0 + ((k : Int)).toNat) + 1) hn0 hn (by omega) (by omega)
          have p4 := pow3 (k := k + 1) (by omega)
          refine And.intro ?_ ⟨(k + 1, n * (t.mhi (0 + ((k : Int)).toNat) - t.mlo (0 + ((k : Int)).toNat) + 1)), ⟨hk', gr.1, gr.2⟩, by simp only; omega, ?_⟩
          · simp only [AllP, under, inR_iff, and_true, true_and]
            (repeat' refine And.intro ?_ ?_) <;> omega
          · exact ent_tau [0, 1, 2, 3] ⟨by (repeat' (first | exact trivial | exact rfl | exact fun _ _ => rfl | exact Or.inl rfl | refine And.intro ?_ ?_)), by (repeat' (first | exact trivial | exact rfl | exact congrArg (SV.int .i64) (Int.natCast_succ _).symm | refine And.intro ?_ ?_)), rfl⟩
        · have hk' : k = t.nM := by
            have : ¬ ((k : Int) < t.nM) := by simpa using hc
            omega
          subst hk'
          refine And.intro ?_ ?_
          · simp [AllP, under, gB, wB, inR_iff, IntKind.bits]
          refine And.intro ?_ ?_
          · simp [AllP, under, gB, wB, inR_iff, IntKind.bits]
          refine loopP E_ok [1, 2, 4, 38, 39] (fun g : Nat × Int => [(5, .int .i64 g.2), (40, .int .i64 g.1)]) (fun _ H => H) (fun g => g.1 ≤ t.nS ∧ 0 ≤ g.2 ∧ g.2 ≤ 3 ^ (t.nM + g.1)) (fun g => t.nS - g.1) (0, n) ⟨Nat.zero_le _, hn0, hn⟩ ?_ ?_
          · exact ent_tau [0, 1, 2, 3] ⟨by (repeat' (first | exact trivial | exact rfl | exact fun _ _ => rfl | exact Or.inl rfl | refine And.intro ?_ ?_)), by (repeat' (first | exact trivial | exact rfl | exact congrArg (SV.int .i64) (Int.natCast_succ _).symm | refine And.intro ?_ ?_)), rfl⟩
          · rintro ⟨k, n⟩ ⟨hk, hn0, hn⟩
            have p3 := pow3 (k := t.nM + k) (by simp only at hk; omega)
            simp only at hk hn0 hn
            refine And.intro ?_ (And.intro (fun hc => ?_) (fun hc => ?_))
            · simp [AllP, under, gB, wB, inR_iff, IntKind.bits]
            · have hk' : k < t.nS := by
                have : (k : Int) < t.nS := by simpa using hc
                omega
              have mk := hv.2.2.2.2.1 (0 + ((k : Int)).toNat) (by omega)
              simp only [TD.sandOk] at mk
              have gr := grow3 (d := t.shi (0 + ((k : Int)).toNat) - t.slo (0 + ((k : Int)).toNat) + 1) hn0 hn (by omega) (by omega)
              have p4 := pow3 (k := t.nM + k + 1) (by omega)
              refine And.intro ?_ ⟨(k + 1, n * (t.shi (0 + ((k : Int)).toNat) - t.slo (0 + ((k : Int)).toNat) + 1)), ⟨hk', gr.1, gr.2⟩, by simp only; omega, ?_⟩
              · simp only [AllP, under, inR_iff, and_true, true_and]
                (repeat' refine And.intro ?_ ?_) <;> omega
              · exact ent_tau [0, 1, 2, 3] ⟨by (repeat' (first | exact trivial | exact rfl | exact fun _ _ => rfl | exact Or.inl rfl | refine And.intro ?_ ?_)), by (repeat' (first | exact trivial | exact rfl | exact congrArg (SV.int .i64) (Int.natCast_succ _).symm | refine And.intro ?_ ?_)), rfl⟩
            · refine And.intro trivial ?_
              refine And.intro trivial ?_
              refine ⟨.ret (.bool (decide (n > ways))), t.H, ⟨_, fun _ => by have := hv.1; have := hv.2.1; have := hv.2.2.1; omega, rfl, rfl⟩, ?_⟩
              exact ent_tau [0, 1, 2] ⟨by (repeat' (first | exact trivial | exact rfl | exact fun _ _ => rfl | exact Or.inl rfl | refine And.intro ?_ ?_)), by (repeat' (first | exact trivial | exact rfl | exact congrArg (SV.int .i64) (Int.natCast_succ _).symm | refine And.intro ?_ ?_)), rfl⟩
  · have hl2 : decide (40 < max (max t.nM t.nS) t.nL) = true := by
      cases hc : decide (40 < max (max t.nM t.nS) t.nL)
      · rw [hc] at hl
        cases hl
      · rfl
    refine And.intro ?_ (And.intro (fun hb => ?_) (fun hb => ?_))
    · refine And.intro ?_ ?_
      · simp [AllP, under, gB, wB, inR_iff, IntKind.bits]
      simp [AllP, under, gB, wB, inR_iff, IntKind.bits]
      have := of_decide_eq_true hl2
      omega
    · refine And.intro trivial ?_
      refine (t33 t).use [0, 1, 2] ?_ (by (repeat' (first | exact trivial | exact rfl | exact fun _ _ => rfl | exact Or.inl rfl | refine And.intro ?_ ?_))) rfl
      refine And.intro ?_ ⟨.ret (.bool (decide (40 < max (max t.nM t.nS) t.nL))), t.H, ⟨_, fun h => by have := of_decide_eq_false h; omega, rfl, rfl⟩, ?_⟩
      · simp [AllP, under, gB, wB, inR_iff, IntKind.bits]
      exact ent_tau [0, 1, 2] ⟨by (repeat' (first | exact trivial | exact rfl | exact fun _ _ => rfl | exact Or.inl rfl | refine And.intro ?_ ?_)), by (repeat' (first | exact trivial | exact rfl | exact congrArg (SV.int .i64) (Int.natCast_succ _).symm | refine And.intro ?_ ?_)), rfl⟩
    · rw [hl2] at hb
      cases hb
end Go.Proofs.YtipbempkngfdbaaDoor
/-
  Contract: TideMinutes.
-/
namespace Go.Proofs.YtipbempkngfdbaaDoor
open Go Go.Sy
set_option linter.unusedSimpArgs false
set_option maxRecDepth 100000
set_option maxHeartbeats 4000000
attribute [local irreducible] CallP CodeP Ent YieldP

theorem t19n : CallP Tryd.prog 19 [.snil, .snil] [] (Ret (.bool true) []) := by
  refine callR (E := E) E_ok Tryd.func19 rfl ?_
  refine And.intro ?_ (And.intro (fun hl => ?_) (fun hl => ?_))
  · (repeat' (first | exact trivial | exact fun _ => rfl | exact rfl | refine And.intro ?_ ?_))
  · exact absurd hl (by decide)
  · refine And.intro ?_ ?_
    · (repeat' (first | exact trivial | exact fun _ => rfl | exact rfl | refine And.intro ?_ ?_))
    refine loopP E_ok [0, 1] (fun k : Nat => [(5, .int .i64 k)]) (fun _ H => H) (fun k => k = 0) (fun k => 1 - k) 0 rfl ?_ ?_
    · exact ent_tau [] ⟨by (repeat' (first | exact trivial | exact rfl | exact fun _ _ => rfl | exact Or.inl rfl | refine And.intro ?_ ?_)), by (repeat' (first | exact trivial | exact rfl | exact congrArg (SV.int .i64) (Int.natCast_succ _).symm | refine And.intro ?_ ?_)), rfl⟩
    rintro k rfl
    refine And.intro ?_ (And.intro (fun hn => ?_) (fun hn => ?_))
    · (repeat' (first | exact trivial | exact fun _ => rfl | exact rfl | refine And.intro ?_ ?_))
    · exact absurd hn (by decide)
    · (repeat' (first | exact trivial | exact fun _ => rfl | exact rfl | refine And.intro ?_ ?_))
      exact ent_tau [] ⟨by (repeat' (first | exact trivial | exact rfl | exact fun _ _ => rfl | exact Or.inl rfl | refine And.intro ?_ ?_)), by (repeat' (first | exact trivial | exact rfl | exact congrArg (SV.int .i64) (Int.natCast_succ _).symm | refine And.intro ?_ ?_)), rfl⟩
theorem served_len (t : TD) (p l h : Int) : (t.servedT p l h).v.length ≤ 1000 := by
  by_cases hv : t.Valid
  · by_cases ha : t.isPl p ∧ (0 ≤ l ∧ l ≤ 60) ∧ (0 ≤ h ∧ h ≤ 60)
    · by_cases hn : t.tru = []
      · rw [servedT_nil hv hn ha]
        simp
      · obtain ⟨q, rfl⟩ := Int.eq_ofNat_of_zero_le ha.1.1
        have hq := ha.1.2
        obtain ⟨S, e, hS⟩ := served_is hv hn (p := q) (by omega) ha.2.1 ha.2.2
        have hM := hv.1
        have mk1 := (hv.marks (i := 0) (by omega)).1
        have mk2 := (hv.marks (i := t.nM - 1) (by omega)).1
        have mle : t.mi 0 ≤ t.mi (t.nM - 1) := mi_le hv (Nat.zero_le _) (by omega)
        have := hS.len (by omega)
        rw [e]
        show S.length ≤ 1000
        omega
    · rw [servedT_arg hv ha]
      simp
  · rw [servedT_inv hv]
    simp
theorem t3 (t : TD) (ht : t.ok) (p l h m : Int) (s : Bool) : CallP Tryd.prog 3 [t.A, .int .i64 p, .int .i64 l, .int .i64 h, .int .i64 m, .bool s] t.HG (Ret (.bool true) t.HG) := by
  refine callR (E := E) E_ok Tryd.func3 rfl ?_
  refine And.intro ?_ ?_
  · (repeat' (first | exact trivial | exact fun _ => rfl | exact rfl | refine And.intro ?_ ?_))
  refine CallP.frameH (t13s t ht 100) [0, 1, 2] (by (repeat' (first | exact trivial | exact rfl | exact fun _ _ => rfl | exact Or.inl rfl | refine And.intro ?_ ?_))) rfl ?_
  rintro ce h' ⟨b, hb, rfl, rfl⟩
  refine ⟨rfl, ?_⟩
  refine And.intro ?_ (And.intro (fun hl => ?_) (fun hl => ?_))
  · simp [AllP, under, gB, wB, inR_iff, IntKind.bits]
  · refine And.intro trivial ?_
    refine (t14).use [3, 4] ?_ (by (repeat' (first | exact trivial | exact rfl | exact fun _ _ => rfl | exact Or.inl rfl | refine And.intro ?_ ?_))) rfl
    refine And.intro trivial ?_
    exact ent_tau [0, 1, 2, 3, 4] ⟨by (repeat' (first | exact trivial | exact rfl | exact fun _ _ => rfl | exact Or.inl rfl | refine And.intro ?_ ?_)), by (repeat' (first | exact trivial | exact rfl | exact congrArg (SV.int .i64) (Int.natCast_succ _).symm | refine And.intro ?_ ?_)), rfl⟩
  have hlong := hb hl
  refine And.intro ?_ ?_
  · (repeat' (first | exact trivial | exact fun _ => rfl | exact rfl | refine And.intro ?_ ?_))
  refine CallP.frameH (t15 t p l h) [0, 1, 2, 3, 4] (by (repeat' (first | exact trivial | exact rfl | exact fun _ _ => rfl | exact Or.inl rfl | refine And.intro ?_ ?_))) rfl ?_
  rintro ce h' (⟨h0, rfl, rfl⟩ | ⟨h0, cap, hc1, hc2, rfl, rfl⟩)
  · refine ⟨rfl, ?_⟩
    refine And.intro ?_ ?_
    · (repeat' (first | exact trivial | exact fun _ => rfl | exact rfl | refine And.intro ?_ ?_))
    refine CallP.frameH (t16 t ht hlong p l h) [0, 1, 2] (by (repeat' (first | exact trivial | exact rfl | exact fun _ _ => rfl | exact Or.inl rfl | refine And.intro ?_ ?_))) rfl ?_
    rintro ce h' (⟨_, rfl, rfl⟩ | ⟨h1, cap2, hc3, rfl, rfl⟩)
    · refine ⟨rfl, ?_⟩
      refine And.intro ?_ ?_
      · (repeat' (first | exact trivial | exact fun _ => rfl | exact rfl | refine And.intro ?_ ?_))
      refine (t17 t p l m s).use [0, 1, 2, 3, 4] ?_ (by (repeat' (first | exact trivial | exact rfl | exact fun _ _ => rfl | exact Or.inl rfl | refine And.intro ?_ ?_))) rfl
      refine And.intro ?_ ?_
      · (repeat' (first | exact trivial | exact fun _ => rfl | exact rfl | refine And.intro ?_ ?_))
      refine (t18 t ht hlong p l m s).use [0, 1, 2] ?_ (by (repeat' (first | exact trivial | exact rfl | exact fun _ _ => rfl | exact Or.inl rfl | refine And.intro ?_ ?_))) rfl
      refine And.intro ?_ ?_
      · (repeat' (first | exact trivial | exact fun _ => rfl | exact rfl | refine And.intro ?_ ?_))
      refine (t19n).use [] ?_ (by (repeat' (first | exact trivial | exact rfl | exact fun _ _ => rfl | exact Or.inl rfl | refine And.intro ?_ ?_))) rfl
      refine And.intro ?_ (And.intro (fun hg => ?_) (fun hg => ?_))
      · (repeat' (first | exact True.intro | exact d1 _ | exact d1t _ | exact d2 _ | exact d3 _ _ | exact d3f _ _ | exact fun _ _ => rfl | exact fun _ => rfl | exact rfl | refine And.intro ?_ ?_))
      · refine (t14).use [3, 4] ?_ (by (repeat' (first | exact trivial | exact rfl | exact fun _ _ => rfl | exact Or.inl rfl | refine And.intro ?_ ?_))) rfl
        refine And.intro ?_ ?_
        · (repeat' (first | exact True.intro | exact d1 _ | exact d1t _ | exact d2 _ | exact d3 _ _ | exact d3f _ _ | exact fun _ _ => rfl | exact fun _ => rfl | exact rfl | refine And.intro ?_ ?_))
          all_goals first | exact fun hg2 => by simp [gB, wB] | skip
        refine ent_tau [0, 1, 2, 3, 4] ⟨by (repeat' (first | exact trivial | exact rfl | exact fun _ _ => rfl | exact Or.inl rfl | refine And.intro ?_ ?_)), ⟨rfl, ?_, trivial⟩, rfl⟩
        exact congrArg SV.bool (by simp)
      · simp [gB, wB] at hg
    · rw [h0] at h1
      exact absurd h1 (Nat.lt_irrefl 0)
  · refine ⟨rfl, ?_⟩
    refine And.intro ?_ ?_
    · (repeat' (first | exact trivial | exact fun _ => rfl | exact rfl | refine And.intro ?_ ?_))
    refine CallP.frameH (t16 t ht hlong p l h) [0, 1, 2] (by (repeat' (first | exact trivial | exact rfl | exact fun _ _ => rfl | exact Or.inl rfl | refine And.intro ?_ ?_))) rfl ?_
    rintro ce h' (⟨h1, rfl, rfl⟩ | ⟨h1, cap2, hc3, rfl, rfl⟩)
    · rw [h1] at h0
      exact absurd h0 (Nat.lt_irrefl 0)
    · refine ⟨rfl, ?_⟩
      have c19 := t19 (t.servedT p l h).v (t.servedT p l h).v cap cap2 (served_len t p l h)
      rw [decide_eq_true (rfl : (t.servedT p l h).v = (t.servedT p l h).v)] at c19
      refine And.intro ?_ ?_
      · (repeat' (first | exact trivial | exact fun _ => rfl | exact rfl | refine And.intro ?_ ?_))
      refine (t17 t p l m s).use [0, 1, 2, 3, 4] ?_ (by (repeat' (first | exact trivial | exact rfl | exact fun _ _ => rfl | exact Or.inl rfl | refine And.intro ?_ ?_))) rfl
      refine And.intro ?_ ?_
      · (repeat' (first | exact trivial | exact fun _ => rfl | exact rfl | refine And.intro ?_ ?_))
      refine (t18 t ht hlong p l m s).use [0, 1, 2] ?_ (by (repeat' (first | exact trivial | exact rfl | exact fun _ _ => rfl | exact Or.inl rfl | refine And.intro ?_ ?_))) rfl
      refine And.intro ?_ ?_
      · (repeat' (first | exact trivial | exact fun _ => rfl | exact rfl | refine And.intro ?_ ?_))
      refine c19.use [6, 7] ?_ (by (repeat' (first | exact trivial | exact rfl | exact fun _ _ => rfl | exact fun _ _ _ _ => rfl | exact Or.inl rfl | exact Or.inr rfl | refine And.intro ?_ ?_))) rfl
      refine And.intro ?_ (And.intro (fun hg => ?_) (fun hg => ?_))
      · (repeat' (first | exact True.intro | exact d1 _ | exact d1t _ | exact d2 _ | exact d3 _ _ | exact d3f _ _ | exact fun _ _ => rfl | exact fun _ => rfl | exact rfl | refine And.intro ?_ ?_))
      · refine (t14).use [3, 4] ?_ (by (repeat' (first | exact trivial | exact rfl | exact fun _ _ => rfl | exact Or.inl rfl | refine And.intro ?_ ?_))) rfl
        refine And.intro ?_ ?_
        · (repeat' (first | exact True.intro | exact d1 _ | exact d1t _ | exact d2 _ | exact d3 _ _ | exact d3f _ _ | exact fun _ _ => rfl | exact fun _ => rfl | exact rfl | refine And.intro ?_ ?_))
          all_goals first | exact fun hg2 => by simp [gB, wB] | skip
        refine ent_tau [0, 1, 2, 3, 4] ⟨by (repeat' (first | exact trivial | exact rfl | exact fun _ _ => rfl | exact Or.inl rfl | refine And.intro ?_ ?_)), ⟨rfl, ?_, trivial⟩, rfl⟩
        exact congrArg SV.bool (by simp)
      · simp [gB, wB] at hg
end Go.Proofs.YtipbempkngfdbaaDoor
