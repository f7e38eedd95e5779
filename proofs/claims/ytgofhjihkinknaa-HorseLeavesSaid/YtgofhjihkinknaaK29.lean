/-
  Parts: Uf, Ug, Uh.
-/
import Derived.Test.YtgofhjihkinknaaK27
import Derived.Test.YtgofhjihkinknaaK28
import Derived.Test.YtgofhjihkinknaaK25
set_option linter.unusedVariables false
/-
  Contracts of the document's answer: Fewest, Leave.
-/
namespace Go.Proofs.Ytgofhjihkinknaa
open Go Go.Sy Kuhn
set_option linter.unusedSimpArgs false
set_option maxRecDepth 100000
set_option maxHeartbeats 4000000
attribute [local irreducible] CallP CodeP Ent YieldP
attribute [local irreducible] HD.ch maskO pw

/-- What plans hands back where nothing is begun. -/
def K69t (h : HD) (W : List (List Int)) : CE → SHeap → Prop := fun ce h' =>
  (h.n = 0 ∧ ∃ c, (1 ≤ c ∧ c ≤ 9223372036854775807) ∧ ce = .ret (.slice 1 1 0 1 c) ∧ h' = [some (.roa 4 h.n (HD.F h)), some (.arr 1 1 c fun _ => [.snil])]) ∨
  (0 < h.n ∧ W = [] ∧ ce = .ret .snil ∧ h' = [some (.roa 4 h.n (HD.F h))]) ∨
  (0 < h.n ∧ W ≠ [] ∧ ∃ N cO cp, N = W.length ∧ 0 < N ∧ (N ≤ cO ∧ cO ≤ 9223372036854775807) ∧ ce = .ret (.slice 1 1 0 N cO) ∧ h' = [some (.roa 4 h.n (HD.F h)), some (.arr 1 N cO (rowsC 2 h.n cp)), some (poolW h.n W)])
theorem t69t {h : HD} (hv : h.Valid) {S M : Nat} (hS : S < 128) (hM : M ≤ 7) (s : Bool) :
    CallP Try.prog 69 [HD.A h, .int .i64 M, .int .i64 S, .bool s, .snil, .snil] (HD.H h) (K69t h (h.ways s S.testBit M h.n [])) := by
  by_cases h0 : h.n = 0
  · refine CallP.mono (t69z h0 S M s) ?_
    rintro ce h' ⟨c, hc, rfl, rfl⟩
    exact .inl ⟨h0, c, hc, rfl, rfl⟩
  · obtain ⟨r, hr⟩ : ∃ r, r + 1 = h.n := ⟨h.n - 1, by omega⟩
    have hl := PW.ways_len h s S.testBit hM (r + 1) []
    have hp : 7 ^ (r + 1) ≤ 7 ^ 7 := Nat.pow_le_pow_right (by decide) (by have := hv.2.1; omega)
    have h77 : 7 ^ 7 = 823543 := by decide
    have c := t69c hv hS hM s r hr (by omega)
    rw [hr] at c
    obtain ⟨W, hW⟩ : ∃ W, h.ways s S.testBit M h.n [] = W := ⟨_, rfl⟩
    rw [hW] at c ⊢
    refine CallP.mono c ?_
    cases W with
    | nil =>
      rintro ce h' ⟨rfl, rfl⟩
      exact .inr (.inl ⟨by omega, rfl, rfl, rfl⟩)
    | cons v vs =>
      rintro ce h' ⟨cO, cp, hb, rfl, rfl⟩
      exact .inr (.inr ⟨by omega, by simp, _, cO, cp, rfl, Nat.succ_pos _, hb, rfl, rfl⟩)
/-- What Fewest hands back. -/
def K27 (h : HD) (s : Bool) : CE → SHeap → Prop := fun ce h' =>
  (h.n = 0 ∧ ce = .ret (.tup [.int .i64 (h.few s : Nat), .snil, .int .i64 0]) ∧ h' = [some (.roa 4 h.n (HD.F h))]) ∨
  (0 < h.n ∧ ∃ W c, (∃ vs, W = h.plan s :: vs) ∧ ce = .ret (.tup [.int .i64 (h.few s : Nat), .row 1 0 h.n c, .int .i64 0]) ∧ h' = [some (.roa 4 h.n (HD.F h)), some (poolW h.n W)])
theorem t27e (h : HD) (hv : ¬ h.Valid) (s : Bool) : CallP Try.prog 27 [HD.A h, .bool s] (HD.H h) (Ret (.tup [.int .i64 0, .snil, .int .i64 1]) (HD.H h)) := by
  have c52 := t52 h true
  rw [vb_no hv] at c52
  refine callR (E := E) E_ok Try.func27 rfl ?_
  (repeat' (first | exact trivial | exact fun _ => rfl | exact rfl | refine And.intro ?_ ?_))
  refine c52.use [0] ?_ (by (repeat' (first | exact trivial | exact rfl | exact fun _ _ => rfl | exact fun _ _ _ _ => rfl | exact Or.inl rfl | exact Or.inr rfl | refine And.intro ?_ ?_))) rfl
  all_goals (repeat' (first | exact trivial | exact fun _ => rfl | exact rfl | refine And.intro ?_ ?_))
  all_goals first | exact True.intro | omega | exact u1 (lt64 (by omega)) | exact u0 (lt64 (by omega)) | (show under _ _; simp [under, gB, wB]; done) | (show under _ _; simp [under, gB, wB]; omega) | skip
  all_goals intro hx
  all_goals first | exact absurd hx (by decide) | (cases hx; done) | skip
  (repeat' (first | exact trivial | exact fun _ => rfl | exact rfl | refine And.intro ?_ ?_))
  exact ent_tau [0] ⟨by (repeat' (first | exact trivial | exact rfl | exact fun _ _ => rfl | exact fun _ _ _ _ => rfl | exact Or.inl rfl | exact Or.inr rfl | refine And.intro ?_ ?_)), by (repeat' (first | exact trivial | exact rfl | exact congrArg (SV.int .i64) (Int.natCast_succ _).symm | exact congrArg (SV.int .u64) (Int.natCast_succ _).symm | refine And.intro ?_ ?_)), rfl⟩
theorem t27 (h : HD) (hv : h.Valid) (s : Bool) : CallP Try.prog 27 [HD.A h, .bool s] (HD.H h) (K27 h s) := by
  have hn7 := hv.2.1
  have c52 := t52 h true
  rw [vb_yes hv] at c52
  have c70 := t70 h (by omega)
  have hf7 : h.few s ≤ 7 := by
    have := HD.planF_used hv s
    have := HD.usedF_le (h.planF s) h.n
    omega
  have hw : ∀ M, h.ways s h.every.testBit M h.n [] = h.ways s HD.full M h.n [] := fun M => PW.ways_congr h s M h.n [] fun k _ hk => by
    rw [HD.every_bit, decide_eq_true (by simpa using hk)]
    rfl
  have c69 := fun (M : Nat) (hM : M ≤ 7) => t69t hv (S := h.every) (HD.every_lt hn7) hM s
  simp only [hw] at c69
  have hne : ∀ M, h.ways s HD.full M h.n [] ≠ [] ↔ h.few s ≤ M := fun M => HD.ways_ne hv s HD.full M
  have hz : h.n = 0 → h.few s = 0 := fun h0 => by
    have := (hne 0).1 (by rw [h0]; simp [HD.ways])
    omega
  have hhead := HD.plan_head hv s
  obtain ⟨e, hee⟩ : ∃ e, h.every = e := ⟨_, rfl⟩
  rw [hee] at c70 c69
  refine callK (E := E) E_ok Try.func27 rfl ?_
  (repeat' (first | exact trivial | exact fun _ => rfl | exact rfl | refine And.intro ?_ ?_))
  refine c52.use [0] ?_ (by (repeat' (first | exact trivial | exact rfl | exact fun _ _ => rfl | exact fun _ _ _ _ => rfl | exact Or.inl rfl | exact Or.inr rfl | refine And.intro ?_ ?_))) rfl
  all_goals (repeat' (first | exact trivial | exact fun _ => rfl | exact rfl | refine And.intro ?_ ?_))
  all_goals first | exact True.intro | omega | exact u1 (lt64 (by omega)) | exact u0 (lt64 (by omega)) | (show under _ _; simp [under, gB, wB]; done) | (show under _ _; simp [under, gB, wB]; omega) | skip
  all_goals intro hx
  all_goals first | exact absurd hx (by decide) | (cases hx; done) | skip
  (repeat' (first | exact trivial | exact fun _ => rfl | exact rfl | refine And.intro ?_ ?_))
  refine loopP E_ok [1, 2] (fun m : Nat => [(8, .int .i64 m)]) (fun _ H => H) (fun m => m ≤ 7 ∧ m ≤ h.few s) (fun m => 7 - m) 0 ⟨Nat.zero_le _, Nat.zero_le _⟩ ?_ ?_
  · exact ent_tau [0, 1] ⟨by (repeat' (first | exact trivial | exact rfl | exact fun _ _ => rfl | exact fun _ _ _ _ => rfl | exact Or.inl rfl | exact Or.inr rfl | refine And.intro ?_ ?_)), by (repeat' (first | exact trivial | exact rfl | exact congrArg (SV.int .i64) (Int.natCast_succ _).symm | exact congrArg (SV.int .u64) (Int.natCast_succ _).symm | refine And.intro ?_ ?_)), rfl⟩
  rintro m ⟨hm, hmf⟩
  refine And.intro ?_ (And.intro (fun hlt => ?_) (fun hlt => ?_))
  · (repeat' (first | exact trivial | exact fun _ => rfl | exact rfl | refine And.intro ?_ ?_))
  · have hlt' : m < 7 := by
      have := of_decide_eq_true hlt
      omega
    (repeat' (first | exact trivial | exact fun _ => rfl | exact rfl | refine And.intro ?_ ?_))
    refine drawP E_ok [1] pl27_7 (by kernel_rfl) ?_
    (repeat' (first | exact trivial | exact fun _ => rfl | exact rfl | refine And.intro ?_ ?_))
    refine c70.use [0] ?_ (by (repeat' (first | exact trivial | exact rfl | exact fun _ _ => rfl | exact fun _ _ _ _ => rfl | exact Or.inl rfl | exact Or.inr rfl | refine And.intro ?_ ?_))) rfl
    all_goals (repeat' (first | exact trivial | exact fun _ => rfl | exact rfl | refine And.intro ?_ ?_))
    all_goals first | exact True.intro | omega | exact u1 (lt64 (by omega)) | exact u0 (lt64 (by omega)) | (show under _ _; simp [under, gB, wB]; done) | (show under _ _; simp [under, gB, wB]; omega) | skip
    refine CallP.frameH (c69 m (by omega)) [0] (by (repeat' (first | exact trivial | exact rfl | exact fun _ _ => rfl | exact fun _ _ _ _ => rfl | exact Or.inl rfl | exact Or.inr rfl | refine And.intro ?_ ?_))) rfl ?_
    rintro ce h' (⟨h0, c, hc, rfl, rfl⟩ | ⟨h0, hW, rfl, rfl⟩ | ⟨h0, hW, N, cO, cp, hN, hN0, hb, rfl, rfl⟩)
    · have hmz : m = h.few s := by
        have := hz h0
        omega
      refine ⟨rfl, ?_⟩
      all_goals (repeat' (first | exact trivial | exact fun _ => rfl | exact rfl | refine And.intro ?_ ?_))
      all_goals first | exact True.intro | omega | exact u1 (lt64 (by omega)) | exact u0 (lt64 (by omega)) | (show under _ _; simp [under, gB, wB]; done) | (show under _ _; simp [under, gB, wB]; omega) | skip
      all_goals intro h1
      all_goals first | exact absurd h1 (by decide) | (cases h1; done) | skip
      (repeat' (first | exact trivial | exact fun _ => rfl | exact rfl | refine And.intro ?_ ?_))
      refine drawP E_ok [2] pl27_9 (by kernel_rfl) ?_
      all_goals (repeat' (first | exact trivial | exact fun _ => rfl | exact rfl | refine And.intro ?_ ?_))
      all_goals first | exact True.intro | omega | exact u1 (lt64 (by omega)) | exact u0 (lt64 (by omega)) | (show under _ _; simp [under, gB, wB]; done) | (show under _ _; simp [under, gB, wB]; omega) | skip
      refine ⟨.ret (.tup [.int .i64 (m : Nat), .snil, .int .i64 0]), [some (.roa 4 h.n (HD.F h))], .inl ⟨h0, by rw [← hmz], rfl⟩, ?_⟩
      exact ent_tau [0] ⟨by (repeat' (first | exact trivial | exact rfl | exact fun _ _ => rfl | exact fun _ _ _ _ => rfl | exact Or.inl rfl | exact Or.inr rfl | refine And.intro ?_ ?_)), by (repeat' (first | exact trivial | exact rfl | exact congrArg (SV.int .i64) (Int.natCast_succ _).symm | exact congrArg (SV.int .u64) (Int.natCast_succ _).symm | refine And.intro ?_ ?_)), rfl⟩
    · have hmn : m < h.few s := by
        rcases Nat.lt_or_ge m (h.few s) with c | c
        · exact c
        · exact absurd hW ((hne m).2 c)
      refine ⟨rfl, ?_⟩
      all_goals (repeat' (first | exact trivial | exact fun _ => rfl | exact rfl | refine And.intro ?_ ?_))
      all_goals first | exact True.intro | omega | exact u1 (lt64 (by omega)) | exact u0 (lt64 (by omega)) | (show under _ _; simp [under, gB, wB]; done) | (show under _ _; simp [under, gB, wB]; omega) | skip
      all_goals intro h1
      all_goals first | exact absurd h1 (by decide) | (cases h1; done) | skip
      all_goals (repeat' (first | exact trivial | exact fun _ => rfl | exact rfl | refine And.intro ?_ ?_))
      all_goals first | exact True.intro | omega | exact u1 (lt64 (by omega)) | exact u0 (lt64 (by omega)) | (show under _ _; simp [under, gB, wB]; done) | (show under _ _; simp [under, gB, wB]; omega) | skip
      refine ⟨m + 1, ⟨by omega, by omega⟩, by omega, ?_⟩
      exact ent_tau [0, 1] ⟨by (repeat' (first | exact trivial | exact rfl | exact fun _ _ => rfl | exact fun _ _ _ _ => rfl | exact Or.inl rfl | exact Or.inr rfl | refine And.intro ?_ ?_)), by (repeat' (first | exact trivial | exact rfl | exact congrArg (SV.int .i64) (Int.natCast_succ _).symm | exact congrArg (SV.int .u64) (Int.natCast_succ _).symm | refine And.intro ?_ ?_)), rfl⟩
    · have hmz : m = h.few s := by
        have := (hne m).1 hW
        omega
      have hWW : ∃ vs, h.ways s HD.full m h.n [] = h.plan s :: vs := by
        rw [← hmz] at hhead
        cases hc : h.ways s HD.full m h.n [] with
        | nil => exact absurd hc hW
        | cons v vs =>
          rw [hc] at hhead
          simp only [List.head?_cons, Option.some.injEq] at hhead
          exact ⟨vs, by rw [hhead]⟩
      refine ⟨rfl, ?_⟩
      all_goals (repeat' (first | exact trivial | exact fun _ => rfl | exact rfl | refine And.intro ?_ ?_))
      all_goals first | exact True.intro | omega | exact u1 (lt64 (by omega)) | exact u0 (lt64 (by omega)) | (show under _ _; simp [under, gB, wB]; done) | (show under _ _; simp [under, gB, wB]; omega) | skip
      · intro h1
        (repeat' (first | exact trivial | exact fun _ => rfl | exact rfl | refine And.intro ?_ ?_))
        refine drawP E_ok [2] pl27_9 (by kernel_rfl) ?_
        all_goals (repeat' (first | exact trivial | exact fun _ => rfl | exact rfl | refine And.intro ?_ ?_))
        all_goals first | exact True.intro | omega | exact u1 (lt64 (by omega)) | exact u0 (lt64 (by omega)) | (show under _ _; simp [under, gB, wB]; done) | (show under _ _; simp [under, gB, wB]; omega) | skip
        refine ⟨.ret (.tup [.int .i64 (m : Nat), .row 1 0 h.n (cp 0), .int .i64 0]), [some (.roa 4 h.n (HD.F h)), some (poolW h.n (h.ways s HD.full m h.n []))], .inr ⟨h0, _, cp 0, hWW, by rw [← hmz], rfl⟩, ?_⟩
        exact ent_tau [0, 3] ⟨by (repeat' (first | exact trivial | exact rfl | exact fun _ _ => rfl | exact fun _ _ _ _ => rfl | exact Or.inl rfl | exact Or.inr rfl | refine And.intro ?_ ?_)), by (repeat' (first | exact trivial | exact rfl | exact congrArg (SV.int .i64) (Int.natCast_succ _).symm | exact congrArg (SV.int .u64) (Int.natCast_succ _).symm | refine And.intro ?_ ?_)), rfl⟩
      · intro h1
        exact absurd h1 (by simp; omega)
  · have hmz : h.few s = 7 := by
      have := of_decide_eq_false hlt
      omega
    have h0 : 0 < h.n := by
      rcases Nat.eq_zero_or_pos h.n with c | c
      · have := hz c
        omega
      · exact c
    (repeat' (first | exact trivial | exact fun _ => rfl | exact rfl | refine And.intro ?_ ?_))
    refine drawP E_ok [1] pl27_10 (by kernel_rfl) ?_
    (repeat' (first | exact trivial | exact fun _ => rfl | exact rfl | refine And.intro ?_ ?_))
    refine c70.use [0] ?_ (by (repeat' (first | exact trivial | exact rfl | exact fun _ _ => rfl | exact fun _ _ _ _ => rfl | exact Or.inl rfl | exact Or.inr rfl | refine And.intro ?_ ?_))) rfl
    all_goals (repeat' (first | exact trivial | exact fun _ => rfl | exact rfl | refine And.intro ?_ ?_))
    all_goals first | exact True.intro | omega | exact u1 (lt64 (by omega)) | exact u0 (lt64 (by omega)) | (show under _ _; simp [under, gB, wB]; done) | (show under _ _; simp [under, gB, wB]; omega) | skip
    refine CallP.frameH (c69 7 (by omega)) [0] (by (repeat' (first | exact trivial | exact rfl | exact fun _ _ => rfl | exact fun _ _ _ _ => rfl | exact Or.inl rfl | exact Or.inr rfl | refine And.intro ?_ ?_))) rfl ?_
    rintro ce h' (⟨h0', c, hc, rfl, rfl⟩ | ⟨_, hW, rfl, rfl⟩ | ⟨_, hW, N, cO, cp, hN, hN0, hb, rfl, rfl⟩)
    · omega
    · exact absurd hW ((hne 7).2 hf7)
    · have hWW : ∃ vs, h.ways s HD.full 7 h.n [] = h.plan s :: vs := by
        rw [hmz] at hhead
        cases hc : h.ways s HD.full 7 h.n [] with
        | nil => exact absurd hc hW
        | cons v vs =>
          rw [hc] at hhead
          simp only [List.head?_cons, Option.some.injEq] at hhead
          exact ⟨vs, by rw [hhead]⟩
      refine ⟨rfl, ?_⟩
      all_goals (repeat' (first | exact trivial | exact fun _ => rfl | exact rfl | refine And.intro ?_ ?_))
      all_goals first | exact True.intro | omega | exact u1 (lt64 (by omega)) | exact u0 (lt64 (by omega)) | (show under _ _; simp [under, gB, wB]; done) | (show under _ _; simp [under, gB, wB]; omega) | skip
      refine drawP E_ok [2] pl27_11 (by kernel_rfl) ?_
      all_goals (repeat' (first | exact trivial | exact fun _ => rfl | exact rfl | refine And.intro ?_ ?_))
      all_goals first | exact True.intro | omega | exact u1 (lt64 (by omega)) | exact u0 (lt64 (by omega)) | (show under _ _; simp [under, gB, wB]; done) | (show under _ _; simp [under, gB, wB]; omega) | skip
      refine ⟨.ret (.tup [.int .i64 7, .row 1 0 h.n (cp 0), .int .i64 0]), [some (.roa 4 h.n (HD.F h)), some (poolW h.n (h.ways s HD.full 7 h.n []))], .inr ⟨h0, _, cp 0, hWW, by rw [hmz]; rfl, rfl⟩, ?_⟩
      exact ent_tau [0, 3] ⟨by (repeat' (first | exact trivial | exact rfl | exact fun _ _ => rfl | exact fun _ _ _ _ => rfl | exact Or.inl rfl | exact Or.inr rfl | refine And.intro ?_ ?_)), by (repeat' (first | exact trivial | exact rfl | exact congrArg (SV.int .i64) (Int.natCast_succ _).symm | exact congrArg (SV.int .u64) (Int.natCast_succ _).symm | refine And.intro ?_ ?_)), rfl⟩
end Go.Proofs.Ytgofhjihkinknaa
/-
  Contract of the document's answer: Leave.
-/
namespace Go.Proofs.Ytgofhjihkinknaa
open Go Go.Sy Kuhn
set_option linter.unusedSimpArgs false
set_option maxRecDepth 100000
set_option maxHeartbeats 4000000
attribute [local irreducible] CallP CodeP Ent YieldP
attribute [local irreducible] HD.ch maskO pw

theorem pop_full : ∀ n : Fin 8, ∀ S : Fin 128, S.val < 2 ^ n.val → pop S = pop (2 ^ n.val - 1) → S.val = 2 ^ n.val - 1 := by decide +kernel
/-- The least set so far. -/
def LeastF (h : HD) (s : Bool) (m : Int) (i b : Nat) : Prop := b < 2 ^ h.n ∧ okWo h s m b = true ∧ ∀ T, T < i → okWo h s m T = true → pop b ≤ pop T ∧ (pop b = pop T → b ≤ T)
theorem leastF_zero {h : HD} (hv : h.Valid) (s : Bool) {m : Int} (hm : 0 ≤ m) : LeastF h s m 0 h.every := by
  have := Nat.pow_pos (n := h.n) (show 0 < 2 by decide)
  exact ⟨by unfold HD.every; omega, okWo_all hv s hm, fun T hT => absurd hT (Nat.not_lt_zero T)⟩
theorem leastF_yes {h : HD} {s : Bool} {m : Int} {i b : Nat} (H : LeastF h s m i b) (hi : i < 2 ^ h.n) (hl : okWo h s m i = true) (hp : pop i < pop b) : LeastF h s m (i + 1) i := by
  obtain ⟨_, _, h3⟩ := H
  refine ⟨hi, hl, fun T hT hTl => ?_⟩
  rcases Nat.lt_succ_iff_lt_or_eq.1 hT with c | rfl
  · have := h3 T c hTl
    omega
  · exact ⟨Nat.le_refl _, fun _ => Nat.le_refl _⟩
theorem leastF_no {h : HD} (hn : h.n ≤ 7) {s : Bool} {m : Int} {i b : Nat} (H : LeastF h s m i b) (hi : i < 2 ^ h.n) (hbi : b < i ∨ b = h.every) (hp : okWo h s m i = true → pop b ≤ pop i) : LeastF h s m (i + 1) b := by
  obtain ⟨h1, h2, h3⟩ := H
  have h7 : 2 ^ h.n ≤ 2 ^ 7 := Nat.pow_le_pow_right (by decide) hn
  refine ⟨h1, h2, fun T hT hTl => ?_⟩
  rcases Nat.lt_succ_iff_lt_or_eq.1 hT with c | rfl
  · exact h3 T c hTl
  · refine ⟨hp hTl, fun e => ?_⟩
    rcases hbi with c | c
    · omega
    · have := pop_full ⟨h.n, by omega⟩ ⟨T, by omega⟩ hi (by rw [← e, c]; rfl)
      simp only at this
      rw [c]
      unfold HD.every
      omega
theorem leastF_end {h : HD} (hv : h.Valid) {s : Bool} {m : Int} (hm : 0 ≤ m) {b : Nat} (H : LeastF h s m (2 ^ h.n) b) : b = lveS h s m := by
  obtain ⟨h1, h2, h3⟩ := H
  obtain ⟨g1, g2, g3⟩ := lve_ok hv s hm
  have a := h3 _ g1 g2
  rcases g3 b h1 h2 with c | c
  · exact c.symm
  · unfold Prior at c
    simp only at c
    omega
theorem ways_wo {h : HD} (hv : h.Valid) (s : Bool) (M : Nat) {i : Nat} (hi : i < 2 ^ h.n) : h.ways s (h.every - i).testBit M h.n [] ≠ [] ↔ okWo h s (M : Int) i = true := by
  have e : h.every - i = 2 ^ h.n - (i + 1) := by unfold HD.every; omega
  have hb : ∀ k, (h.every - i).testBit k = (decide (k < h.n) && !i.testBit k) := fun k => by
    rw [e, Nat.testBit_two_pow_sub_succ hi]
  rw [HD.ways_ne hv, HD.need_congr hv (ok' := fun j => (sdiff h.every i).testBit j) fun j hj => by
    rw [hb, sdiff_bit (by have := hv.2.1; omega), HD.every_bit]]
  unfold okWo
  rw [decide_eq_true_eq]
  omega
theorem t32e (h : HD) (hv : ¬ h.Valid) (s : Bool) (m : Int) : CallP Try.prog 32 [HD.A h, .int .i64 m, .bool s] (HD.H h) (Ret (.tup [.int .i64 0, .int .i64 1]) (HD.H h)) := by
  have c64 := t64 m 0 7
  obtain ⟨b, hb⟩ : ∃ b, inB m 0 7 = b := ⟨_, rfl⟩
  rw [hb] at c64
  have c52 := t52 h b
  rw [vb_no hv] at c52
  refine callR (E := E) E_ok Try.func32 rfl ?_
  (repeat' (first | exact trivial | exact fun _ => rfl | exact rfl | refine And.intro ?_ ?_))
  refine drawP E_ok [1] pl32_1 (by kernel_rfl) ?_
  (repeat' (first | exact trivial | exact fun _ => rfl | exact rfl | refine And.intro ?_ ?_))
  refine c64.use [] ?_ trivial rfl
  all_goals (repeat' (first | exact trivial | exact fun _ => rfl | exact rfl | refine And.intro ?_ ?_))
  all_goals first | exact True.intro | omega | exact u1 (lt64 (by omega)) | exact u0 (lt64 (by omega)) | (show under _ _; simp [under, gB, wB]; done) | (show under _ _; simp [under, gB, wB]; omega) | skip
  refine c52.use [0] ?_ (by (repeat' (first | exact trivial | exact rfl | exact fun _ _ => rfl | exact fun _ _ _ _ => rfl | exact Or.inl rfl | exact Or.inr rfl | refine And.intro ?_ ?_))) rfl
  cases b
  all_goals (repeat' (first | exact trivial | exact fun _ => rfl | exact rfl | refine And.intro ?_ ?_))
  all_goals all_goals first | exact True.intro | omega | exact u1 (lt64 (by omega)) | exact u0 (lt64 (by omega)) | (show under _ _; simp [under, gB, wB]; done) | (show under _ _; simp [under, gB, wB]; omega) | skip
  all_goals intro hx
  all_goals first | exact absurd hx (by decide) | skip
  all_goals (repeat' (first | exact trivial | exact fun _ => rfl | exact rfl | refine And.intro ?_ ?_))
  all_goals exact ent_tau [0] ⟨by (repeat' (first | exact trivial | exact rfl | exact fun _ _ => rfl | exact fun _ _ _ _ => rfl | exact Or.inl rfl | exact Or.inr rfl | refine And.intro ?_ ?_)), by (repeat' (first | exact trivial | exact rfl | exact congrArg (SV.int .i64) (Int.natCast_succ _).symm | exact congrArg (SV.int .u64) (Int.natCast_succ _).symm | refine And.intro ?_ ?_)), rfl⟩
theorem t32p (h : HD) (hv : h.Valid) (s : Bool) (m : Int) (hm : inB m 0 7 = false) : CallP Try.prog 32 [HD.A h, .int .i64 m, .bool s] (HD.H h) (Ret (.tup [.int .i64 0, .int .i64 2]) (HD.H h)) := by
  have c64 := t64 m 0 7
  rw [hm] at c64
  have c52 := t52 h false
  rw [vb_yes hv] at c52
  refine callR (E := E) E_ok Try.func32 rfl ?_
  (repeat' (first | exact trivial | exact fun _ => rfl | exact rfl | refine And.intro ?_ ?_))
  refine drawP E_ok [1] pl32_1 (by kernel_rfl) ?_
  (repeat' (first | exact trivial | exact fun _ => rfl | exact rfl | refine And.intro ?_ ?_))
  refine c64.use [] ?_ trivial rfl
  all_goals (repeat' (first | exact trivial | exact fun _ => rfl | exact rfl | refine And.intro ?_ ?_))
  all_goals first | exact True.intro | omega | exact u1 (lt64 (by omega)) | exact u0 (lt64 (by omega)) | (show under _ _; simp [under, gB, wB]; done) | (show under _ _; simp [under, gB, wB]; omega) | skip
  refine c52.use [0] ?_ (by (repeat' (first | exact trivial | exact rfl | exact fun _ _ => rfl | exact fun _ _ _ _ => rfl | exact Or.inl rfl | exact Or.inr rfl | refine And.intro ?_ ?_))) rfl
  all_goals (repeat' (first | exact trivial | exact fun _ => rfl | exact rfl | refine And.intro ?_ ?_))
  all_goals first | exact True.intro | omega | exact u1 (lt64 (by omega)) | exact u0 (lt64 (by omega)) | (show under _ _; simp [under, gB, wB]; done) | (show under _ _; simp [under, gB, wB]; omega) | skip
  all_goals intro hx
  all_goals first | exact absurd hx (by decide) | (cases hx; done) | skip
  (repeat' (first | exact trivial | exact fun _ => rfl | exact rfl | refine And.intro ?_ ?_))
  exact ent_tau [0] ⟨by (repeat' (first | exact trivial | exact rfl | exact fun _ _ => rfl | exact fun _ _ _ _ => rfl | exact Or.inl rfl | exact Or.inr rfl | refine And.intro ?_ ?_)), by (repeat' (first | exact trivial | exact rfl | exact congrArg (SV.int .i64) (Int.natCast_succ _).symm | exact congrArg (SV.int .u64) (Int.natCast_succ _).symm | refine And.intro ?_ ?_)), rfl⟩
theorem t32 (h : HD) (hv : h.Valid) (s : Bool) (m : Int) (hm : inB m 0 7 = true) : CallP Try.prog 32 [HD.A h, .int .i64 m, .bool s] (HD.H h) (Ret (.tup [.int .i64 (lveS h s m : Nat), .int .i64 0]) (HD.H h)) := by
  have c64 := t64 m 0 7
  rw [hm] at c64
  obtain ⟨hm0, hm7⟩ := inB_iff.1 hm
  obtain ⟨M, rfl⟩ : ∃ M : Nat, m = M := ⟨m.toNat, by omega⟩
  have hn7 := hv.2.1
  have c52 := t52 h true
  rw [vb_yes hv] at c52
  have c70 := t70 h (by omega)
  have he := HD.every_lt hn7
  have hep : 2 ^ h.n = h.every + 1 := by
    have := Nat.pow_pos (n := h.n) (show 0 < 2 by omega)
    unfold HD.every
    omega
  have hend : ∀ b, LeastF h s M (h.every + 1) b → b = lveS h s M := fun b hb => leastF_end hv hm0 (by rw [hep]; exact hb)
  have hbeg := leastF_zero hv s hm0
  have hww := fun i hi => ways_wo hv s M (i := i) hi
  have hno' := fun i b H hi hbi hp => leastF_no hn7 (s := s) (m := (M : Int)) (i := i) (b := b) H hi hbi hp
  obtain ⟨e, hee⟩ : ∃ e, h.every = e := ⟨_, rfl⟩
  rw [hee] at c70 he hep hend hbeg
  simp only [hee] at hww hno'
  refine callR (E := E) E_ok Try.func32 rfl ?_
  (repeat' (first | exact trivial | exact fun _ => rfl | exact rfl | refine And.intro ?_ ?_))
  refine drawP E_ok [1] pl32_1 (by kernel_rfl) ?_
  (repeat' (first | exact trivial | exact fun _ => rfl | exact rfl | refine And.intro ?_ ?_))
  refine c64.use [] ?_ trivial rfl
  all_goals (repeat' (first | exact trivial | exact fun _ => rfl | exact rfl | refine And.intro ?_ ?_))
  all_goals first | exact True.intro | omega | exact u1 (lt64 (by omega)) | exact u0 (lt64 (by omega)) | (show under _ _; simp [under, gB, wB]; done) | (show under _ _; simp [under, gB, wB]; omega) | skip
  refine c52.use [0] ?_ (by (repeat' (first | exact trivial | exact rfl | exact fun _ _ => rfl | exact fun _ _ _ _ => rfl | exact Or.inl rfl | exact Or.inr rfl | refine And.intro ?_ ?_))) rfl
  all_goals (repeat' (first | exact trivial | exact fun _ => rfl | exact rfl | refine And.intro ?_ ?_))
  all_goals first | exact True.intro | omega | exact u1 (lt64 (by omega)) | exact u0 (lt64 (by omega)) | (show under _ _; simp [under, gB, wB]; done) | (show under _ _; simp [under, gB, wB]; omega) | skip
  all_goals intro hx
  all_goals first | exact absurd hx (by decide) | (cases hx; done) | skip
  (repeat' (first | exact trivial | exact fun _ => rfl | exact rfl | refine And.intro ?_ ?_))
  refine c70.use [0] ?_ (by (repeat' (first | exact trivial | exact rfl | exact fun _ _ => rfl | exact fun _ _ _ _ => rfl | exact Or.inl rfl | exact Or.inr rfl | refine And.intro ?_ ?_))) rfl
  (repeat' (first | exact trivial | exact fun _ => rfl | exact rfl | refine And.intro ?_ ?_))
  refine loopP E_ok [1, 2, 3] (fun g : Nat × Nat => [(9, .int .i64 g.2), (10, .int .i64 g.1)]) (fun _ H => H) (fun g => g.1 ≤ e + 1 ∧ (g.2 < g.1 ∨ g.2 = e) ∧ LeastF h s M g.1 g.2) (fun g => e + 1 - g.1) (0, e) ⟨Nat.zero_le _, .inr rfl, hbeg⟩ ?_ ?_
  · exact ent_tau [0, 1] ⟨by (repeat' (first | exact trivial | exact rfl | exact fun _ _ => rfl | exact fun _ _ _ _ => rfl | exact Or.inl rfl | exact Or.inr rfl | refine And.intro ?_ ?_)), by (repeat' (first | exact trivial | exact rfl | exact congrArg (SV.int .i64) (Int.natCast_succ _).symm | exact congrArg (SV.int .u64) (Int.natCast_succ _).symm | refine And.intro ?_ ?_)), rfl⟩
  rintro ⟨i, b⟩ ⟨hi, hbi, hb⟩
  simp only at hi hbi hb
  (repeat' (first | exact trivial | exact fun _ => rfl | exact rfl | refine And.intro ?_ ?_))
  refine c70.use [0] ?_ (by (repeat' (first | exact trivial | exact rfl | exact fun _ _ => rfl | exact fun _ _ _ _ => rfl | exact Or.inl rfl | exact Or.inr rfl | refine And.intro ?_ ?_))) rfl
  refine And.intro ?_ (And.intro (fun hlt => ?_) (fun hlt => ?_))
  · (repeat' (first | exact trivial | exact fun _ => rfl | exact rfl | refine And.intro ?_ ?_))
  · have hlt' : i < e + 1 := by
      have := of_decide_eq_true hlt
      simp only at this
      omega
    have hil : i < 2 ^ h.n := by omega
    have c1 := t42 i (by omega)
    have c2 := t42 b (by have := hb.1; omega)
    have hw := hww i hil
    have c69 := t69t hv (S := e - i) (M := M) (by omega) (by omega) s
    rw [show ((e - i : Nat) : Int) = ((e : Nat) : Int) - ((i : Nat) : Int) by omega] at c69
    obtain ⟨W, hW⟩ : ∃ W, h.ways s (e - i).testBit M h.n [] = W := ⟨_, rfl⟩
    have hWz : h.n = 0 → W ≠ [] := fun h0 => by
      rw [← hW, h0]
      simp [HD.ways]
    rw [hW] at c69 hw
    have hno := hno' i b hb hil hbi
    have hyes := leastF_yes hb hil
    obtain ⟨p1, hp1⟩ : ∃ p, pop i = p := ⟨_, rfl⟩
    obtain ⟨p2, hp2⟩ : ∃ p, pop b = p := ⟨_, rfl⟩
    rw [hp1] at c1 hno hyes
    rw [hp2] at c2 hno hyes
    (repeat' (first | exact trivial | exact fun _ => rfl | exact rfl | refine And.intro ?_ ?_))
    refine drawP E_ok [1] pl32_8 (by kernel_rfl) ?_
    (repeat' (first | exact trivial | exact fun _ => rfl | exact rfl | refine And.intro ?_ ?_))
    refine c1.use [] ?_ trivial rfl
    all_goals (repeat' (first | exact trivial | exact fun _ => rfl | exact rfl | refine And.intro ?_ ?_))
    all_goals first | exact True.intro | omega | exact u1 (lt64 (by omega)) | exact u0 (lt64 (by omega)) | (show under _ _; simp [under, gB, wB]; done) | (show under _ _; simp [under, gB, wB]; omega) | skip
    refine c2.use [] ?_ trivial rfl
    by_cases hlt2 : p1 < p2
    · all_goals (repeat' (first | exact trivial | exact fun _ => rfl | exact rfl | refine And.intro ?_ ?_))
      all_goals first | exact True.intro | omega | exact u1 (lt64 (by omega)) | exact u0 (lt64 (by omega)) | (show under _ _; simp [under, gB, wB]; done) | (show under _ _; simp [under, gB, wB]; omega) | skip
      all_goals intro g1
      all_goals first | (exfalso; revert g1; simp [gB, wB, hlt2]; done) | skip
      refine c70.use [0] ?_ (by (repeat' (first | exact trivial | exact rfl | exact fun _ _ => rfl | exact fun _ _ _ _ => rfl | exact Or.inl rfl | exact Or.inr rfl | refine And.intro ?_ ?_))) rfl
      all_goals (repeat' (first | exact trivial | exact fun _ => rfl | exact rfl | refine And.intro ?_ ?_))
      all_goals first | exact True.intro | omega | exact u1 (lt64 (by omega)) | exact u0 (lt64 (by omega)) | (show under _ _; simp [under, gB, wB]; done) | (show under _ _; simp [under, gB, wB]; omega) | skip
      all_goals intro g2
      all_goals first | (exfalso; revert g2; simp [gB, wB, hlt2]; done) | skip
      all_goals first | exact (inR_iff _).2 ⟨by simp only; omega, by simp only; omega⟩ | skip
      refine CallP.frameH c69 [0] (by (repeat' (first | exact trivial | exact rfl | exact fun _ _ => rfl | exact fun _ _ _ _ => rfl | exact Or.inl rfl | exact Or.inr rfl | refine And.intro ?_ ?_))) rfl ?_
      rintro ce h' (⟨h0, c, hc, rfl, rfl⟩ | ⟨h0, hW, rfl, rfl⟩ | ⟨h0, hW, N, cO, cp, hN, hN0, hbb, rfl, rfl⟩)
      · have hy := hyes (hw.1 (hWz h0)) hlt2
        refine ⟨rfl, ?_⟩
        all_goals (repeat' (first | exact trivial | exact fun _ => rfl | exact rfl | refine And.intro ?_ ?_))
        all_goals first | exact True.intro | omega | exact u1 (lt64 (by omega)) | exact u0 (lt64 (by omega)) | (show under _ _; simp [under, gB, wB]; done) | (show under _ _; simp [under, gB, wB]; omega) | skip
        all_goals intro g3
        all_goals first | (exfalso; revert g3; simp [gB, wB, hlt2]; done) | skip
        all_goals (repeat' (first | exact trivial | exact fun _ => rfl | exact rfl | refine And.intro ?_ ?_))
        all_goals first | exact True.intro | omega | exact u1 (lt64 (by omega)) | exact u0 (lt64 (by omega)) | (show under _ _; simp [under, gB, wB]; done) | (show under _ _; simp [under, gB, wB]; omega) | skip
        refine ⟨(i + 1, i), ⟨hlt', .inl (by simp only; omega), hy⟩, by simp only; omega, ?_⟩
        exact ent_tau [0, 1] ⟨by (repeat' (first | exact trivial | exact rfl | exact fun _ _ => rfl | exact fun _ _ _ _ => rfl | exact Or.inl rfl | exact Or.inr rfl | refine And.intro ?_ ?_)), by (repeat' (first | exact trivial | exact rfl | exact congrArg (SV.int .i64) (Int.natCast_succ _).symm | exact congrArg (SV.int .u64) (Int.natCast_succ _).symm | refine And.intro ?_ ?_)), rfl⟩
      · have hn := hno (fun q => absurd hW (hw.2 q))
        refine ⟨rfl, ?_⟩
        all_goals (repeat' (first | exact trivial | exact fun _ => rfl | exact rfl | refine And.intro ?_ ?_))
        all_goals first | exact True.intro | omega | exact u1 (lt64 (by omega)) | exact u0 (lt64 (by omega)) | (show under _ _; simp [under, gB, wB]; done) | (show under _ _; simp [under, gB, wB]; omega) | skip
        all_goals intro g3
        all_goals first | (exfalso; revert g3; simp [gB, wB, hlt2]; done) | skip
        all_goals (repeat' (first | exact trivial | exact fun _ => rfl | exact rfl | refine And.intro ?_ ?_))
        all_goals first | exact True.intro | omega | exact u1 (lt64 (by omega)) | exact u0 (lt64 (by omega)) | (show under _ _; simp [under, gB, wB]; done) | (show under _ _; simp [under, gB, wB]; omega) | skip
        refine ⟨(i + 1, b), ⟨hlt', by simp only; omega, hn⟩, by simp only; omega, ?_⟩
        exact ent_tau [0, 1] ⟨by (repeat' (first | exact trivial | exact rfl | exact fun _ _ => rfl | exact fun _ _ _ _ => rfl | exact Or.inl rfl | exact Or.inr rfl | refine And.intro ?_ ?_)), by (repeat' (first | exact trivial | exact rfl | exact congrArg (SV.int .i64) (Int.natCast_succ _).symm | exact congrArg (SV.int .u64) (Int.natCast_succ _).symm | refine And.intro ?_ ?_)), rfl⟩
      · have hy := hyes (hw.1 hW) hlt2
        refine ⟨rfl, ?_⟩
        all_goals (repeat' (first | exact trivial | exact fun _ => rfl | exact rfl | refine And.intro ?_ ?_))
        all_goals first | exact True.intro | omega | exact u1 (lt64 (by omega)) | exact u0 (lt64 (by omega)) | (show under _ _; simp [under, gB, wB]; done) | (show under _ _; simp [under, gB, wB]; omega) | skip
        all_goals intro g3
        all_goals first | (exfalso; revert g3; simp [gB, wB, hlt2, hN0]; done) | skip
        all_goals (repeat' (first | exact trivial | exact fun _ => rfl | exact rfl | refine And.intro ?_ ?_))
        all_goals first | exact True.intro | omega | exact u1 (lt64 (by omega)) | exact u0 (lt64 (by omega)) | (show under _ _; simp [under, gB, wB]; done) | (show under _ _; simp [under, gB, wB]; omega) | skip
        refine ⟨(i + 1, i), ⟨hlt', .inl (by simp only; omega), hy⟩, by simp only; omega, ?_⟩
        exact ent_tau [0, 1] ⟨by (repeat' (first | exact trivial | exact rfl | exact fun _ _ => rfl | exact fun _ _ _ _ => rfl | exact Or.inl rfl | exact Or.inr rfl | refine And.intro ?_ ?_)), by (repeat' (first | exact trivial | exact rfl | exact congrArg (SV.int .i64) (Int.natCast_succ _).symm | exact congrArg (SV.int .u64) (Int.natCast_succ _).symm | refine And.intro ?_ ?_)), rfl⟩
    · have hn := hno (fun q => by omega)
      all_goals (repeat' (first | exact trivial | exact fun _ => rfl | exact rfl | refine And.intro ?_ ?_))
      all_goals first | exact True.intro | omega | exact u1 (lt64 (by omega)) | exact u0 (lt64 (by omega)) | (show under _ _; simp [under, gB, wB]; done) | (show under _ _; simp [under, gB, wB]; omega) | skip
      all_goals intro g1
      all_goals first | (exfalso; revert g1; simp [gB, wB, hlt2]; done) | skip
      all_goals (repeat' (first | exact trivial | exact fun _ => rfl | exact rfl | refine And.intro ?_ ?_))
      all_goals first | exact True.intro | omega | exact u1 (lt64 (by omega)) | exact u0 (lt64 (by omega)) | (show under _ _; simp [under, gB, wB]; done) | (show under _ _; simp [under, gB, wB]; omega) | skip
      all_goals intro g2
      all_goals first | (exfalso; revert g2; simp [gB, wB, hlt2]; done) | skip
      all_goals (repeat' (first | exact trivial | exact fun _ => rfl | exact rfl | refine And.intro ?_ ?_))
      all_goals first | exact True.intro | omega | exact u1 (lt64 (by omega)) | exact u0 (lt64 (by omega)) | (show under _ _; simp [under, gB, wB]; done) | (show under _ _; simp [under, gB, wB]; omega) | skip
      all_goals intro g3
      all_goals first | (exfalso; revert g3; simp [gB, wB, hlt2]; done) | skip
      all_goals (repeat' (first | exact trivial | exact fun _ => rfl | exact rfl | refine And.intro ?_ ?_))
      all_goals first | exact True.intro | omega | exact u1 (lt64 (by omega)) | exact u0 (lt64 (by omega)) | (show under _ _; simp [under, gB, wB]; done) | (show under _ _; simp [under, gB, wB]; omega) | skip
      refine ⟨(i + 1, b), ⟨hlt', by simp only; omega, hn⟩, by simp only; omega, ?_⟩
      exact ent_tau [0, 1] ⟨by (repeat' (first | exact trivial | exact rfl | exact fun _ _ => rfl | exact fun _ _ _ _ => rfl | exact Or.inl rfl | exact Or.inr rfl | refine And.intro ?_ ?_)), by (repeat' (first | exact trivial | exact rfl | exact congrArg (SV.int .i64) (Int.natCast_succ _).symm | exact congrArg (SV.int .u64) (Int.natCast_succ _).symm | refine And.intro ?_ ?_)), rfl⟩
  · have e1 : i = e + 1 := by
      have := of_decide_eq_false hlt
      simp only at this
      omega
    subst e1
    have e2 := hend b hb
    subst e2
    (repeat' (first | exact trivial | exact fun _ => rfl | exact rfl | refine And.intro ?_ ?_))
    exact ent_tau [0] ⟨by (repeat' (first | exact trivial | exact rfl | exact fun _ _ => rfl | exact fun _ _ _ _ => rfl | exact Or.inl rfl | exact Or.inr rfl | refine And.intro ?_ ?_)), by (repeat' (first | exact trivial | exact rfl | exact congrArg (SV.int .i64) (Int.natCast_succ _).symm | exact congrArg (SV.int .u64) (Int.natCast_succ _).symm | refine And.intro ?_ ?_)), rfl⟩
end Go.Proofs.Ytgofhjihkinknaa
/-
  HorseLooks, HorseLeaves.
-/
namespace Go.Proofs.Ytgofhjihkinknaa
open Go Go.Sy Kuhn
set_option linter.unusedSimpArgs false
set_option maxRecDepth 100000
set_option maxHeartbeats 4000000
attribute [local irreducible] CallP CodeP Ent YieldP
attribute [local irreducible] HD.ch maskO pw

theorem t25 (h : HD) (k : Nat) : CallP Try.prog 25 [HD.A h, .int .i64 k] (HD.H h) (Ret (.bool (decide (40 < h.n) || (vb h && decide (k < h.n)))) (HD.H h)) := by
  obtain ⟨b, hb⟩ : ∃ b, decide (40 < h.n) = b := ⟨_, rfl⟩
  obtain ⟨v, hv⟩ : ∃ v, vb h = v := ⟨_, rfl⟩
  have c14 := t14 h
  have c37 := t37 h
  rw [hb] at c14 ⊢
  rw [hv] at c37 ⊢
  have hc : decide (((k : Nat) : Int) < ((h.n : Nat) : Int)) = decide (k < h.n) := decide_eq_decide.2 Int.ofNat_lt
  refine callR (E := E) E_ok Try.func25 rfl ?_
  (repeat' (first | exact trivial | exact fun _ => rfl | exact rfl | refine And.intro ?_ ?_))
  refine c14.use [0] ?_ (by (repeat' (first | exact trivial | exact rfl | exact fun _ _ => rfl | exact fun _ _ _ _ => rfl | exact Or.inl rfl | exact Or.inr rfl | refine And.intro ?_ ?_))) rfl
  cases b with
  | true =>
    all_goals (repeat' (first | exact trivial | exact fun _ => rfl | exact rfl | refine And.intro ?_ ?_))
    all_goals first | exact True.intro | omega | exact u1 (lt64 (by omega)) | exact u0 (lt64 (by omega)) | (show under _ _; simp [under, gB, wB]; done) | (show under _ _; simp [under, gB, wB]; omega) | skip
    all_goals intro g1
    all_goals first | (exfalso; revert g1; simp [gB, wB]; done) | skip
    all_goals (repeat' (first | exact trivial | exact fun _ => rfl | exact rfl | refine And.intro ?_ ?_))
    all_goals first | exact True.intro | omega | exact u1 (lt64 (by omega)) | exact u0 (lt64 (by omega)) | (show under _ _; simp [under, gB, wB]; done) | (show under _ _; simp [under, gB, wB]; omega) | skip
    refine ent_tau [0] ⟨by (repeat' (first | exact trivial | exact rfl | exact fun _ _ => rfl | exact fun _ _ _ _ => rfl | exact Or.inl rfl | exact Or.inr rfl | refine And.intro ?_ ?_)), ⟨rfl, ?_, trivial⟩, rfl⟩
    exact congrArg SV.bool rfl
  | false =>
    all_goals (repeat' (first | exact trivial | exact fun _ => rfl | exact rfl | refine And.intro ?_ ?_))
    all_goals first | exact True.intro | omega | exact u1 (lt64 (by omega)) | exact u0 (lt64 (by omega)) | (show under _ _; simp [under, gB, wB]; done) | (show under _ _; simp [under, gB, wB]; omega) | skip
    all_goals intro g1
    all_goals first | (exfalso; revert g1; simp [gB, wB]; done) | skip
    refine c37.use [0] ?_ (by (repeat' (first | exact trivial | exact rfl | exact fun _ _ => rfl | exact fun _ _ _ _ => rfl | exact Or.inl rfl | exact Or.inr rfl | refine And.intro ?_ ?_))) rfl
    all_goals (repeat' (first | exact trivial | exact fun _ => rfl | exact rfl | refine And.intro ?_ ?_))
    all_goals first | exact True.intro | omega | exact u1 (lt64 (by omega)) | exact u0 (lt64 (by omega)) | (show under _ _; simp [under, gB, wB]; done) | (show under _ _; simp [under, gB, wB]; omega) | skip
    all_goals first | exact fun hh => hh | exact un (by omega) | skip
    refine ent_tau [0] ⟨by (repeat' (first | exact trivial | exact rfl | exact fun _ _ => rfl | exact fun _ _ _ _ => rfl | exact Or.inl rfl | exact Or.inr rfl | refine And.intro ?_ ?_)), ⟨rfl, ?_, trivial⟩, rfl⟩
    refine congrArg SV.bool ?_
    rw [← hc]
    cases v <;> rfl
theorem eqN_refl (F : Nat → Int) (n : Nat) : eqN F F n = true := eqN_iff.2 fun _ _ => rfl
/-- Two lists are compared of which the second one is a plan of many. -/
theorem t30r (n c d : Nat) (F : Nat → Int) (v : List Int) (vs : List (List Int)) (hn : 0 < n ∧ n ≤ 1000000) : CallP Try.prog 30 [.slice 0 1 0 n c, .row 1 0 n d] [some (.roa 1 n fun k => [.int .i64 (F k)]), some (.pool false (v :: vs).length (fun _ => n) fun k m => ((v :: vs).getD k []).getD m 0)]
    (Ret (.bool (eqN F (fun m => v.getD m 0) n)) [some (.roa 1 n fun k => [.int .i64 (F k)]), some (.pool false (v :: vs).length (fun _ => n) fun k m => ((v :: vs).getD k []).getD m 0)]) := by
  have c30 := t30 n n c d F (fun m => v.getD m 0) hn.2 hn.2
  rw [decide_eq_true rfl, Bool.true_and] at c30
  refine CallP.entR (h1 := [some (.roa 1 n fun k => [.int .i64 (F k)]), some (.pool false (v :: vs).length (fun _ => n) fun k m => ((v :: vs).getD k []).getD m 0)] ++ [some (.roa 1 n fun m => [.int .i64 (v.getD m 0)])]) (v := .bool (eqN F (fun m => v.getD m 0) n)) ?_ ?_
  · refine CallP.row (j := 1) (args' := [.slice 0 1 0 n c, .slice 2 1 0 n d]) rfl 0 (Nat.succ_pos _) hn.1 ?_ ?_
    · intro η b h1 h2
      have h1' : η 2 = some (b, 0) := h1
      have := h2 n d
      simp only [denL, this]
      simp only [den, h1', Option.map_some]
    · exact c30.use [0, 2] ⟨rfl, rfl⟩ (by (repeat' (first | exact trivial | exact rfl | exact fun _ _ => rfl | exact fun _ _ _ _ => rfl | exact Or.inl rfl | exact Or.inr rfl | refine And.intro ?_ ?_))) rfl
  · exact ent_tau [0, 1] ⟨by (repeat' (first | exact trivial | exact rfl | exact fun _ _ => rfl | exact fun _ _ _ _ => rfl | exact Or.inl rfl | exact Or.inr rfl | refine And.intro ?_ ?_)), by (repeat' (first | exact trivial | exact rfl | exact congrArg (SV.int .i64) (Int.natCast_succ _).symm | exact congrArg (SV.int .u64) (Int.natCast_succ _).symm | refine And.intro ?_ ?_)), rfl⟩
theorem t4 (h : HD) (s : Bool) : CallP Try.prog 4 [HD.A h, .bool s] (HD.H h) (Ret (.bool true) (HD.H h)) := by
  have c25 := t25 h 5
  obtain ⟨v, hv⟩ : ∃ v, vb h = v := ⟨_, rfl⟩
  obtain ⟨g, hg⟩ : ∃ g, (decide (40 < h.n) || (vb h && decide (5 < h.n))) = g := ⟨_, rfl⟩
  rw [hg] at c25
  cases g with
  | true =>
    refine callR (E := E) E_ok Try.func4 rfl ?_
    (repeat' (first | exact trivial | exact fun _ => rfl | exact rfl | refine And.intro ?_ ?_))
    refine c25.use [0] ?_ (by (repeat' (first | exact trivial | exact rfl | exact fun _ _ => rfl | exact fun _ _ _ _ => rfl | exact Or.inl rfl | exact Or.inr rfl | refine And.intro ?_ ?_))) rfl
    all_goals (repeat' (first | exact trivial | exact fun _ => rfl | exact rfl | refine And.intro ?_ ?_))
    all_goals first | exact True.intro | omega | exact u1 (lt64 (by omega)) | exact u0 (lt64 (by omega)) | (show under _ _; simp [under, gB, wB]; done) | (show under _ _; simp [under, gB, wB]; omega) | skip
    all_goals intro hx
    all_goals first | exact absurd hx (by decide) | (cases hx; done) | skip
    (repeat' (first | exact trivial | exact fun _ => rfl | exact rfl | refine And.intro ?_ ?_))
    refine t15.use [] ?_ trivial rfl
    all_goals (repeat' (first | exact trivial | exact fun _ => rfl | exact rfl | refine And.intro ?_ ?_))
    all_goals first | exact True.intro | omega | exact u1 (lt64 (by omega)) | exact u0 (lt64 (by omega)) | (show under _ _; simp [under, gB, wB]; done) | (show under _ _; simp [under, gB, wB]; omega) | skip
    exact ent_tau [0] ⟨by (repeat' (first | exact trivial | exact rfl | exact fun _ _ => rfl | exact fun _ _ _ _ => rfl | exact Or.inl rfl | exact Or.inr rfl | refine And.intro ?_ ?_)), by (repeat' (first | exact trivial | exact rfl | exact congrArg (SV.int .i64) (Int.natCast_succ _).symm | exact congrArg (SV.int .u64) (Int.natCast_succ _).symm | refine And.intro ?_ ?_)), rfl⟩
  | false =>
    cases v with
    | false =>
      have hnv : ¬ h.Valid := fun q => by
        have := vb_yes q
        rw [hv] at this
        cases this
      have c26 := t26e h hnv s
      have c27 := t27e h hnv s
      have c28 := t28e h hnv s
      have c29 := t29e h hnv s
      refine callR (E := E) E_ok Try.func4 rfl ?_
      (repeat' (first | exact trivial | exact fun _ => rfl | exact rfl | refine And.intro ?_ ?_))
      refine c25.use [0] ?_ (by (repeat' (first | exact trivial | exact rfl | exact fun _ _ => rfl | exact fun _ _ _ _ => rfl | exact Or.inl rfl | exact Or.inr rfl | refine And.intro ?_ ?_))) rfl
      all_goals (repeat' (first | exact trivial | exact fun _ => rfl | exact rfl | refine And.intro ?_ ?_))
      all_goals first | exact True.intro | omega | exact u1 (lt64 (by omega)) | exact u0 (lt64 (by omega)) | (show under _ _; simp [under, gB, wB]; done) | (show under _ _; simp [under, gB, wB]; omega) | skip
      all_goals intro hx
      all_goals first | exact absurd hx (by decide) | (cases hx; done) | skip
      (repeat' (first | exact trivial | exact fun _ => rfl | exact rfl | refine And.intro ?_ ?_))
      refine c26.use [0] ?_ (by (repeat' (first | exact trivial | exact rfl | exact fun _ _ => rfl | exact fun _ _ _ _ => rfl | exact Or.inl rfl | exact Or.inr rfl | refine And.intro ?_ ?_))) rfl
      (repeat' (first | exact trivial | exact fun _ => rfl | exact rfl | refine And.intro ?_ ?_))
      refine c27.use [0] ?_ (by (repeat' (first | exact trivial | exact rfl | exact fun _ _ => rfl | exact fun _ _ _ _ => rfl | exact Or.inl rfl | exact Or.inr rfl | refine And.intro ?_ ?_))) rfl
      (repeat' (first | exact trivial | exact fun _ => rfl | exact rfl | refine And.intro ?_ ?_))
      refine c28.use [0] ?_ (by (repeat' (first | exact trivial | exact rfl | exact fun _ _ => rfl | exact fun _ _ _ _ => rfl | exact Or.inl rfl | exact Or.inr rfl | refine And.intro ?_ ?_))) rfl
      (repeat' (first | exact trivial | exact fun _ => rfl | exact rfl | refine And.intro ?_ ?_))
      refine c29.use [0] ?_ (by (repeat' (first | exact trivial | exact rfl | exact fun _ _ => rfl | exact fun _ _ _ _ => rfl | exact Or.inl rfl | exact Or.inr rfl | refine And.intro ?_ ?_))) rfl
      all_goals (repeat' (first | exact trivial | exact fun _ => rfl | exact rfl | refine And.intro ?_ ?_))
      all_goals first | exact True.intro | omega | exact u1 (lt64 (by omega)) | exact u0 (lt64 (by omega)) | (show under _ _; simp [under, gB, wB]; done) | (show under _ _; simp [under, gB, wB]; omega) | skip
      all_goals intro g1
      all_goals first | (exfalso; revert g1; simp [gB, wB]; done) | skip
      refine t30nn.use [] ?_ trivial rfl
      all_goals (repeat' (first | exact trivial | exact fun _ => rfl | exact rfl | refine And.intro ?_ ?_))
      all_goals first | exact True.intro | omega | exact u1 (lt64 (by omega)) | exact u0 (lt64 (by omega)) | (show under _ _; simp [under, gB, wB]; done) | (show under _ _; simp [under, gB, wB]; omega) | skip
      all_goals intro g2
      all_goals first | (exfalso; revert g2; simp [gB, wB]; done) | skip
      refine t15.use [] ?_ trivial rfl
      all_goals (repeat' (first | exact trivial | exact fun _ => rfl | exact rfl | refine And.intro ?_ ?_))
      all_goals first | exact True.intro | omega | exact u1 (lt64 (by omega)) | exact u0 (lt64 (by omega)) | (show under _ _; simp [under, gB, wB]; done) | (show under _ _; simp [under, gB, wB]; omega) | skip
      exact ent_tau [0] ⟨by (repeat' (first | exact trivial | exact rfl | exact fun _ _ => rfl | exact fun _ _ _ _ => rfl | exact Or.inl rfl | exact Or.inr rfl | refine And.intro ?_ ?_)), by (repeat' (first | exact trivial | exact rfl | exact congrArg (SV.int .i64) (Int.natCast_succ _).symm | exact congrArg (SV.int .u64) (Int.natCast_succ _).symm | refine And.intro ?_ ?_)), rfl⟩
    | true =>
      have hv' := vb_iff.1 hv
      have hn7 := hv'.2.1
      have c26 := t26 h hv' s
      have c27 := t27 h hv' s
      have c28 := t28 h hv' s
      have c29 := t29 h hv' s
      obtain ⟨f, hf⟩ : ∃ f, h.few s = f := ⟨_, rfl⟩
      obtain ⟨p, hp⟩ : ∃ p, prfS h s = p := ⟨_, rfl⟩
      unfold K27 at c27
      rw [hf] at c26 c27
      rw [hp] at c28 c29
      refine callR (E := E) E_ok Try.func4 rfl ?_
      (repeat' (first | exact trivial | exact fun _ => rfl | exact rfl | refine And.intro ?_ ?_))
      refine c25.use [0] ?_ (by (repeat' (first | exact trivial | exact rfl | exact fun _ _ => rfl | exact fun _ _ _ _ => rfl | exact Or.inl rfl | exact Or.inr rfl | refine And.intro ?_ ?_))) rfl
      all_goals (repeat' (first | exact trivial | exact fun _ => rfl | exact rfl | refine And.intro ?_ ?_))
      all_goals first | exact True.intro | omega | exact u1 (lt64 (by omega)) | exact u0 (lt64 (by omega)) | (show under _ _; simp [under, gB, wB]; done) | (show under _ _; simp [under, gB, wB]; omega) | skip
      all_goals intro hx
      all_goals first | exact absurd hx (by decide) | (cases hx; done) | skip
      (repeat' (first | exact trivial | exact fun _ => rfl | exact rfl | refine And.intro ?_ ?_))
      refine c26.use [0] ?_ (by (repeat' (first | exact trivial | exact rfl | exact fun _ _ => rfl | exact fun _ _ _ _ => rfl | exact Or.inl rfl | exact Or.inr rfl | refine And.intro ?_ ?_))) rfl
      (repeat' (first | exact trivial | exact fun _ => rfl | exact rfl | refine And.intro ?_ ?_))
      refine CallP.frameH c27 [0] (by (repeat' (first | exact trivial | exact rfl | exact fun _ _ => rfl | exact fun _ _ _ _ => rfl | exact Or.inl rfl | exact Or.inr rfl | refine And.intro ?_ ?_))) rfl ?_
      rintro ce h' (⟨h0, rfl, rfl⟩ | ⟨h0, W, c, ⟨vs, rfl⟩, rfl, rfl⟩)
      · have c30 := t30n h.n h.n fun k => (h.plan s).getD k 0
        rw [decide_eq_true h0] at c30
        refine ⟨rfl, ?_⟩
        (repeat' (first | exact trivial | exact fun _ => rfl | exact rfl | refine And.intro ?_ ?_))
        refine c28.use [0] ?_ (by (repeat' (first | exact trivial | exact rfl | exact fun _ _ => rfl | exact fun _ _ _ _ => rfl | exact Or.inl rfl | exact Or.inr rfl | refine And.intro ?_ ?_))) rfl
        (repeat' (first | exact trivial | exact fun _ => rfl | exact rfl | refine And.intro ?_ ?_))
        refine c29.use [0] ?_ (by (repeat' (first | exact trivial | exact rfl | exact fun _ _ => rfl | exact fun _ _ _ _ => rfl | exact Or.inl rfl | exact Or.inr rfl | refine And.intro ?_ ?_))) rfl
        all_goals (repeat' (first | exact trivial | exact fun _ => rfl | exact rfl | refine And.intro ?_ ?_))
        all_goals first | exact True.intro | omega | exact u1 (lt64 (by omega)) | exact u0 (lt64 (by omega)) | (show under _ _; simp [under, gB, wB]; done) | (show under _ _; simp [under, gB, wB]; omega) | skip
        all_goals intro g1
        all_goals first | (exfalso; revert g1; simp [gB, wB]; done) | skip
        refine c30.use [2] ?_ (by (repeat' (first | exact trivial | exact rfl | exact fun _ _ => rfl | exact fun _ _ _ _ => rfl | exact Or.inl rfl | exact Or.inr rfl | refine And.intro ?_ ?_))) rfl
        all_goals (repeat' (first | exact trivial | exact fun _ => rfl | exact rfl | refine And.intro ?_ ?_))
        all_goals first | exact True.intro | omega | exact u1 (lt64 (by omega)) | exact u0 (lt64 (by omega)) | (show under _ _; simp [under, gB, wB]; done) | (show under _ _; simp [under, gB, wB]; omega) | skip
        all_goals intro g2
        all_goals first | (exfalso; revert g2; simp [gB, wB]; done) | skip
        refine t15.use [] ?_ trivial rfl
        all_goals (repeat' (first | exact trivial | exact fun _ => rfl | exact rfl | refine And.intro ?_ ?_))
        all_goals first | exact True.intro | omega | exact u1 (lt64 (by omega)) | exact u0 (lt64 (by omega)) | (show under _ _; simp [under, gB, wB]; done) | (show under _ _; simp [under, gB, wB]; omega) | skip
        refine ent_tau [0] ⟨by (repeat' (first | exact trivial | exact rfl | exact fun _ _ => rfl | exact fun _ _ _ _ => rfl | exact Or.inl rfl | exact Or.inr rfl | refine And.intro ?_ ?_)), ⟨rfl, ?_, trivial⟩, rfl⟩
        exact congrArg SV.bool (by simp)
      · have c30 := t30r h.n h.n c (fun k => (h.plan s).getD k 0) (h.plan s) vs ⟨h0, by omega⟩
        rw [eqN_refl] at c30
        refine ⟨rfl, ?_⟩
        (repeat' (first | exact trivial | exact fun _ => rfl | exact rfl | refine And.intro ?_ ?_))
        refine c28.use [0] ?_ (by (repeat' (first | exact trivial | exact rfl | exact fun _ _ => rfl | exact fun _ _ _ _ => rfl | exact Or.inl rfl | exact Or.inr rfl | refine And.intro ?_ ?_))) rfl
        (repeat' (first | exact trivial | exact fun _ => rfl | exact rfl | refine And.intro ?_ ?_))
        refine c29.use [0] ?_ (by (repeat' (first | exact trivial | exact rfl | exact fun _ _ => rfl | exact fun _ _ _ _ => rfl | exact Or.inl rfl | exact Or.inr rfl | refine And.intro ?_ ?_))) rfl
        all_goals (repeat' (first | exact trivial | exact fun _ => rfl | exact rfl | refine And.intro ?_ ?_))
        all_goals first | exact True.intro | omega | exact u1 (lt64 (by omega)) | exact u0 (lt64 (by omega)) | (show under _ _; simp [under, gB, wB]; done) | (show under _ _; simp [under, gB, wB]; omega) | skip
        all_goals intro g1
        all_goals first | (exfalso; revert g1; simp [gB, wB]; done) | skip
        refine c30.use [2, 3] ?_ (by (repeat' (first | exact trivial | exact rfl | exact fun _ _ => rfl | exact fun _ _ _ _ => rfl | exact Or.inl rfl | exact Or.inr rfl | refine And.intro ?_ ?_))) rfl
        all_goals (repeat' (first | exact trivial | exact fun _ => rfl | exact rfl | refine And.intro ?_ ?_))
        all_goals first | exact True.intro | omega | exact u1 (lt64 (by omega)) | exact u0 (lt64 (by omega)) | (show under _ _; simp [under, gB, wB]; done) | (show under _ _; simp [under, gB, wB]; omega) | skip
        all_goals intro g2
        all_goals first | (exfalso; revert g2; simp [gB, wB]; done) | skip
        refine t15.use [] ?_ trivial rfl
        all_goals (repeat' (first | exact trivial | exact fun _ => rfl | exact rfl | refine And.intro ?_ ?_))
        all_goals first | exact True.intro | omega | exact u1 (lt64 (by omega)) | exact u0 (lt64 (by omega)) | (show under _ _; simp [under, gB, wB]; done) | (show under _ _; simp [under, gB, wB]; omega) | skip
        refine ent_tau [0] ⟨by (repeat' (first | exact trivial | exact rfl | exact fun _ _ => rfl | exact fun _ _ _ _ => rfl | exact Or.inl rfl | exact Or.inr rfl | refine And.intro ?_ ?_)), ⟨rfl, ?_, trivial⟩, rfl⟩
        exact congrArg SV.bool (by simp)
theorem t5 (h : HD) (m : Int) (s : Bool) : CallP Try.prog 5 [HD.A h, .int .i64 m, .bool s] (HD.H h) (Ret (.bool true) (HD.H h)) := by
  have c25 := t25 h 4
  obtain ⟨g, hg⟩ : ∃ g, (decide (40 < h.n) || (vb h && decide (4 < h.n))) = g := ⟨_, rfl⟩
  rw [hg] at c25
  cases g with
  | true =>
    refine callR (E := E) E_ok Try.func5 rfl ?_
    (repeat' (first | exact trivial | exact fun _ => rfl | exact rfl | refine And.intro ?_ ?_))
    refine c25.use [0] ?_ (by (repeat' (first | exact trivial | exact rfl | exact fun _ _ => rfl | exact fun _ _ _ _ => rfl | exact Or.inl rfl | exact Or.inr rfl | refine And.intro ?_ ?_))) rfl
    all_goals (repeat' (first | exact trivial | exact fun _ => rfl | exact rfl | refine And.intro ?_ ?_))
    all_goals first | exact True.intro | omega | exact u1 (lt64 (by omega)) | exact u0 (lt64 (by omega)) | (show under _ _; simp [under, gB, wB]; done) | (show under _ _; simp [under, gB, wB]; omega) | skip
    all_goals intro hx
    all_goals first | exact absurd hx (by decide) | (cases hx; done) | skip
    (repeat' (first | exact trivial | exact fun _ => rfl | exact rfl | refine And.intro ?_ ?_))
    refine t15.use [] ?_ trivial rfl
    all_goals (repeat' (first | exact trivial | exact fun _ => rfl | exact rfl | refine And.intro ?_ ?_))
    all_goals first | exact True.intro | omega | exact u1 (lt64 (by omega)) | exact u0 (lt64 (by omega)) | (show under _ _; simp [under, gB, wB]; done) | (show under _ _; simp [under, gB, wB]; omega) | skip
    exact ent_tau [0] ⟨by (repeat' (first | exact trivial | exact rfl | exact fun _ _ => rfl | exact fun _ _ _ _ => rfl | exact Or.inl rfl | exact Or.inr rfl | refine And.intro ?_ ?_)), by (repeat' (first | exact trivial | exact rfl | exact congrArg (SV.int .i64) (Int.natCast_succ _).symm | exact congrArg (SV.int .u64) (Int.natCast_succ _).symm | refine And.intro ?_ ?_)), rfl⟩
  | false =>
    obtain ⟨a, e, c31, c32⟩ : ∃ a e : Int, CallP Try.prog 31 [HD.A h, .int .i64 m, .bool s] (HD.H h) (Ret (.tup [.int .i64 a, .int .i64 e]) (HD.H h)) ∧ CallP Try.prog 32 [HD.A h, .int .i64 m, .bool s] (HD.H h) (Ret (.tup [.int .i64 a, .int .i64 e]) (HD.H h)) := by
      by_cases hv : h.Valid
      · cases hm : inB m 0 7 with
        | true => exact ⟨_, _, t31 h hv s m hm, t32 h hv s m hm⟩
        | false => exact ⟨_, _, t31p h hv s m hm, t32p h hv s m hm⟩
      · exact ⟨_, _, t31e h hv s m, t32e h hv s m⟩
    refine callR (E := E) E_ok Try.func5 rfl ?_
    (repeat' (first | exact trivial | exact fun _ => rfl | exact rfl | refine And.intro ?_ ?_))
    refine c25.use [0] ?_ (by (repeat' (first | exact trivial | exact rfl | exact fun _ _ => rfl | exact fun _ _ _ _ => rfl | exact Or.inl rfl | exact Or.inr rfl | refine And.intro ?_ ?_))) rfl
    all_goals (repeat' (first | exact trivial | exact fun _ => rfl | exact rfl | refine And.intro ?_ ?_))
    all_goals first | exact True.intro | omega | exact u1 (lt64 (by omega)) | exact u0 (lt64 (by omega)) | (show under _ _; simp [under, gB, wB]; done) | (show under _ _; simp [under, gB, wB]; omega) | skip
    all_goals intro hx
    all_goals first | exact absurd hx (by decide) | (cases hx; done) | skip
    (repeat' (first | exact trivial | exact fun _ => rfl | exact rfl | refine And.intro ?_ ?_))
    refine c31.use [0] ?_ (by (repeat' (first | exact trivial | exact rfl | exact fun _ _ => rfl | exact fun _ _ _ _ => rfl | exact Or.inl rfl | exact Or.inr rfl | refine And.intro ?_ ?_))) rfl
    (repeat' (first | exact trivial | exact fun _ => rfl | exact rfl | refine And.intro ?_ ?_))
    refine c32.use [0] ?_ (by (repeat' (first | exact trivial | exact rfl | exact fun _ _ => rfl | exact fun _ _ _ _ => rfl | exact Or.inl rfl | exact Or.inr rfl | refine And.intro ?_ ?_))) rfl
    all_goals (repeat' (first | exact trivial | exact fun _ => rfl | exact rfl | refine And.intro ?_ ?_))
    all_goals first | exact True.intro | omega | exact u1 (lt64 (by omega)) | exact u0 (lt64 (by omega)) | (show under _ _; simp [under, gB, wB]; done) | (show under _ _; simp [under, gB, wB]; omega) | skip
    all_goals intro g1
    all_goals first | (exfalso; revert g1; simp [gB, wB]; done) | skip
    refine t15.use [] ?_ trivial rfl
    all_goals (repeat' (first | exact trivial | exact fun _ => rfl | exact rfl | refine And.intro ?_ ?_))
    all_goals first | exact True.intro | omega | exact u1 (lt64 (by omega)) | exact u0 (lt64 (by omega)) | (show under _ _; simp [under, gB, wB]; done) | (show under _ _; simp [under, gB, wB]; omega) | skip
    refine ent_tau [0] ⟨by (repeat' (first | exact trivial | exact rfl | exact fun _ _ => rfl | exact fun _ _ _ _ => rfl | exact Or.inl rfl | exact Or.inr rfl | refine And.intro ?_ ?_)), ⟨rfl, ?_, trivial⟩, rfl⟩
    exact congrArg SV.bool (by simp)
end Go.Proofs.Ytgofhjihkinknaa
