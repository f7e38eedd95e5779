/-
  Parts: Pi.
-/
import Derived.Test.YtgofhjihkinknaaN19
set_option linter.unusedVariables false
/-
  Contracts: Late.
-/
namespace Go.Proofs.Ytgofhjihkinknaa
open Go Go.Sy Kuhn
set_option linter.unusedSimpArgs false
set_option maxRecDepth 100000
set_option maxHeartbeats 4000000
attribute [local irreducible] CallP CodeP Ent YieldP
attribute [local irreducible] HD.ch maskO

/-- How late moves begin. -/
def latF (h : HD) (pl : PD) (k : Nat) : List SV := [.int .i64 (T59 h pl false k - h.at' k), .int .i64 (T59 h pl true k - h.at' k)]
def LateIs (h : HD) (pl : PD) (v : SV) (H' : SHeap) : Prop :=
  (h.Valid ∧ pok h pl = true ∧ v = .tup [.slice 2 2 0 h.n h.n, .int .i64 0] ∧ H' = HD.H h ++ [some (.roa 1 pl.n (PD.F pl)), some (.arr 2 h.n h.n (latF h pl))]) ∨
  (¬ h.Valid ∧ v = .tup [.snil, .int .i64 1] ∧ H' = HD.H h ++ [some (.roa 1 pl.n (PD.F pl))]) ∨
  (h.Valid ∧ pok h pl = false ∧ v = .tup [.snil, .int .i64 2] ∧ H' = HD.H h ++ [some (.roa 1 pl.n (PD.F pl))])
theorem okQ {h : HD} {pl : PD} {v : SV} {H' : SHeap} (hq : LateIs h pl v H') (hv : h.Valid) (hp : pok h pl = true) : h.Valid ∧ pok h pl = true ∧ v = .tup [.slice 2 2 0 h.n h.n, .int .i64 0] ∧ H' = HD.H h ++ [some (.roa 1 pl.n (PD.F pl)), some (.arr 2 h.n h.n (latF h pl))] := by
  rcases hq with q | ⟨q1, _⟩ | ⟨_, q2, _⟩
  · exact q
  · exact absurd hv q1
  · rw [hp] at q2
    cases q2
theorem okV {h : HD} {pl : PD} {v : SV} {H' : SHeap} (hq : LateIs h pl v H') (hv : ¬ h.Valid) : v = .tup [.snil, .int .i64 1] ∧ H' = HD.H h ++ [some (.roa 1 pl.n (PD.F pl))] := by
  rcases hq with ⟨q1, _⟩ | ⟨_, q⟩ | ⟨q1, _⟩
  · exact absurd q1 hv
  · exact q
  · exact absurd q1 hv
theorem okP {h : HD} {pl : PD} {v : SV} {H' : SHeap} (hq : LateIs h pl v H') (hv : h.Valid) (hp : pok h pl = false) : v = .tup [.snil, .int .i64 2] ∧ H' = HD.H h ++ [some (.roa 1 pl.n (PD.F pl))] := by
  rcases hq with ⟨_, q2, _⟩ | ⟨q1, _⟩ | ⟨_, _, q⟩
  · rw [hp] at q2
    cases q2
  · exact absurd hv q1
  · exact q
/-- Who is left, and what is known of the others. -/
def LeftOk (h : HD) (T : Nat → Int) (L : GL) (F : Nat → Int) : Prop :=
  (∀ e ∈ L, ∃ x, x < h.n ∧ e = (turnL h x, [T x])) ∧ ∀ x, x < h.n → (turnL h x, [T x]) ∈ L ∨ F x = T x - h.at' x
theorem left_start (h : HD) (T : Nat → Int) (F : Nat → Int) : LeftOk h T (outM h (srtF h.at' h.n) T h.n) F := by
  refine ⟨fun e he => ?_, fun x hx => .inl ?_⟩
  · unfold outM at he
    obtain ⟨i, hi, rfl⟩ := List.mem_map.1 he
    exact ⟨_, srt_lt (List.mem_range.1 hi), rfl⟩
  · obtain ⟨i, hi, ei⟩ := ((srtF_ok h.at' h.n).2.2 x).2 hx
    unfold outM
    exact List.mem_map.2 ⟨i, List.mem_range.2 hi, by rw [ei]⟩
theorem left_step {h : HD} {T : Nat → Int} {r1 r2 : GL} {e : List Int × List Int} {F : Nat → Int} (H : LeftOk h T (r1 ++ e :: r2) F) : ∃ x, x < h.n ∧ e = (turnL h x, [T x]) ∧ LeftOk h T (r1 ++ r2) (fun k => if k = x then T x - h.at' x else F k) := by
  obtain ⟨x, hx, ex⟩ := H.1 e (List.mem_append_right _ (List.mem_cons_self ..))
  refine ⟨x, hx, ex, fun e' he' => H.1 e' ?_, fun y hy => ?_⟩
  · rcases List.mem_append.1 he' with c | c
    · exact List.mem_append_left _ c
    · exact List.mem_append_right _ (List.mem_cons_of_mem _ c)
  · simp only
    by_cases c : y = x
    · right
      rw [if_pos c, c]
    · rw [if_neg c]
      rcases H.2 y hy with d | d
      · left
        rcases List.mem_append.1 d with d | d
        · exact List.mem_append_left _ d
        · rcases List.mem_cons.1 d with d | d
          · rw [ex] at d
            exact absurd (turnL_inj (Prod.mk.inj d).1) c
          · exact List.mem_append_right _ d
      · exact .inr d
theorem T59_all {h : HD} (hv : h.Valid) {pl : PD} {s : Bool} {x : Nat} (hx : x < h.n) : 0 ≤ T59 h pl s x ∧ T59 h pl s x ≤ 200 + 110 * 7 := by
  obtain ⟨i, hi, rfl⟩ := ((srtF_ok h.at' h.n).2.2 x).2 hx
  have := T59_rng hv (pl := pl) (s := s) _ i (Nat.lt_succ_self i) hi
  have := hv.2.1
  omega
theorem upd_lo (F B : Nat → Int) (x : Nat) (y : Int) (m : Nat) : selL (decide (m = 0 + ((x : Nat) : Int).toNat)) (splice [.int .i64 (F (0 + ((x : Nat) : Int).toNat)), .int .i64 (B (0 + ((x : Nat) : Int).toNat))] 0 [.int .i64 y]) [.int .i64 (F m), .int .i64 (B m)] = [.int .i64 (if m = x then y else F m), .int .i64 (B m)] := by
  rw [z1]
  by_cases c : m = x
  · rw [decide_eq_true c, selL_true, if_pos c, c]
    rfl
  · rw [decide_eq_false c, selL_false, if_neg c]
theorem upd_hi (F B : Nat → Int) (x : Nat) (y : Int) (m : Nat) : selL (decide (m = 0 + ((x : Nat) : Int).toNat)) (splice [.int .i64 (F (0 + ((x : Nat) : Int).toNat)), .int .i64 (B (0 + ((x : Nat) : Int).toNat))] 1 [.int .i64 y]) [.int .i64 (F m), .int .i64 (B m)] = [.int .i64 (F m), .int .i64 (if m = x then y else B m)] := by
  rw [z1]
  by_cases c : m = x
  · rw [decide_eq_true c, selL_true, if_pos c, c]
    rfl
  · rw [decide_eq_false c, selL_false, if_neg c]
theorem left_end {h : HD} {T : Nat → Int} {F : Nat → Int} (H : LeftOk h T [] F) : ∀ k, k < h.n → F k = T k - h.at' k := fun k hk => by
  rcases H.2 k hk with d | d
  · cases d
  · exact d
theorem t20 (h : HD) (pl : PD) (hn : pl.n ≤ 1000000) (v : SV) (H' : SHeap) (hq : LateIs h pl v H') :
    CallP Try.prog 20 [HD.A h, .osl pl.b 1 1 pl.n pl.cap] (HD.H h ++ [some (.roa 1 pl.n (PD.F pl))]) (Ret v H') := by
  obtain ⟨c, hc⟩ : ∃ c, pok h pl = c := ⟨_, rfl⟩
  have c47 := t47_3 h pl 85 (.inl rfl) c fun hv => by
    rw [← hc]
    exact t85 h pl hn
  refine callDR (E := E) E_ok Try.func20 rfl (g := 46) (k1 := 5) (k2 := 2) Try.func46 isrec46 rfl ?_
  (repeat' (first | exact trivial | exact fun _ => rfl | exact rfl | refine And.intro ?_ ?_))
  refine drawP E_ok [2] pl20_2 (by kernel_rfl) ?_
  (repeat' (first | exact trivial | exact fun _ => rfl | exact rfl | refine And.intro ?_ ?_))
  all_goals refine (t55 pl).use [1] ?_ (by (repeat' (first | exact trivial | exact rfl | exact fun _ _ => rfl | exact fun _ _ _ _ => rfl | exact Or.inl rfl | exact Or.inr rfl | refine And.intro ?_ ?_))) rfl
  all_goals (repeat' (first | exact trivial | exact fun _ => rfl | exact rfl | refine And.intro ?_ ?_))
  all_goals first | refine CallP.frameH c47 [0, 1, 4, 5] (by (repeat' (first | exact trivial | exact rfl | exact fun _ _ => rfl | exact fun _ _ _ _ => rfl | exact Or.inl rfl | exact Or.inr rfl | refine And.intro ?_ ?_))) rfl ?_ | refine CallP.frameH c47 [0, 1, 5, 6] (by (repeat' (first | exact trivial | exact rfl | exact fun _ _ => rfl | exact fun _ _ _ _ => rfl | exact Or.inl rfl | exact Or.inr rfl | refine And.intro ?_ ?_))) rfl ?_
  all_goals rintro ce h' (⟨hv, hc1, rfl, rfl⟩ | ⟨hv, rfl, rfl⟩ | ⟨hv, hc1, rfl, rfl⟩)
  · obtain ⟨q1, q2, rfl, rfl⟩ := okQ hq hv (by rw [hc, hc1])
    have hpl : pok h pl = true := by rw [hc, hc1]
    have hn7 := hv.2.1
    refine ⟨rfl, ?_⟩
    (repeat' (first | exact trivial | exact fun _ => rfl | exact rfl | refine And.intro ?_ ?_))
    all_goals first | (first | omega | exact u0 (by omega) | exact u1 (by omega) | exact u1 ⟨by omega, by omega⟩ | exact un (by omega) | exact fun hh => hh | exact fun hh => absurd hh (by decide) | exact fun hh => congrArg not hh | exact fun hh => Bool.noConfusion (show true = false from hh) | exact fun hh => Bool.noConfusion (show false = true from hh)) | (show ((16 : Nat) : Int) * (h.n : Nat) ≤ 281474976710656; omega) | skip
    refine (t59 h hv pl hpl false).use [0, 1] ?_ (by (repeat' (first | exact trivial | exact rfl | exact fun _ _ => rfl | exact fun _ _ _ _ => rfl | exact Or.inl rfl | exact Or.inr rfl | refine And.intro ?_ ?_))) rfl
    (repeat' (first | exact trivial | exact fun _ => rfl | exact rfl | refine And.intro ?_ ?_))
    refine loopP E_ok [1, 4] (fun g : GL × (Nat → Int) × Option (List Int × List Int) => [(5, .ptr 3 0), (6, .ptr 4 0), (7, .slice 5 2 0 h.n h.n), (26, .ptr 6 0)])
      (fun g _ => HD.H h ++ [some (.roa 1 pl.n (PD.F pl)), some (.cells [.int .i64 h.pace, .osl h.b 0 4 h.n h.cap]), some (.cells [.int .i64 0]), some (.cells [.int .i64 h.pace, .osl h.b 0 4 h.n h.cap]), some (.arr 2 h.n h.n fun k => [.int .i64 (g.2.1 k), .int .i64 0]), some (.giter g94 g.1 g.2.2)])
      (fun g => LeftOk h (T59 h pl false) g.1 g.2.1) (fun g => g.1.length) (outM h (srtF h.at' h.n) (T59 h pl false) h.n, fun _ => 0, none) (left_start h _ _) ?_ ?_
    · exact ent_tau [0, 1, 2, 3, 6, 7, 9] ⟨by (repeat' (first | exact trivial | exact rfl | exact fun _ _ => rfl | exact fun _ _ _ _ => rfl | exact Or.inl rfl | exact Or.inr rfl | refine And.intro ?_ ?_)), by (repeat' (first | exact trivial | exact rfl | exact congrArg (SV.int .i64) (Int.natCast_succ _).symm | exact congrArg (SV.int .u64) (Int.natCast_succ _).symm | refine And.intro ?_ ?_)), rfl⟩
    rintro ⟨L, F, cur⟩ hL
    simp only at hL
    (repeat' (first | exact trivial | exact fun _ => rfl | exact rfl | refine And.intro ?_ ?_))
    · intro hL0
      replace hL0 : L = [] := hL0
      subst hL0
      have hF := left_end hL
      (repeat' (first | exact trivial | exact fun _ => rfl | exact rfl | refine And.intro ?_ ?_))
      all_goals first | (first | omega | exact u0 (by omega) | exact u1 (by omega) | exact u1 ⟨by omega, by omega⟩ | exact un (by omega) | exact fun hh => hh | exact fun hh => absurd hh (by decide) | exact fun hh => congrArg not hh | exact fun hh => Bool.noConfusion (show true = false from hh) | exact fun hh => Bool.noConfusion (show false = true from hh)) | skip
      intro _
      (repeat' (first | exact trivial | exact fun _ => rfl | exact rfl | refine And.intro ?_ ?_))
      all_goals first | (first | omega | exact u0 (by omega) | exact u1 (by omega) | exact u1 ⟨by omega, by omega⟩ | exact un (by omega) | exact fun hh => hh | exact fun hh => absurd hh (by decide) | exact fun hh => congrArg not hh | exact fun hh => Bool.noConfusion (show true = false from hh) | exact fun hh => Bool.noConfusion (show false = true from hh)) | skip
      refine (t59 h hv pl hpl true).use [0, 1] ?_ (by (repeat' (first | exact trivial | exact rfl | exact fun _ _ => rfl | exact fun _ _ _ _ => rfl | exact Or.inl rfl | exact Or.inr rfl | refine And.intro ?_ ?_))) rfl
      (repeat' (first | exact trivial | exact fun _ => rfl | exact rfl | refine And.intro ?_ ?_))
      refine loopP E_ok [1, 4] (fun g : GL × (Nat → Int) × Option (List Int × List Int) => [(5, .ptr 3 0), (6, .ptr 4 0), (7, .slice 5 2 0 h.n h.n), (47, .ptr 6 0)])
        (fun g _ => HD.H h ++ [some (.roa 1 pl.n (PD.F pl)), some (.cells [.int .i64 h.pace, .osl h.b 0 4 h.n h.cap]), some (.cells [.int .i64 0]), some (.cells [.int .i64 h.pace, .osl h.b 0 4 h.n h.cap]), some (.arr 2 h.n h.n fun k => [.int .i64 (T59 h pl false k - h.at' k), .int .i64 (g.2.1 k)]), some (.giter g94 g.1 g.2.2)])
        (fun g => LeftOk h (T59 h pl true) g.1 g.2.1) (fun g => g.1.length) (outM h (srtF h.at' h.n) (T59 h pl true) h.n, fun _ => 0, none) (left_start h _ _) ?_ ?_
      · refine ent_tau [0, 1, 2, 3, 4, 5, 8] ⟨?_, by (repeat' (first | exact trivial | exact rfl | exact congrArg (SV.int .i64) (Int.natCast_succ _).symm | exact congrArg (SV.int .u64) (Int.natCast_succ _).symm | refine And.intro ?_ ?_)), rfl⟩
        (repeat' (first | exact trivial | exact rfl | exact fun _ _ => rfl | exact fun _ _ _ _ => rfl | exact Or.inl rfl | exact Or.inr rfl | refine And.intro ?_ ?_))
        exact fun k hk => by
          show [SV.int .i64 (F k), SV.int .i64 0] = _
          rw [hF k hk]
          rfl
      rintro ⟨L, F, cur⟩ hL
      simp only at hL
      (repeat' (first | exact trivial | exact fun _ => rfl | exact rfl | refine And.intro ?_ ?_))
      · intro hL0
        replace hL0 : L = [] := hL0
        subst hL0
        have hF := left_end hL
        (repeat' (first | exact trivial | exact fun _ => rfl | exact rfl | refine And.intro ?_ ?_))
        all_goals first | (first | omega | exact u0 (by omega) | exact u1 (by omega) | exact u1 ⟨by omega, by omega⟩ | exact un (by omega) | exact fun hh => hh | exact fun hh => absurd hh (by decide) | exact fun hh => congrArg not hh | exact fun hh => Bool.noConfusion (show true = false from hh) | exact fun hh => Bool.noConfusion (show false = true from hh)) | skip
        intro _
        (repeat' (first | exact trivial | exact fun _ => rfl | exact rfl | refine And.intro ?_ ?_))
        all_goals first | (first | omega | exact u0 (by omega) | exact u1 (by omega) | exact u1 ⟨by omega, by omega⟩ | exact un (by omega) | exact fun hh => hh | exact fun hh => absurd hh (by decide) | exact fun hh => congrArg not hh | exact fun hh => Bool.noConfusion (show true = false from hh) | exact fun hh => Bool.noConfusion (show false = true from hh)) | skip
        intro _
        (repeat' (first | exact trivial | exact fun _ => rfl | exact rfl | refine And.intro ?_ ?_))
        all_goals first | (first | omega | exact u0 (by omega) | exact u1 (by omega) | exact u1 ⟨by omega, by omega⟩ | exact un (by omega) | exact fun hh => hh | exact fun hh => absurd hh (by decide) | exact fun hh => congrArg not hh | exact fun hh => Bool.noConfusion (show true = false from hh) | exact fun hh => Bool.noConfusion (show false = true from hh)) | skip
        refine ⟨_, _, ⟨rfl, rfl⟩, ?_⟩
        refine ent_tau [0, 1, 5] ⟨?_, by (repeat' (first | exact trivial | exact rfl | exact congrArg (SV.int .i64) (Int.natCast_succ _).symm | exact congrArg (SV.int .u64) (Int.natCast_succ _).symm | refine And.intro ?_ ?_)), rfl⟩
        (repeat' (first | exact trivial | exact rfl | exact fun _ _ => rfl | exact fun _ _ _ _ => rfl | exact Or.inl rfl | exact Or.inr rfl | refine And.intro ?_ ?_))
        exact fun k hk => by
          show [SV.int .i64 (T59 h pl false k - h.at' k), SV.int .i64 (F k)] = _
          rw [hF k hk]
          rfl
      · intro r1 r2 a b c d e v hE
        replace hE : L = r1 ++ ([a, b, c, d, e], [v]) :: r2 := hE
        subst hE
        obtain ⟨x, hx, ex, hstep⟩ := left_step hL
        have ev : v = T59 h pl true x := (List.cons.inj (Prod.mk.inj ex).2).1
        have ek := (Prod.mk.inj ex).1
        unfold turnL at ek
        simp only [List.cons.injEq, and_true] at ek
        obtain ⟨rfl, rfl, rfl, rfl, rfl⟩ := ek
        have ix := z1 x
        have hT := T59_all hv (pl := pl) (s := true) hx
        have mx := hv.2.2 x hx
        unfold HD.okMv at mx
        rw [← ev] at hT hstep
        (repeat' (first | exact trivial | exact fun _ => rfl | exact rfl | refine And.intro ?_ ?_))
        all_goals first | (first | omega | exact u0 (by omega) | exact u1 (by omega) | exact u1 ⟨by omega, by omega⟩ | exact un (by omega) | exact fun hh => hh | exact fun hh => absurd hh (by decide) | exact fun hh => congrArg not hh | exact fun hh => Bool.noConfusion (show true = false from hh) | exact fun hh => Bool.noConfusion (show false = true from hh)) | skip
        intro _
        (repeat' (first | exact trivial | exact fun _ => rfl | exact rfl | refine And.intro ?_ ?_))
        all_goals first | (first | omega | exact u0 (by omega) | exact u1 (by omega) | exact u1 ⟨by omega, by omega⟩ | exact un (by omega) | exact fun hh => hh | exact fun hh => absurd hh (by decide) | exact fun hh => congrArg not hh | exact fun hh => Bool.noConfusion (show true = false from hh) | exact fun hh => Bool.noConfusion (show false = true from hh)) | skip
        all_goals first | (show v - h.at' x ≤ 9223372036854775807; omega) | (show -9223372036854775808 ≤ v - h.at' x; omega) | skip
        refine ⟨(r1 ++ r2, fun k => if k = x then v - h.at' x else F k, some ([h.at' x, h.pl x, h.lo x, h.hi x, (x : Int)], [v])), hstep, by simp only [List.length_append, List.length_cons]; omega, ?_⟩
        refine ent_tau [0, 1, 2, 3, 4, 5, 6] ⟨?_, by (repeat' (first | exact trivial | exact rfl | exact congrArg (SV.int .i64) (Int.natCast_succ _).symm | exact congrArg (SV.int .u64) (Int.natCast_succ _).symm | refine And.intro ?_ ?_)), rfl⟩
        (repeat' (first | exact trivial | exact rfl | exact fun _ _ => rfl | exact fun _ _ _ _ => rfl | exact Or.inl rfl | exact Or.inr rfl | refine And.intro ?_ ?_))
        exact fun m _ => upd_hi (fun k => T59 h pl false k - h.at' k) F x (v - h.at' x) m
    · intro r1 r2 a b c d e v hE
      replace hE : L = r1 ++ ([a, b, c, d, e], [v]) :: r2 := hE
      subst hE
      obtain ⟨x, hx, ex, hstep⟩ := left_step hL
      have ev : v = T59 h pl false x := (List.cons.inj (Prod.mk.inj ex).2).1
      have ek := (Prod.mk.inj ex).1
      unfold turnL at ek
      simp only [List.cons.injEq, and_true] at ek
      obtain ⟨rfl, rfl, rfl, rfl, rfl⟩ := ek
      have ix := z1 x
      have hT := T59_all hv (pl := pl) (s := false) hx
      have mx := hv.2.2 x hx
      unfold HD.okMv at mx
      rw [← ev] at hT hstep
      (repeat' (first | exact trivial | exact fun _ => rfl | exact rfl | refine And.intro ?_ ?_))
      all_goals first | (first | omega | exact u0 (by omega) | exact u1 (by omega) | exact u1 ⟨by omega, by omega⟩ | exact un (by omega) | exact fun hh => hh | exact fun hh => absurd hh (by decide) | exact fun hh => congrArg not hh | exact fun hh => Bool.noConfusion (show true = false from hh) | exact fun hh => Bool.noConfusion (show false = true from hh)) | skip
      intro _
      (repeat' (first | exact trivial | exact fun _ => rfl | exact rfl | refine And.intro ?_ ?_))
      all_goals first | (first | omega | exact u0 (by omega) | exact u1 (by omega) | exact u1 ⟨by omega, by omega⟩ | exact un (by omega) | exact fun hh => hh | exact fun hh => absurd hh (by decide) | exact fun hh => congrArg not hh | exact fun hh => Bool.noConfusion (show true = false from hh) | exact fun hh => Bool.noConfusion (show false = true from hh)) | skip
      all_goals first | (show v - h.at' x ≤ 9223372036854775807; omega) | (show -9223372036854775808 ≤ v - h.at' x; omega) | skip
      refine ⟨(r1 ++ r2, fun k => if k = x then v - h.at' x else F k, some ([h.at' x, h.pl x, h.lo x, h.hi x, (x : Int)], [v])), hstep, by simp only [List.length_append, List.length_cons]; omega, ?_⟩
      refine ent_tau [0, 1, 2, 3, 4, 5, 6] ⟨?_, by (repeat' (first | exact trivial | exact rfl | exact congrArg (SV.int .i64) (Int.natCast_succ _).symm | exact congrArg (SV.int .u64) (Int.natCast_succ _).symm | refine And.intro ?_ ?_)), rfl⟩
      (repeat' (first | exact trivial | exact rfl | exact fun _ _ => rfl | exact fun _ _ _ _ => rfl | exact Or.inl rfl | exact Or.inr rfl | refine And.intro ?_ ?_))
      exact fun m _ => upd_lo F (fun _ => 0) x (v - h.at' x) m
  · obtain ⟨rfl, rfl⟩ := okV hq hv
    refine ⟨rfl, ?_⟩
    (repeat' (first | exact trivial | exact fun _ => rfl | exact rfl | refine And.intro ?_ ?_))
    all_goals first | (first | omega | exact u0 (by omega) | exact u1 (by omega) | exact u1 ⟨by omega, by omega⟩ | exact un (by omega) | exact fun hh => hh | exact fun hh => absurd hh (by decide) | exact fun hh => congrArg not hh | exact fun hh => Bool.noConfusion (show true = false from hh) | exact fun hh => Bool.noConfusion (show false = true from hh)) | skip
    intro _
    (repeat' (first | exact trivial | exact fun _ => rfl | exact rfl | refine And.intro ?_ ?_))
    all_goals first | (first | omega | exact u0 (by omega) | exact u1 (by omega) | exact u1 ⟨by omega, by omega⟩ | exact un (by omega) | exact fun hh => hh | exact fun hh => absurd hh (by decide) | exact fun hh => congrArg not hh | exact fun hh => Bool.noConfusion (show true = false from hh) | exact fun hh => Bool.noConfusion (show false = true from hh)) | skip
    intro _
    (repeat' (first | exact trivial | exact fun _ => rfl | exact rfl | refine And.intro ?_ ?_))
    all_goals first | (first | omega | exact u0 (by omega) | exact u1 (by omega) | exact u1 ⟨by omega, by omega⟩ | exact un (by omega) | exact fun hh => hh | exact fun hh => absurd hh (by decide) | exact fun hh => congrArg not hh | exact fun hh => Bool.noConfusion (show true = false from hh) | exact fun hh => Bool.noConfusion (show false = true from hh)) | skip
    refine ⟨_, _, ⟨rfl, rfl⟩, ?_⟩
    exact ent_tau [0, 1] ⟨by (repeat' (first | exact trivial | exact rfl | exact fun _ _ => rfl | exact Or.inl rfl | refine And.intro ?_ ?_)), by (repeat' (first | exact trivial | exact rfl | exact congrArg (SV.int .i64) (Int.natCast_succ _).symm | exact congrArg (SV.int .u64) (Int.natCast_succ _).symm | refine And.intro ?_ ?_)), rfl⟩
  · obtain ⟨rfl, rfl⟩ := okP hq hv (by rw [hc, hc1])
    refine ⟨rfl, ?_⟩
    (repeat' (first | exact trivial | exact fun _ => rfl | exact rfl | refine And.intro ?_ ?_))
    all_goals first | (first | omega | exact u0 (by omega) | exact u1 (by omega) | exact u1 ⟨by omega, by omega⟩ | exact un (by omega) | exact fun hh => hh | exact fun hh => absurd hh (by decide) | exact fun hh => congrArg not hh | exact fun hh => Bool.noConfusion (show true = false from hh) | exact fun hh => Bool.noConfusion (show false = true from hh)) | skip
    intro _
    (repeat' (first | exact trivial | exact fun _ => rfl | exact rfl | refine And.intro ?_ ?_))
    all_goals first | (first | omega | exact u0 (by omega) | exact u1 (by omega) | exact u1 ⟨by omega, by omega⟩ | exact un (by omega) | exact fun hh => hh | exact fun hh => absurd hh (by decide) | exact fun hh => congrArg not hh | exact fun hh => Bool.noConfusion (show true = false from hh) | exact fun hh => Bool.noConfusion (show false = true from hh)) | skip
    intro _
    (repeat' (first | exact trivial | exact fun _ => rfl | exact rfl | refine And.intro ?_ ?_))
    all_goals first | (first | omega | exact u0 (by omega) | exact u1 (by omega) | exact u1 ⟨by omega, by omega⟩ | exact un (by omega) | exact fun hh => hh | exact fun hh => absurd hh (by decide) | exact fun hh => congrArg not hh | exact fun hh => Bool.noConfusion (show true = false from hh) | exact fun hh => Bool.noConfusion (show false = true from hh)) | skip
    refine ⟨_, _, ⟨rfl, rfl⟩, ?_⟩
    exact ent_tau [0, 1] ⟨by (repeat' (first | exact trivial | exact rfl | exact fun _ _ => rfl | exact Or.inl rfl | refine And.intro ?_ ?_)), by (repeat' (first | exact trivial | exact rfl | exact congrArg (SV.int .i64) (Int.natCast_succ _).symm | exact congrArg (SV.int .u64) (Int.natCast_succ _).symm | refine And.intro ?_ ?_)), rfl⟩
  · obtain ⟨q1, q2, rfl, rfl⟩ := okQ hq hv (by rw [hc, hc1])
    have hpl : pok h pl = true := by rw [hc, hc1]
    have hn7 := hv.2.1
    refine ⟨rfl, ?_⟩
    (repeat' (first | exact trivial | exact fun _ => rfl | exact rfl | refine And.intro ?_ ?_))
    all_goals first | (first | omega | exact u0 (by omega) | exact u1 (by omega) | exact u1 ⟨by omega, by omega⟩ | exact un (by omega) | exact fun hh => hh | exact fun hh => absurd hh (by decide) | exact fun hh => congrArg not hh | exact fun hh => Bool.noConfusion (show true = false from hh) | exact fun hh => Bool.noConfusion (show false = true from hh)) | (show ((16 : Nat) : Int) * (h.n : Nat) ≤ 281474976710656; omega) | skip
    refine (t59 h hv pl hpl false).use [0, 1] ?_ (by (repeat' (first | exact trivial | exact rfl | exact fun _ _ => rfl | exact fun _ _ _ _ => rfl | exact Or.inl rfl | exact Or.inr rfl | refine And.intro ?_ ?_))) rfl
    (repeat' (first | exact trivial | exact fun _ => rfl | exact rfl | refine And.intro ?_ ?_))
    refine loopP E_ok [1, 4] (fun g : GL × (Nat → Int) × Option (List Int × List Int) => [(5, .ptr 3 0), (6, .ptr 4 0), (7, .slice 5 2 0 h.n h.n), (26, .ptr 6 0)])
      (fun g _ => HD.H h ++ [some (.roa 1 pl.n (PD.F pl)), some (.cells [.int .i64 h.pace, .osl h.b 0 4 h.n h.cap]), some (.cells [.int .i64 0]), some (.cells [.int .i64 h.pace, .osl h.b 0 4 h.n h.cap]), some (.arr 2 h.n h.n fun k => [.int .i64 (g.2.1 k), .int .i64 0]), some (.giter g94 g.1 g.2.2)])
      (fun g => LeftOk h (T59 h pl false) g.1 g.2.1) (fun g => g.1.length) (outM h (srtF h.at' h.n) (T59 h pl false) h.n, fun _ => 0, none) (left_start h _ _) ?_ ?_
    · exact ent_tau [0, 1, 2, 3, 6, 7, 9] ⟨by (repeat' (first | exact trivial | exact rfl | exact fun _ _ => rfl | exact fun _ _ _ _ => rfl | exact Or.inl rfl | exact Or.inr rfl | refine And.intro ?_ ?_)), by (repeat' (first | exact trivial | exact rfl | exact congrArg (SV.int .i64) (Int.natCast_succ _).symm | exact congrArg (SV.int .u64) (Int.natCast_succ _).symm | refine And.intro ?_ ?_)), rfl⟩
    rintro ⟨L, F, cur⟩ hL
    simp only at hL
    (repeat' (first | exact trivial | exact fun _ => rfl | exact rfl | refine And.intro ?_ ?_))
    · intro hL0
      replace hL0 : L = [] := hL0
      subst hL0
      have hF := left_end hL
      (repeat' (first | exact trivial | exact fun _ => rfl | exact rfl | refine And.intro ?_ ?_))
      all_goals first | (first | omega | exact u0 (by omega) | exact u1 (by omega) | exact u1 ⟨by omega, by omega⟩ | exact un (by omega) | exact fun hh => hh | exact fun hh => absurd hh (by decide) | exact fun hh => congrArg not hh | exact fun hh => Bool.noConfusion (show true = false from hh) | exact fun hh => Bool.noConfusion (show false = true from hh)) | skip
      intro _
      (repeat' (first | exact trivial | exact fun _ => rfl | exact rfl | refine And.intro ?_ ?_))
      all_goals first | (first | omega | exact u0 (by omega) | exact u1 (by omega) | exact u1 ⟨by omega, by omega⟩ | exact un (by omega) | exact fun hh => hh | exact fun hh => absurd hh (by decide) | exact fun hh => congrArg not hh | exact fun hh => Bool.noConfusion (show true = false from hh) | exact fun hh => Bool.noConfusion (show false = true from hh)) | skip
      refine (t59 h hv pl hpl true).use [0, 1] ?_ (by (repeat' (first | exact trivial | exact rfl | exact fun _ _ => rfl | exact fun _ _ _ _ => rfl | exact Or.inl rfl | exact Or.inr rfl | refine And.intro ?_ ?_))) rfl
      (repeat' (first | exact trivial | exact fun _ => rfl | exact rfl | refine And.intro ?_ ?_))
      refine loopP E_ok [1, 4] (fun g : GL × (Nat → Int) × Option (List Int × List Int) => [(5, .ptr 3 0), (6, .ptr 4 0), (7, .slice 5 2 0 h.n h.n), (47, .ptr 6 0)])
        (fun g _ => HD.H h ++ [some (.roa 1 pl.n (PD.F pl)), some (.cells [.int .i64 h.pace, .osl h.b 0 4 h.n h.cap]), some (.cells [.int .i64 0]), some (.cells [.int .i64 h.pace, .osl h.b 0 4 h.n h.cap]), some (.arr 2 h.n h.n fun k => [.int .i64 (T59 h pl false k - h.at' k), .int .i64 (g.2.1 k)]), some (.giter g94 g.1 g.2.2)])
        (fun g => LeftOk h (T59 h pl true) g.1 g.2.1) (fun g => g.1.length) (outM h (srtF h.at' h.n) (T59 h pl true) h.n, fun _ => 0, none) (left_start h _ _) ?_ ?_
      · refine ent_tau [0, 1, 2, 3, 4, 5, 8] ⟨?_, by (repeat' (first | exact trivial | exact rfl | exact congrArg (SV.int .i64) (Int.natCast_succ _).symm | exact congrArg (SV.int .u64) (Int.natCast_succ _).symm | refine And.intro ?_ ?_)), rfl⟩
        (repeat' (first | exact trivial | exact rfl | exact fun _ _ => rfl | exact fun _ _ _ _ => rfl | exact Or.inl rfl | exact Or.inr rfl | refine And.intro ?_ ?_))
        exact fun k hk => by
          show [SV.int .i64 (F k), SV.int .i64 0] = _
          rw [hF k hk]
          rfl
      rintro ⟨L, F, cur⟩ hL
      simp only at hL
      (repeat' (first | exact trivial | exact fun _ => rfl | exact rfl | refine And.intro ?_ ?_))
      · intro hL0
        replace hL0 : L = [] := hL0
        subst hL0
        have hF := left_end hL
        (repeat' (first | exact trivial | exact fun _ => rfl | exact rfl | refine And.intro ?_ ?_))
        all_goals first | (first | omega | exact u0 (by omega) | exact u1 (by omega) | exact u1 ⟨by omega, by omega⟩ | exact un (by omega) | exact fun hh => hh | exact fun hh => absurd hh (by decide) | exact fun hh => congrArg not hh | exact fun hh => Bool.noConfusion (show true = false from hh) | exact fun hh => Bool.noConfusion (show false = true from hh)) | skip
        intro _
        (repeat' (first | exact trivial | exact fun _ => rfl | exact rfl | refine And.intro ?_ ?_))
        all_goals first | (first | omega | exact u0 (by omega) | exact u1 (by omega) | exact u1 ⟨by omega, by omega⟩ | exact un (by omega) | exact fun hh => hh | exact fun hh => absurd hh (by decide) | exact fun hh => congrArg not hh | exact fun hh => Bool.noConfusion (show true = false from hh) | exact fun hh => Bool.noConfusion (show false = true from hh)) | skip
        intro _
        (repeat' (first | exact trivial | exact fun _ => rfl | exact rfl | refine And.intro ?_ ?_))
        all_goals first | (first | omega | exact u0 (by omega) | exact u1 (by omega) | exact u1 ⟨by omega, by omega⟩ | exact un (by omega) | exact fun hh => hh | exact fun hh => absurd hh (by decide) | exact fun hh => congrArg not hh | exact fun hh => Bool.noConfusion (show true = false from hh) | exact fun hh => Bool.noConfusion (show false = true from hh)) | skip
        refine ⟨_, _, ⟨rfl, rfl⟩, ?_⟩
        refine ent_tau [0, 1, 5] ⟨?_, by (repeat' (first | exact trivial | exact rfl | exact congrArg (SV.int .i64) (Int.natCast_succ _).symm | exact congrArg (SV.int .u64) (Int.natCast_succ _).symm | refine And.intro ?_ ?_)), rfl⟩
        (repeat' (first | exact trivial | exact rfl | exact fun _ _ => rfl | exact fun _ _ _ _ => rfl | exact Or.inl rfl | exact Or.inr rfl | refine And.intro ?_ ?_))
        exact fun k hk => by
          show [SV.int .i64 (T59 h pl false k - h.at' k), SV.int .i64 (F k)] = _
          rw [hF k hk]
          rfl
      · intro r1 r2 a b c d e v hE
        replace hE : L = r1 ++ ([a, b, c, d, e], [v]) :: r2 := hE
        subst hE
        obtain ⟨x, hx, ex, hstep⟩ := left_step hL
        have ev : v = T59 h pl true x := (List.cons.inj (Prod.mk.inj ex).2).1
        have ek := (Prod.mk.inj ex).1
        unfold turnL at ek
        simp only [List.cons.injEq, and_true] at ek
        obtain ⟨rfl, rfl, rfl, rfl, rfl⟩ := ek
        have ix := z1 x
        have hT := T59_all hv (pl := pl) (s := true) hx
        have mx := hv.2.2 x hx
        unfold HD.okMv at mx
        rw [← ev] at hT hstep
        (repeat' (first | exact trivial | exact fun _ => rfl | exact rfl | refine And.intro ?_ ?_))
        all_goals first | (first | omega | exact u0 (by omega) | exact u1 (by omega) | exact u1 ⟨by omega, by omega⟩ | exact un (by omega) | exact fun hh => hh | exact fun hh => absurd hh (by decide) | exact fun hh => congrArg not hh | exact fun hh => Bool.noConfusion (show true = false from hh) | exact fun hh => Bool.noConfusion (show false = true from hh)) | skip
        intro _
        (repeat' (first | exact trivial | exact fun _ => rfl | exact rfl | refine And.intro ?_ ?_))
        all_goals first | (first | omega | exact u0 (by omega) | exact u1 (by omega) | exact u1 ⟨by omega, by omega⟩ | exact un (by omega) | exact fun hh => hh | exact fun hh => absurd hh (by decide) | exact fun hh => congrArg not hh | exact fun hh => Bool.noConfusion (show true = false from hh) | exact fun hh => Bool.noConfusion (show false = true from hh)) | skip
        all_goals first | (show v - h.at' x ≤ 9223372036854775807; omega) | (show -9223372036854775808 ≤ v - h.at' x; omega) | skip
        refine ⟨(r1 ++ r2, fun k => if k = x then v - h.at' x else F k, some ([h.at' x, h.pl x, h.lo x, h.hi x, (x : Int)], [v])), hstep, by simp only [List.length_append, List.length_cons]; omega, ?_⟩
        refine ent_tau [0, 1, 2, 3, 4, 5, 6] ⟨?_, by (repeat' (first | exact trivial | exact rfl | exact congrArg (SV.int .i64) (Int.natCast_succ _).symm | exact congrArg (SV.int .u64) (Int.natCast_succ _).symm | refine And.intro ?_ ?_)), rfl⟩
        (repeat' (first | exact trivial | exact rfl | exact fun _ _ => rfl | exact fun _ _ _ _ => rfl | exact Or.inl rfl | exact Or.inr rfl | refine And.intro ?_ ?_))
        exact fun m _ => upd_hi (fun k => T59 h pl false k - h.at' k) F x (v - h.at' x) m
    · intro r1 r2 a b c d e v hE
      replace hE : L = r1 ++ ([a, b, c, d, e], [v]) :: r2 := hE
      subst hE
      obtain ⟨x, hx, ex, hstep⟩ := left_step hL
      have ev : v = T59 h pl false x := (List.cons.inj (Prod.mk.inj ex).2).1
      have ek := (Prod.mk.inj ex).1
      unfold turnL at ek
      simp only [List.cons.injEq, and_true] at ek
      obtain ⟨rfl, rfl, rfl, rfl, rfl⟩ := ek
      have ix := z1 x
      have hT := T59_all hv (pl := pl) (s := false) hx
      have mx := hv.2.2 x hx
      unfold HD.okMv at mx
      rw [← ev] at hT hstep
      (repeat' (first | exact trivial | exact fun _ => rfl | exact rfl | refine And.intro ?_ ?_))
      all_goals first | (first | omega | exact u0 (by omega) | exact u1 (by omega) | exact u1 ⟨by omega, by omega⟩ | exact un (by omega) | exact fun hh => hh | exact fun hh => absurd hh (by decide) | exact fun hh => congrArg not hh | exact fun hh => Bool.noConfusion (show true = false from hh) | exact fun hh => Bool.noConfusion (show false = true from hh)) | skip
      intro _
      (repeat' (first | exact trivial | exact fun _ => rfl | exact rfl | refine And.intro ?_ ?_))
      all_goals first | (first | omega | exact u0 (by omega) | exact u1 (by omega) | exact u1 ⟨by omega, by omega⟩ | exact un (by omega) | exact fun hh => hh | exact fun hh => absurd hh (by decide) | exact fun hh => congrArg not hh | exact fun hh => Bool.noConfusion (show true = false from hh) | exact fun hh => Bool.noConfusion (show false = true from hh)) | skip
      all_goals first | (show v - h.at' x ≤ 9223372036854775807; omega) | (show -9223372036854775808 ≤ v - h.at' x; omega) | skip
      refine ⟨(r1 ++ r2, fun k => if k = x then v - h.at' x else F k, some ([h.at' x, h.pl x, h.lo x, h.hi x, (x : Int)], [v])), hstep, by simp only [List.length_append, List.length_cons]; omega, ?_⟩
      refine ent_tau [0, 1, 2, 3, 4, 5, 6] ⟨?_, by (repeat' (first | exact trivial | exact rfl | exact congrArg (SV.int .i64) (Int.natCast_succ _).symm | exact congrArg (SV.int .u64) (Int.natCast_succ _).symm | refine And.intro ?_ ?_)), rfl⟩
      (repeat' (first | exact trivial | exact rfl | exact fun _ _ => rfl | exact fun _ _ _ _ => rfl | exact Or.inl rfl | exact Or.inr rfl | refine And.intro ?_ ?_))
      exact fun m _ => upd_lo F (fun _ => 0) x (v - h.at' x) m
  · obtain ⟨rfl, rfl⟩ := okV hq hv
    refine ⟨rfl, ?_⟩
    (repeat' (first | exact trivial | exact fun _ => rfl | exact rfl | refine And.intro ?_ ?_))
    all_goals first | (first | omega | exact u0 (by omega) | exact u1 (by omega) | exact u1 ⟨by omega, by omega⟩ | exact un (by omega) | exact fun hh => hh | exact fun hh => absurd hh (by decide) | exact fun hh => congrArg not hh | exact fun hh => Bool.noConfusion (show true = false from hh) | exact fun hh => Bool.noConfusion (show false = true from hh)) | skip
    intro _
    (repeat' (first | exact trivial | exact fun _ => rfl | exact rfl | refine And.intro ?_ ?_))
    all_goals first | (first | omega | exact u0 (by omega) | exact u1 (by omega) | exact u1 ⟨by omega, by omega⟩ | exact un (by omega) | exact fun hh => hh | exact fun hh => absurd hh (by decide) | exact fun hh => congrArg not hh | exact fun hh => Bool.noConfusion (show true = false from hh) | exact fun hh => Bool.noConfusion (show false = true from hh)) | skip
    intro _
    (repeat' (first | exact trivial | exact fun _ => rfl | exact rfl | refine And.intro ?_ ?_))
    all_goals first | (first | omega | exact u0 (by omega) | exact u1 (by omega) | exact u1 ⟨by omega, by omega⟩ | exact un (by omega) | exact fun hh => hh | exact fun hh => absurd hh (by decide) | exact fun hh => congrArg not hh | exact fun hh => Bool.noConfusion (show true = false from hh) | exact fun hh => Bool.noConfusion (show false = true from hh)) | skip
    refine ⟨_, _, ⟨rfl, rfl⟩, ?_⟩
    exact ent_tau [0, 1] ⟨by (repeat' (first | exact trivial | exact rfl | exact fun _ _ => rfl | exact Or.inl rfl | refine And.intro ?_ ?_)), by (repeat' (first | exact trivial | exact rfl | exact congrArg (SV.int .i64) (Int.natCast_succ _).symm | exact congrArg (SV.int .u64) (Int.natCast_succ _).symm | refine And.intro ?_ ?_)), rfl⟩
  · obtain ⟨rfl, rfl⟩ := okP hq hv (by rw [hc, hc1])
    refine ⟨rfl, ?_⟩
    (repeat' (first | exact trivial | exact fun _ => rfl | exact rfl | refine And.intro ?_ ?_))
    all_goals first | (first | omega | exact u0 (by omega) | exact u1 (by omega) | exact u1 ⟨by omega, by omega⟩ | exact un (by omega) | exact fun hh => hh | exact fun hh => absurd hh (by decide) | exact fun hh => congrArg not hh | exact fun hh => Bool.noConfusion (show true = false from hh) | exact fun hh => Bool.noConfusion (show false = true from hh)) | skip
    intro _
    (repeat' (first | exact trivial | exact fun _ => rfl | exact rfl | refine And.intro ?_ ?_))
    all_goals first | (first | omega | exact u0 (by omega) | exact u1 (by omega) | exact u1 ⟨by omega, by omega⟩ | exact un (by omega) | exact fun hh => hh | exact fun hh => absurd hh (by decide) | exact fun hh => congrArg not hh | exact fun hh => Bool.noConfusion (show true = false from hh) | exact fun hh => Bool.noConfusion (show false = true from hh)) | skip
    intro _
    (repeat' (first | exact trivial | exact fun _ => rfl | exact rfl | refine And.intro ?_ ?_))
    all_goals first | (first | omega | exact u0 (by omega) | exact u1 (by omega) | exact u1 ⟨by omega, by omega⟩ | exact un (by omega) | exact fun hh => hh | exact fun hh => absurd hh (by decide) | exact fun hh => congrArg not hh | exact fun hh => Bool.noConfusion (show true = false from hh) | exact fun hh => Bool.noConfusion (show false = true from hh)) | skip
    refine ⟨_, _, ⟨rfl, rfl⟩, ?_⟩
    exact ent_tau [0, 1] ⟨by (repeat' (first | exact trivial | exact rfl | exact fun _ _ => rfl | exact Or.inl rfl | refine And.intro ?_ ?_)), by (repeat' (first | exact trivial | exact rfl | exact congrArg (SV.int .i64) (Int.natCast_succ _).symm | exact congrArg (SV.int .u64) (Int.natCast_succ _).symm | refine And.intro ?_ ?_)), rfl⟩
  · obtain ⟨q1, q2, rfl, rfl⟩ := okQ hq hv (by rw [hc, hc1])
    have hpl : pok h pl = true := by rw [hc, hc1]
    have hn7 := hv.2.1
    refine ⟨rfl, ?_⟩
    (repeat' (first | exact trivial | exact fun _ => rfl | exact rfl | refine And.intro ?_ ?_))
    all_goals first | (first | omega | exact u0 (by omega) | exact u1 (by omega) | exact u1 ⟨by omega, by omega⟩ | exact un (by omega) | exact fun hh => hh | exact fun hh => absurd hh (by decide) | exact fun hh => congrArg not hh | exact fun hh => Bool.noConfusion (show true = false from hh) | exact fun hh => Bool.noConfusion (show false = true from hh)) | (show ((16 : Nat) : Int) * (h.n : Nat) ≤ 281474976710656; omega) | skip
    refine (t59 h hv pl hpl false).use [0, 1] ?_ (by (repeat' (first | exact trivial | exact rfl | exact fun _ _ => rfl | exact fun _ _ _ _ => rfl | exact Or.inl rfl | exact Or.inr rfl | refine And.intro ?_ ?_))) rfl
    (repeat' (first | exact trivial | exact fun _ => rfl | exact rfl | refine And.intro ?_ ?_))
    refine loopP E_ok [1, 4] (fun g : GL × (Nat → Int) × Option (List Int × List Int) => [(5, .ptr 3 0), (6, .ptr 4 0), (7, .slice 5 2 0 h.n h.n), (26, .ptr 6 0)])
      (fun g _ => HD.H h ++ [some (.roa 1 pl.n (PD.F pl)), some (.cells [.int .i64 h.pace, .osl h.b 0 4 h.n h.cap]), some (.cells [.int .i64 0]), some (.cells [.int .i64 h.pace, .osl h.b 0 4 h.n h.cap]), some (.arr 2 h.n h.n fun k => [.int .i64 (g.2.1 k), .int .i64 0]), some (.giter g94 g.1 g.2.2)])
      (fun g => LeftOk h (T59 h pl false) g.1 g.2.1) (fun g => g.1.length) (outM h (srtF h.at' h.n) (T59 h pl false) h.n, fun _ => 0, none) (left_start h _ _) ?_ ?_
    · exact ent_tau [0, 1, 2, 3, 4, 7, 9] ⟨by (repeat' (first | exact trivial | exact rfl | exact fun _ _ => rfl | exact fun _ _ _ _ => rfl | exact Or.inl rfl | exact Or.inr rfl | refine And.intro ?_ ?_)), by (repeat' (first | exact trivial | exact rfl | exact congrArg (SV.int .i64) (Int.natCast_succ _).symm | exact congrArg (SV.int .u64) (Int.natCast_succ _).symm | refine And.intro ?_ ?_)), rfl⟩
    rintro ⟨L, F, cur⟩ hL
    simp only at hL
    (repeat' (first | exact trivial | exact fun _ => rfl | exact rfl | refine And.intro ?_ ?_))
    · intro hL0
      replace hL0 : L = [] := hL0
      subst hL0
      have hF := left_end hL
      (repeat' (first | exact trivial | exact fun _ => rfl | exact rfl | refine And.intro ?_ ?_))
      all_goals first | (first | omega | exact u0 (by omega) | exact u1 (by omega) | exact u1 ⟨by omega, by omega⟩ | exact un (by omega) | exact fun hh => hh | exact fun hh => absurd hh (by decide) | exact fun hh => congrArg not hh | exact fun hh => Bool.noConfusion (show true = false from hh) | exact fun hh => Bool.noConfusion (show false = true from hh)) | skip
      intro _
      (repeat' (first | exact trivial | exact fun _ => rfl | exact rfl | refine And.intro ?_ ?_))
      all_goals first | (first | omega | exact u0 (by omega) | exact u1 (by omega) | exact u1 ⟨by omega, by omega⟩ | exact un (by omega) | exact fun hh => hh | exact fun hh => absurd hh (by decide) | exact fun hh => congrArg not hh | exact fun hh => Bool.noConfusion (show true = false from hh) | exact fun hh => Bool.noConfusion (show false = true from hh)) | skip
      refine (t59 h hv pl hpl true).use [0, 1] ?_ (by (repeat' (first | exact trivial | exact rfl | exact fun _ _ => rfl | exact fun _ _ _ _ => rfl | exact Or.inl rfl | exact Or.inr rfl | refine And.intro ?_ ?_))) rfl
      (repeat' (first | exact trivial | exact fun _ => rfl | exact rfl | refine And.intro ?_ ?_))
      refine loopP E_ok [1, 4] (fun g : GL × (Nat → Int) × Option (List Int × List Int) => [(5, .ptr 3 0), (6, .ptr 4 0), (7, .slice 5 2 0 h.n h.n), (47, .ptr 6 0)])
        (fun g _ => HD.H h ++ [some (.roa 1 pl.n (PD.F pl)), some (.cells [.int .i64 h.pace, .osl h.b 0 4 h.n h.cap]), some (.cells [.int .i64 0]), some (.cells [.int .i64 h.pace, .osl h.b 0 4 h.n h.cap]), some (.arr 2 h.n h.n fun k => [.int .i64 (T59 h pl false k - h.at' k), .int .i64 (g.2.1 k)]), some (.giter g94 g.1 g.2.2)])
        (fun g => LeftOk h (T59 h pl true) g.1 g.2.1) (fun g => g.1.length) (outM h (srtF h.at' h.n) (T59 h pl true) h.n, fun _ => 0, none) (left_start h _ _) ?_ ?_
      · refine ent_tau [0, 1, 2, 3, 4, 5, 8] ⟨?_, by (repeat' (first | exact trivial | exact rfl | exact congrArg (SV.int .i64) (Int.natCast_succ _).symm | exact congrArg (SV.int .u64) (Int.natCast_succ _).symm | refine And.intro ?_ ?_)), rfl⟩
        (repeat' (first | exact trivial | exact rfl | exact fun _ _ => rfl | exact fun _ _ _ _ => rfl | exact Or.inl rfl | exact Or.inr rfl | refine And.intro ?_ ?_))
        exact fun k hk => by
          show [SV.int .i64 (F k), SV.int .i64 0] = _
          rw [hF k hk]
          rfl
      rintro ⟨L, F, cur⟩ hL
      simp only at hL
      (repeat' (first | exact trivial | exact fun _ => rfl | exact rfl | refine And.intro ?_ ?_))
      · intro hL0
        replace hL0 : L = [] := hL0
        subst hL0
        have hF := left_end hL
        (repeat' (first | exact trivial | exact fun _ => rfl | exact rfl | refine And.intro ?_ ?_))
        all_goals first | (first | omega | exact u0 (by omega) | exact u1 (by omega) | exact u1 ⟨by omega, by omega⟩ | exact un (by omega) | exact fun hh => hh | exact fun hh => absurd hh (by decide) | exact fun hh => congrArg not hh | exact fun hh => Bool.noConfusion (show true = false from hh) | exact fun hh => Bool.noConfusion (show false = true from hh)) | skip
        intro _
        (repeat' (first | exact trivial | exact fun _ => rfl | exact rfl | refine And.intro ?_ ?_))
        all_goals first | (first | omega | exact u0 (by omega) | exact u1 (by omega) | exact u1 ⟨by omega, by omega⟩ | exact un (by omega) | exact fun hh => hh | exact fun hh => absurd hh (by decide) | exact fun hh => congrArg not hh | exact fun hh => Bool.noConfusion (show true = false from hh) | exact fun hh => Bool.noConfusion (show false = true from hh)) | skip
        intro _
        (repeat' (first | exact trivial | exact fun _ => rfl | exact rfl | refine And.intro ?_ ?_))
        all_goals first | (first | omega | exact u0 (by omega) | exact u1 (by omega) | exact u1 ⟨by omega, by omega⟩ | exact un (by omega) | exact fun hh => hh | exact fun hh => absurd hh (by decide) | exact fun hh => congrArg not hh | exact fun hh => Bool.noConfusion (show true = false from hh) | exact fun hh => Bool.noConfusion (show false = true from hh)) | skip
        refine ⟨_, _, ⟨rfl, rfl⟩, ?_⟩
        refine ent_tau [0, 1, 5] ⟨?_, by (repeat' (first | exact trivial | exact rfl | exact congrArg (SV.int .i64) (Int.natCast_succ _).symm | exact congrArg (SV.int .u64) (Int.natCast_succ _).symm | refine And.intro ?_ ?_)), rfl⟩
        (repeat' (first | exact trivial | exact rfl | exact fun _ _ => rfl | exact fun _ _ _ _ => rfl | exact Or.inl rfl | exact Or.inr rfl | refine And.intro ?_ ?_))
        exact fun k hk => by
          show [SV.int .i64 (T59 h pl false k - h.at' k), SV.int .i64 (F k)] = _
          rw [hF k hk]
          rfl
      · intro r1 r2 a b c d e v hE
        replace hE : L = r1 ++ ([a, b, c, d, e], [v]) :: r2 := hE
        subst hE
        obtain ⟨x, hx, ex, hstep⟩ := left_step hL
        have ev : v = T59 h pl true x := (List.cons.inj (Prod.mk.inj ex).2).1
        have ek := (Prod.mk.inj ex).1
        unfold turnL at ek
        simp only [List.cons.injEq, and_true] at ek
        obtain ⟨rfl, rfl, rfl, rfl, rfl⟩ := ek
        have ix := z1 x
        have hT := T59_all hv (pl := pl) (s := true) hx
        have mx := hv.2.2 x hx
        unfold HD.okMv at mx
        rw [← ev] at hT hstep
        (repeat' (first | exact trivial | exact fun _ => rfl | exact rfl | refine And.intro ?_ ?_))
        all_goals first | (first | omega | exact u0 (by omega) | exact u1 (by omega) | exact u1 ⟨by omega, by omega⟩ | exact un (by omega) | exact fun hh => hh | exact fun hh => absurd hh (by decide) | exact fun hh => congrArg not hh | exact fun hh => Bool.noConfusion (show true = false from hh) | exact fun hh => Bool.noConfusion (show false = true from hh)) | skip
        intro _
        (repeat' (first | exact trivial | exact fun _ => rfl | exact rfl | refine And.intro ?_ ?_))
        all_goals first | (first | omega | exact u0 (by omega) | exact u1 (by omega) | exact u1 ⟨by omega, by omega⟩ | exact un (by omega) | exact fun hh => hh | exact fun hh => absurd hh (by decide) | exact fun hh => congrArg not hh | exact fun hh => Bool.noConfusion (show true = false from hh) | exact fun hh => Bool.noConfusion (show false = true from hh)) | skip
        all_goals first | (show v - h.at' x ≤ 9223372036854775807; omega) | (show -9223372036854775808 ≤ v - h.at' x; omega) | skip
        refine ⟨(r1 ++ r2, fun k => if k = x then v - h.at' x else F k, some ([h.at' x, h.pl x, h.lo x, h.hi x, (x : Int)], [v])), hstep, by simp only [List.length_append, List.length_cons]; omega, ?_⟩
        refine ent_tau [0, 1, 2, 3, 4, 5, 6] ⟨?_, by (repeat' (first | exact trivial | exact rfl | exact congrArg (SV.int .i64) (Int.natCast_succ _).symm | exact congrArg (SV.int .u64) (Int.natCast_succ _).symm | refine And.intro ?_ ?_)), rfl⟩
        (repeat' (first | exact trivial | exact rfl | exact fun _ _ => rfl | exact fun _ _ _ _ => rfl | exact Or.inl rfl | exact Or.inr rfl | refine And.intro ?_ ?_))
        exact fun m _ => upd_hi (fun k => T59 h pl false k - h.at' k) F x (v - h.at' x) m
    · intro r1 r2 a b c d e v hE
      replace hE : L = r1 ++ ([a, b, c, d, e], [v]) :: r2 := hE
      subst hE
      obtain ⟨x, hx, ex, hstep⟩ := left_step hL
      have ev : v = T59 h pl false x := (List.cons.inj (Prod.mk.inj ex).2).1
      have ek := (Prod.mk.inj ex).1
      unfold turnL at ek
      simp only [List.cons.injEq, and_true] at ek
      obtain ⟨rfl, rfl, rfl, rfl, rfl⟩ := ek
      have ix := z1 x
      have hT := T59_all hv (pl := pl) (s := false) hx
      have mx := hv.2.2 x hx
      unfold HD.okMv at mx
      rw [← ev] at hT hstep
      (repeat' (first | exact trivial | exact fun _ => rfl | exact rfl | refine And.intro ?_ ?_))
      all_goals first | (first | omega | exact u0 (by omega) | exact u1 (by omega) | exact u1 ⟨by omega, by omega⟩ | exact un (by omega) | exact fun hh => hh | exact fun hh => absurd hh (by decide) | exact fun hh => congrArg not hh | exact fun hh => Bool.noConfusion (show true = false from hh) | exact fun hh => Bool.noConfusion (show false = true from hh)) | skip
      intro _
      (repeat' (first | exact trivial | exact fun _ => rfl | exact rfl | refine And.intro ?_ ?_))
      all_goals first | (first | omega | exact u0 (by omega) | exact u1 (by omega) | exact u1 ⟨by omega, by omega⟩ | exact un (by omega) | exact fun hh => hh | exact fun hh => absurd hh (by decide) | exact fun hh => congrArg not hh | exact fun hh => Bool.noConfusion (show true = false from hh) | exact fun hh => Bool.noConfusion (show false = true from hh)) | skip
      all_goals first | (show v - h.at' x ≤ 9223372036854775807; omega) | (show -9223372036854775808 ≤ v - h.at' x; omega) | skip
      refine ⟨(r1 ++ r2, fun k => if k = x then v - h.at' x else F k, some ([h.at' x, h.pl x, h.lo x, h.hi x, (x : Int)], [v])), hstep, by simp only [List.length_append, List.length_cons]; omega, ?_⟩
      refine ent_tau [0, 1, 2, 3, 4, 5, 6] ⟨?_, by (repeat' (first | exact trivial | exact rfl | exact congrArg (SV.int .i64) (Int.natCast_succ _).symm | exact congrArg (SV.int .u64) (Int.natCast_succ _).symm | refine And.intro ?_ ?_)), rfl⟩
      (repeat' (first | exact trivial | exact rfl | exact fun _ _ => rfl | exact fun _ _ _ _ => rfl | exact Or.inl rfl | exact Or.inr rfl | refine And.intro ?_ ?_))
      exact fun m _ => upd_lo F (fun _ => 0) x (v - h.at' x) m
  · obtain ⟨rfl, rfl⟩ := okV hq hv
    refine ⟨rfl, ?_⟩
    (repeat' (first | exact trivial | exact fun _ => rfl | exact rfl | refine And.intro ?_ ?_))
    all_goals first | (first | omega | exact u0 (by omega) | exact u1 (by omega) | exact u1 ⟨by omega, by omega⟩ | exact un (by omega) | exact fun hh => hh | exact fun hh => absurd hh (by decide) | exact fun hh => congrArg not hh | exact fun hh => Bool.noConfusion (show true = false from hh) | exact fun hh => Bool.noConfusion (show false = true from hh)) | skip
    intro _
    (repeat' (first | exact trivial | exact fun _ => rfl | exact rfl | refine And.intro ?_ ?_))
    all_goals first | (first | omega | exact u0 (by omega) | exact u1 (by omega) | exact u1 ⟨by omega, by omega⟩ | exact un (by omega) | exact fun hh => hh | exact fun hh => absurd hh (by decide) | exact fun hh => congrArg not hh | exact fun hh => Bool.noConfusion (show true = false from hh) | exact fun hh => Bool.noConfusion (show false = true from hh)) | skip
    intro _
    (repeat' (first | exact trivial | exact fun _ => rfl | exact rfl | refine And.intro ?_ ?_))
    all_goals first | (first | omega | exact u0 (by omega) | exact u1 (by omega) | exact u1 ⟨by omega, by omega⟩ | exact un (by omega) | exact fun hh => hh | exact fun hh => absurd hh (by decide) | exact fun hh => congrArg not hh | exact fun hh => Bool.noConfusion (show true = false from hh) | exact fun hh => Bool.noConfusion (show false = true from hh)) | skip
    refine ⟨_, _, ⟨rfl, rfl⟩, ?_⟩
    exact ent_tau [0, 1] ⟨by (repeat' (first | exact trivial | exact rfl | exact fun _ _ => rfl | exact Or.inl rfl | refine And.intro ?_ ?_)), by (repeat' (first | exact trivial | exact rfl | exact congrArg (SV.int .i64) (Int.natCast_succ _).symm | exact congrArg (SV.int .u64) (Int.natCast_succ _).symm | refine And.intro ?_ ?_)), rfl⟩
  · obtain ⟨rfl, rfl⟩ := okP hq hv (by rw [hc, hc1])
    refine ⟨rfl, ?_⟩
    (repeat' (first | exact trivial | exact fun _ => rfl | exact rfl | refine And.intro ?_ ?_))
    all_goals first | (first | omega | exact u0 (by omega) | exact u1 (by omega) | exact u1 ⟨by omega, by omega⟩ | exact un (by omega) | exact fun hh => hh | exact fun hh => absurd hh (by decide) | exact fun hh => congrArg not hh | exact fun hh => Bool.noConfusion (show true = false from hh) | exact fun hh => Bool.noConfusion (show false = true from hh)) | skip
    intro _
    (repeat' (first | exact trivial | exact fun _ => rfl | exact rfl | refine And.intro ?_ ?_))
    all_goals first | (first | omega | exact u0 (by omega) | exact u1 (by omega) | exact u1 ⟨by omega, by omega⟩ | exact un (by omega) | exact fun hh => hh | exact fun hh => absurd hh (by decide) | exact fun hh => congrArg not hh | exact fun hh => Bool.noConfusion (show true = false from hh) | exact fun hh => Bool.noConfusion (show false = true from hh)) | skip
    intro _
    (repeat' (first | exact trivial | exact fun _ => rfl | exact rfl | refine And.intro ?_ ?_))
    all_goals first | (first | omega | exact u0 (by omega) | exact u1 (by omega) | exact u1 ⟨by omega, by omega⟩ | exact un (by omega) | exact fun hh => hh | exact fun hh => absurd hh (by decide) | exact fun hh => congrArg not hh | exact fun hh => Bool.noConfusion (show true = false from hh) | exact fun hh => Bool.noConfusion (show false = true from hh)) | skip
    refine ⟨_, _, ⟨rfl, rfl⟩, ?_⟩
    exact ent_tau [0, 1] ⟨by (repeat' (first | exact trivial | exact rfl | exact fun _ _ => rfl | exact Or.inl rfl | refine And.intro ?_ ?_)), by (repeat' (first | exact trivial | exact rfl | exact congrArg (SV.int .i64) (Int.natCast_succ _).symm | exact congrArg (SV.int .u64) (Int.natCast_succ _).symm | refine And.intro ?_ ?_)), rfl⟩
end Go.Proofs.Ytgofhjihkinknaa
